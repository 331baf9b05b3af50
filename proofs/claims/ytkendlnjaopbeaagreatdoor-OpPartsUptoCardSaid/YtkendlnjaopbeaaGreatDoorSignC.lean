/- The package sign,walked: claim,Verify. -/
import Derived.Test.YtkendlnjaopbeaaGreatDoorJnAP
namespace Go.Proofs.YtkendlnjaopbeaaGreatDoor
open Go.RowKit
attribute [local irreducible] rwA bys iw
set_option linter.unusedVariables false
set_option linter.unusedSimpArgs false
set_option maxRecDepth 100000
instance (priority:=3000) zc_c32:ZC Tryz.prog 43 (bys (List.replicate 32 0)):=⟨by kernel_rfl⟩
def clOk (k f s:Nat):Prop:=upOk k∧upOk f∧s<SLn
def tP (k f:Nat)(p:List Nat):Pt:=(upPt f).add ((upPt k).times (chal f k p))
theorem up_on {k:Nat}(hk:k<T256)(h:upOk k):(upPt k).on:=by
 refine (pack_unpack ?_ h).1
 unfold upO
 have h2:T256=2 ^ 255 * 2:=by rw [T256_eq]
 have:k / 2 ^ 255<2:=by
  rw [Nat.div_lt_iff_lt_mul (Nat.two_pow_pos _),Nat.mul_comm]
  omega
 generalize k / 2 ^ 255=q at *
 omega
theorem tP_on {k f s:Nat}(hk:k<T256)(hf:f<T256)(h:clOk k f s)(p:List Nat):(tP k f p).on:=add_on (up_on hf h.2.1) (times_on (up_on hk h.1) _)
theorem unp_any (k:Nat)(hk:k<T256):∃ q e,(upOk k→q=upPt k∧e=0)∧(¬upOk k→e=4)∧∀ w,Calls Tryz.prog 26 [.agg (bys (lb k))].toArray w (Ret (.tuple #[pv q,.int .i64 e]) w):=by
 by_cases h:upOk k
 ·refine ⟨upPt k,0,fun _=>⟨rfl,rfl⟩,fun hn=>absurd h hn,fun w=>?_⟩
  rw [←bv_lb];exact unpack_yes hk h w
 ·refine ⟨⟨0,0⟩,4,fun hn=>absurd hn h,fun _=>rfl,fun w=>?_⟩
  rw [←bv_lb];exact unpack_no hk h w
theorem of_lb (a:Nat)(ha:a<T256)(w:World):Calls Tryz.prog 36 [.agg (bys (lb a))].toArray w (Ret (nu a) w):=by
 rw [←bv_lb];exact of_bv a ha w
set_option maxHeartbeats 4000000 in
theorem claim_len (w:World)(k:Nat){v u:Value}{m:Nat}{sig:List Nat}(hsig:Cb w u m sig)(hm:m≠64) :
  Calls Tryz.prog 104 [.agg (bys (lb k)),v,u].toArray w (Ret (.tuple #[nu 0,pv ⟨0,0⟩,.int .i64 1]) w):=by
 have i1:=hsig.old
 have t1:((m:Int) != 64)=true:=by rw [bne_iff_ne];omega
 clear hsig
 refine fn_ret (N:=_) Tryz.func104 rfl Tryz.ntmps104 Tryz.results104 (by simp) ?_
 simp only [initS,Nat.reduceAdd,Nat.zero_add]
 repeat' (first|(refine wlS ?_)|(refine wlR ?_)|(refine wlB ?_)|(refine wlNB ?_)|(refine wlE ?_)|(refine efSvvp ?_;intro v hv hp)|(refine efSvao ?_;intro v oa ho)|(refine efR ?_)|(refine efZCnn ?_;intro n hn)|(refine efBnn ?_;intro n hn)|(refine efB ?_)|(refine efBS ?_)|(refine wl_skip rfl rfl ?_)|((with_reducible refine wc_seq ?_);intro K hK)|(refine auC ?_)|(refine wc_cond rfl (fun hc=>?_) (fun hc=>?_))|((with_reducible refine wc_drawT (by kernel_rfl) ?_);(try simp only [List.append_eq,List.cons_append,List.nil_append,List.length_cons,List.length_nil,Nat.reduceAdd]))|((with_reducible refine sel_wh ?_);(refine wh_if (by decide +kernel) ?_);first|(refine wh_take (lq:=[]) rfl rfl rfl rfl (by first|exact rvS|exact rvR|exact rvB|exact rvNB|exact rvE) (Or.inl rfl) ?_)|(refine wh_takeL rfl rfl rfl rfl (by first|exact rvS|exact rvR|exact rvB|exact rvNB|exact rvE) (by decide +kernel) ?_))|(refine whS ?_;intro v hv hp)|((with_reducible refine sel_wh ?_);first|(refine wh_pass rfl rfl rfl rfl ?_)|(refine wh_done rfl ?_)|(refine wh_all rfl ?_))|((with_reducible refine sel_rest ?_);first|exact rest_nil rfl|refine rest_cons rfl rfl ?_ ?_)|((with_reducible refine sel_nx ?_);first|refine next_of ?_|refine next_late (by decide +kernel) ?_)|(refine auP ?_)|((refine auR ?_);clear hK K)|(refine auR ?_)|((with_reducible refine hK _ _ ?_);clear hK K)|fail)
 all_goals (first|refine end_ret (ResP.cell rfl ld_whole (ResP.cell rfl ld_whole (ResP.tmp rfl ResP.nil))) ?_|refine end_normal (ResP.cell rfl ld_whole (ResP.cell rfl ld_whole (ResP.tmp rfl ResP.nil))) ?_)
 all_goals (first|rfl|(show _=_;rfl)|(simp only [tupV, *];done))
theorem sig_parts (f s:Nat):(List.replicate 32 0).take 0++((lb f++lb s).take 32++(List.replicate 32 0).drop (0+32))=lb f∧((lb f++lb s).drop 32).take (64 - 32)=lb s∧(List.replicate 32 0).take 0++((lb s).take 32++(List.replicate 32 0).drop (0+32))=lb s:=by
 have e1:(lb f++lb s).take 32=lb f:=List.take_left' (lb_len f)
 have e2:(lb f++lb s).drop 32=lb s:=List.drop_left' (lb_len f)
 have e3:∀ a,(lb a).take 32=lb a:=fun a=>List.take_of_length_le (by rw [lb_len];exact Nat.le_refl _)
 have e4:(List.replicate 32 0).drop (0+32)=[]:=by simp
 refine ⟨?_,?_,?_⟩
 ·rw [e1,e4,List.take_zero,List.nil_append,List.append_nil]
 ·rw [e2];exact e3 s
 ·rw [e3,e4,List.take_zero,List.nil_append,List.append_nil]
set_option maxHeartbeats 16000000 in
theorem claim_bad (w:World)(k f s:Nat)(hk:k<T256)(hf:f<T256)(hs:s<T256)(hno:¬clOk k f s){v u:Value}(hsig:Cb w u 64 (lb f++lb s)) :
  Calls Tryz.prog 104 [.agg (bys (lb k)),v,u].toArray w (Ret (.tuple #[nu 0,pv ⟨0,0⟩,.int .i64 4]) w):=by
 have i1:=hsig.old
 have t1:((64:Int) != 64)=false:=rfl
 obtain ⟨q1,q2,q3⟩:=sig_parts f s
 have hl1:0+32≤(List.replicate 32 0).length:=by simp
 have k1:Nat.min 64 32=32:=rfl
 have k2:Nat.min 32 32=32:=rfl
 obtain ⟨P1,x1,a1,b1,U1⟩:=unp_any k hk
 obtain ⟨P2,x2,a2,b2,U2⟩:=unp_any f hf
 have OF:=of_lb s hs
 have LC:=l_c
 have CC:=cmp_nu s SLn hs SL_T
 have z0:((0:Int) != 0)=false:=rfl
 have z4:((4:Int) != 0)=true:=rfl
 clear hsig
 by_cases h1:upOk k
 ·obtain ⟨rfl,rfl⟩:=a1 h1
  by_cases h2:upOk f
  ·obtain ⟨rfl,rfl⟩:=a2 h2
   have h3:SLn≤s:=Nat.le_of_not_lt fun h3=>hno ⟨h1,h2,h3⟩
   have s3:decide (cmpI s SLn≥0)=true:=decide_eq_true (by unfold cmpI;rw [if_neg (by omega)];split <;> decide)
   clear a1 b1 a2 b2 hno hk hf hs h1 h2 h3
   generalize cmpI s SLn=cz at *
   generalize SLn=sl at *
   generalize upPt k=P1 at *
   generalize upPt f=P2 at *
   refine fn_ret (N:=_) Tryz.func104 rfl Tryz.ntmps104 Tryz.results104 (by simp) ?_
   simp only [initS,Nat.reduceAdd,Nat.zero_add]
   repeat' (first|(refine wlS ?_)|(refine wlB ?_)|(refine wlNB ?_)|(refine wlE ?_)|(refine efSvvp ?_;intro v hv hp)|(refine efSvao ?_;intro v oa ho)|(refine efM ?_)|(refine efMvao ?_;intro v oa ho)|((with_reducible refine sel_store ?_);first|(refine wl_putB (e:=5) rfl rfl rfl rfl rfl ?_;intro oa ho))|((with_reducible refine sel_slice ?_);first|(refine wl_subB (lo:=32) rfl rfl rfl rfl rfl rfl rfl rfl ?_;intro v hv hp))|(refine efZCnn ?_;intro n hn)|(refine efBnn ?_;intro n hn)|(refine efB ?_)|(refine efBS ?_)|(refine wl_skip rfl rfl ?_)|((with_reducible refine wc_seq ?_);intro K hK)|(refine auC ?_)|(refine wc_cond rfl (fun hc=>?_) (fun hc=>?_))|((with_reducible refine wc_drawC (by kernel_rfl) ?_);(try simp only [List.append_eq,List.cons_append,List.nil_append,List.length_cons,List.length_nil,Nat.reduceAdd]))|((with_reducible refine sel_wh ?_);(refine wh_if (by decide +kernel) ?_);first|(refine wh_take (lq:=[]) rfl rfl rfl rfl (by first|exact rvS|exact rvB|exact rvNB|exact rvE) (Or.inl rfl) ?_)|(refine wh_takeL rfl rfl rfl rfl (by first|exact rvS|exact rvB|exact rvNB|exact rvE) (by decide +kernel) ?_))|(refine whS ?_;intro v hv hp)|((with_reducible refine sel_wh ?_);first|(refine wh_pass rfl rfl rfl rfl ?_)|(refine wh_done rfl ?_)|(refine wh_all rfl ?_))|((with_reducible refine sel_rest ?_);first|exact rest_nil rfl|refine rest_cons rfl rfl ?_ ?_)|((with_reducible refine sel_nx ?_);first|refine next_of ?_|refine next_late (by decide +kernel) ?_)|(refine auP ?_)|((refine auR ?_);clear hK K)|(refine auR ?_)|((with_reducible refine hK _ _ ?_);clear hK K)|fail)
   repeat' (first|(refine wlS ?_)|(refine wlR ?_)|(refine wlB ?_)|(refine wlNB ?_)|((with_reducible refine sel_call ?_);refine wl_rd rfl rfl (rd_call rfl rfl rfl (fun w hm=>by with_reducible first|exact U1 w|exact U2 w|exact OF w|exact LC w|exact CC w)) ?_)|(refine wlE ?_)|(refine efSvvp ?_;intro v hv hp)|(refine efSvao ?_;intro v oa ho)|(refine efR ?_)|(refine efZCnn ?_;intro n hn)|(refine efBnn ?_;intro n hn)|(refine efB ?_)|(refine efBS ?_)|(refine wl_skip rfl rfl ?_)|(refine wdS ?_)|(refine wdR ?_)|(refine wdV ?_)|(refine wdB ?_)|(refine wdNB ?_)|((with_reducible refine seld_call ?_);refine wd_rd hm0 rfl rfl rfl rfl (rd_call rfl rfl rfl (fun w hm=>by with_reducible first|exact U1 w|exact U2 w|exact OF w|exact LC w|exact CC w)) ?_)|(refine wdE ?_)|(refine wdT ?_)|(refine wdTO ?_)|(refine wd_skip rfl rfl ?_)|((with_reducible refine seld_nil ?_);refine wd_nil hm0 ?_;clear hm0 hw0)|((with_reducible refine wc_seq ?_);intro K hK)|(refine auC ?_)|(refine wc_cond rfl (fun hc=>?_) (fun hc=>?_))|(refine wc_draw (id:=9) (by kernel_rfl) (by kernel_rfl) (by decide +kernel) ?_;intro w0 hw0 hm0;(try simp only [List.append_eq,List.cons_append,List.nil_append]))|(refine wc_draw (id:=11) (by kernel_rfl) (by kernel_rfl) (by decide +kernel) ?_;intro w0 hw0 hm0;(try simp only [List.append_eq,List.cons_append,List.nil_append]))|((with_reducible refine wc_drawC (by kernel_rfl) ?_);(try simp only [List.append_eq,List.cons_append,List.nil_append,List.length_cons,List.length_nil,Nat.reduceAdd]))|((with_reducible refine sel_wh ?_);(refine wh_if (by decide +kernel) ?_);first|(refine wh_take (lq:=[]) rfl rfl rfl rfl (by first|exact rvS|exact rvR|exact rvB|exact rvNB|exact rvE) (Or.inl rfl) ?_)|(refine wh_takeL rfl rfl rfl rfl (by first|exact rvS|exact rvR|exact rvB|exact rvNB|exact rvE) (by decide +kernel) ?_))|(refine whS ?_;intro v hv hp)|((with_reducible refine sel_wh ?_);first|(refine wh_pass rfl rfl rfl rfl ?_)|(refine wh_done rfl ?_)|(refine wh_all rfl ?_))|((with_reducible refine sel_rest ?_);first|exact rest_nil rfl|refine rest_cons rfl rfl ?_ ?_)|((with_reducible refine sel_nx ?_);first|refine next_of ?_|refine next_late (by decide +kernel) ?_)|(refine auP ?_)|((refine auR ?_);clear hK K)|(refine auR ?_)|((with_reducible refine hK _ _ ?_);clear hK K)|fail)
   all_goals (first|refine end_ret (ResP.cell rfl ld_whole (ResP.cell rfl ld_whole (ResP.tmp rfl ResP.nil))) ?_|refine end_normal (ResP.cell rfl ld_whole (ResP.cell rfl ld_whole (ResP.tmp rfl ResP.nil))) ?_)
   all_goals (first|rfl|(show _=_;rfl)|(simp only [tupV, *];done))
  ·obtain rfl:=b2 h2
   clear a1 b1 a2 b2 hno hk hf hs h1 h2
   generalize cmpI s SLn=cz at *
   generalize SLn=sl at *
   generalize upPt k=P1 at *
   refine fn_ret (N:=_) Tryz.func104 rfl Tryz.ntmps104 Tryz.results104 (by simp) ?_
   simp only [initS,Nat.reduceAdd,Nat.zero_add]
   repeat' (first|(refine wlS ?_)|(refine wlB ?_)|(refine wlNB ?_)|(refine wlE ?_)|(refine efSvvp ?_;intro v hv hp)|(refine efSvao ?_;intro v oa ho)|(refine efM ?_)|(refine efMvao ?_;intro v oa ho)|((with_reducible refine sel_store ?_);first|(refine wl_putB (e:=5) rfl rfl rfl rfl rfl ?_;intro oa ho))|((with_reducible refine sel_slice ?_);first|(refine wl_subB (lo:=32) rfl rfl rfl rfl rfl rfl rfl rfl ?_;intro v hv hp))|(refine efZCnn ?_;intro n hn)|(refine efBnn ?_;intro n hn)|(refine efB ?_)|(refine efBS ?_)|(refine wl_skip rfl rfl ?_)|((with_reducible refine wc_seq ?_);intro K hK)|(refine auC ?_)|(refine wc_cond rfl (fun hc=>?_) (fun hc=>?_))|((with_reducible refine wc_drawC (by kernel_rfl) ?_);(try simp only [List.append_eq,List.cons_append,List.nil_append,List.length_cons,List.length_nil,Nat.reduceAdd]))|((with_reducible refine sel_wh ?_);(refine wh_if (by decide +kernel) ?_);first|(refine wh_take (lq:=[]) rfl rfl rfl rfl (by first|exact rvS|exact rvB|exact rvNB|exact rvE) (Or.inl rfl) ?_)|(refine wh_takeL rfl rfl rfl rfl (by first|exact rvS|exact rvB|exact rvNB|exact rvE) (by decide +kernel) ?_))|(refine whS ?_;intro v hv hp)|((with_reducible refine sel_wh ?_);first|(refine wh_pass rfl rfl rfl rfl ?_)|(refine wh_done rfl ?_)|(refine wh_all rfl ?_))|((with_reducible refine sel_rest ?_);first|exact rest_nil rfl|refine rest_cons rfl rfl ?_ ?_)|((with_reducible refine sel_nx ?_);first|refine next_of ?_|refine next_late (by decide +kernel) ?_)|(refine auP ?_)|((refine auR ?_);clear hK K)|(refine auR ?_)|((with_reducible refine hK _ _ ?_);clear hK K)|fail)
   repeat' (first|(refine wlS ?_)|(refine wlR ?_)|(refine wlB ?_)|(refine wlNB ?_)|((with_reducible refine sel_call ?_);refine wl_rd rfl rfl (rd_call rfl rfl rfl (fun w hm=>by with_reducible first|exact U1 w|exact U2 w|exact OF w|exact LC w|exact CC w)) ?_)|(refine wlE ?_)|(refine efSvvp ?_;intro v hv hp)|(refine efSvao ?_;intro v oa ho)|(refine efR ?_)|(refine efZCnn ?_;intro n hn)|(refine efBnn ?_;intro n hn)|(refine efB ?_)|(refine efBS ?_)|(refine wl_skip rfl rfl ?_)|(refine wdS ?_)|(refine wdR ?_)|(refine wdV ?_)|(refine wdB ?_)|(refine wdNB ?_)|((with_reducible refine seld_call ?_);refine wd_rd hm0 rfl rfl rfl rfl (rd_call rfl rfl rfl (fun w hm=>by with_reducible first|exact U1 w|exact U2 w|exact OF w|exact LC w|exact CC w)) ?_)|(refine wdE ?_)|(refine wdT ?_)|(refine wdTO ?_)|(refine wd_skip rfl rfl ?_)|((with_reducible refine seld_nil ?_);refine wd_nil hm0 ?_;clear hm0 hw0)|((with_reducible refine wc_seq ?_);intro K hK)|(refine auC ?_)|(refine wc_cond rfl (fun hc=>?_) (fun hc=>?_))|(refine wc_draw (id:=9) (by kernel_rfl) (by kernel_rfl) (by decide +kernel) ?_;intro w0 hw0 hm0;(try simp only [List.append_eq,List.cons_append,List.nil_append]))|(refine wc_draw (id:=11) (by kernel_rfl) (by kernel_rfl) (by decide +kernel) ?_;intro w0 hw0 hm0;(try simp only [List.append_eq,List.cons_append,List.nil_append]))|((with_reducible refine wc_drawC (by kernel_rfl) ?_);(try simp only [List.append_eq,List.cons_append,List.nil_append,List.length_cons,List.length_nil,Nat.reduceAdd]))|((with_reducible refine sel_wh ?_);(refine wh_if (by decide +kernel) ?_);first|(refine wh_take (lq:=[]) rfl rfl rfl rfl (by first|exact rvS|exact rvR|exact rvB|exact rvNB|exact rvE) (Or.inl rfl) ?_)|(refine wh_takeL rfl rfl rfl rfl (by first|exact rvS|exact rvR|exact rvB|exact rvNB|exact rvE) (by decide +kernel) ?_))|(refine whS ?_;intro v hv hp)|((with_reducible refine sel_wh ?_);first|(refine wh_pass rfl rfl rfl rfl ?_)|(refine wh_done rfl ?_)|(refine wh_all rfl ?_))|((with_reducible refine sel_rest ?_);first|exact rest_nil rfl|refine rest_cons rfl rfl ?_ ?_)|((with_reducible refine sel_nx ?_);first|refine next_of ?_|refine next_late (by decide +kernel) ?_)|(refine auP ?_)|((refine auR ?_);clear hK K)|(refine auR ?_)|((with_reducible refine hK _ _ ?_);clear hK K)|fail)
   all_goals (first|refine end_ret (ResP.cell rfl ld_whole (ResP.cell rfl ld_whole (ResP.tmp rfl ResP.nil))) ?_|refine end_normal (ResP.cell rfl ld_whole (ResP.cell rfl ld_whole (ResP.tmp rfl ResP.nil))) ?_)
   all_goals (first|rfl|(show _=_;rfl)|(simp only [tupV, *];done))
 ·obtain rfl:=b1 h1
  clear a1 b1 a2 b2 hno hk hf hs h1
  generalize cmpI s SLn=cz at *
  generalize SLn=sl at *
  refine fn_ret (N:=_) Tryz.func104 rfl Tryz.ntmps104 Tryz.results104 (by simp) ?_
  simp only [initS,Nat.reduceAdd,Nat.zero_add]
  repeat' (first|(refine wlS ?_)|(refine wlB ?_)|(refine wlNB ?_)|(refine wlE ?_)|(refine efSvvp ?_;intro v hv hp)|(refine efSvao ?_;intro v oa ho)|(refine efM ?_)|(refine efMvao ?_;intro v oa ho)|((with_reducible refine sel_store ?_);first|(refine wl_putB (e:=5) rfl rfl rfl rfl rfl ?_;intro oa ho))|((with_reducible refine sel_slice ?_);first|(refine wl_subB (lo:=32) rfl rfl rfl rfl rfl rfl rfl rfl ?_;intro v hv hp))|(refine efZCnn ?_;intro n hn)|(refine efBnn ?_;intro n hn)|(refine efB ?_)|(refine efBS ?_)|(refine wl_skip rfl rfl ?_)|((with_reducible refine wc_seq ?_);intro K hK)|(refine auC ?_)|(refine wc_cond rfl (fun hc=>?_) (fun hc=>?_))|((with_reducible refine wc_drawC (by kernel_rfl) ?_);(try simp only [List.append_eq,List.cons_append,List.nil_append,List.length_cons,List.length_nil,Nat.reduceAdd]))|((with_reducible refine sel_wh ?_);(refine wh_if (by decide +kernel) ?_);first|(refine wh_take (lq:=[]) rfl rfl rfl rfl (by first|exact rvS|exact rvB|exact rvNB|exact rvE) (Or.inl rfl) ?_)|(refine wh_takeL rfl rfl rfl rfl (by first|exact rvS|exact rvB|exact rvNB|exact rvE) (by decide +kernel) ?_))|(refine whS ?_;intro v hv hp)|((with_reducible refine sel_wh ?_);first|(refine wh_pass rfl rfl rfl rfl ?_)|(refine wh_done rfl ?_)|(refine wh_all rfl ?_))|((with_reducible refine sel_rest ?_);first|exact rest_nil rfl|refine rest_cons rfl rfl ?_ ?_)|((with_reducible refine sel_nx ?_);first|refine next_of ?_|refine next_late (by decide +kernel) ?_)|(refine auP ?_)|((refine auR ?_);clear hK K)|(refine auR ?_)|((with_reducible refine hK _ _ ?_);clear hK K)|fail)
  repeat' (first|(refine wlS ?_)|(refine wlR ?_)|(refine wlB ?_)|(refine wlNB ?_)|((with_reducible refine sel_call ?_);refine wl_rd rfl rfl (rd_call rfl rfl rfl (fun w hm=>by with_reducible first|exact U1 w|exact U2 w|exact OF w|exact LC w|exact CC w)) ?_)|(refine wlE ?_)|(refine efSvvp ?_;intro v hv hp)|(refine efSvao ?_;intro v oa ho)|(refine efR ?_)|(refine efZCnn ?_;intro n hn)|(refine efBnn ?_;intro n hn)|(refine efB ?_)|(refine efBS ?_)|(refine wl_skip rfl rfl ?_)|(refine wdS ?_)|(refine wdR ?_)|(refine wdV ?_)|(refine wdB ?_)|(refine wdNB ?_)|((with_reducible refine seld_call ?_);refine wd_rd hm0 rfl rfl rfl rfl (rd_call rfl rfl rfl (fun w hm=>by with_reducible first|exact U1 w|exact U2 w|exact OF w|exact LC w|exact CC w)) ?_)|(refine wdE ?_)|(refine wdT ?_)|(refine wdTO ?_)|(refine wd_skip rfl rfl ?_)|((with_reducible refine seld_nil ?_);refine wd_nil hm0 ?_;clear hm0 hw0)|((with_reducible refine wc_seq ?_);intro K hK)|(refine auC ?_)|(refine wc_cond rfl (fun hc=>?_) (fun hc=>?_))|(refine wc_draw (id:=9) (by kernel_rfl) (by kernel_rfl) (by decide +kernel) ?_;intro w0 hw0 hm0;(try simp only [List.append_eq,List.cons_append,List.nil_append]))|(refine wc_draw (id:=11) (by kernel_rfl) (by kernel_rfl) (by decide +kernel) ?_;intro w0 hw0 hm0;(try simp only [List.append_eq,List.cons_append,List.nil_append]))|((with_reducible refine wc_drawC (by kernel_rfl) ?_);(try simp only [List.append_eq,List.cons_append,List.nil_append,List.length_cons,List.length_nil,Nat.reduceAdd]))|((with_reducible refine sel_wh ?_);(refine wh_if (by decide +kernel) ?_);first|(refine wh_take (lq:=[]) rfl rfl rfl rfl (by first|exact rvS|exact rvR|exact rvB|exact rvNB|exact rvE) (Or.inl rfl) ?_)|(refine wh_takeL rfl rfl rfl rfl (by first|exact rvS|exact rvR|exact rvB|exact rvNB|exact rvE) (by decide +kernel) ?_))|(refine whS ?_;intro v hv hp)|((with_reducible refine sel_wh ?_);first|(refine wh_pass rfl rfl rfl rfl ?_)|(refine wh_done rfl ?_)|(refine wh_all rfl ?_))|((with_reducible refine sel_rest ?_);first|exact rest_nil rfl|refine rest_cons rfl rfl ?_ ?_)|((with_reducible refine sel_nx ?_);first|refine next_of ?_|refine next_late (by decide +kernel) ?_)|(refine auP ?_)|((refine auR ?_);clear hK K)|(refine auR ?_)|((with_reducible refine hK _ _ ?_);clear hK K)|fail)
  all_goals (first|refine end_ret (ResP.cell rfl ld_whole (ResP.cell rfl ld_whole (ResP.tmp rfl ResP.nil))) ?_|refine end_normal (ResP.cell rfl ld_whole (ResP.cell rfl ld_whole (ResP.tmp rfl ResP.nil))) ?_)
  all_goals (first|rfl|(show _=_;rfl)|(simp only [tupV, *];done))
end Go.Proofs.YtkendlnjaopbeaaGreatDoor
