/- The package hash,walked: press. -/
import Derived.Test.YtkendlnjaopbeaaGreatDoorJnAC
import Derived.Test.YtkendlnjaopbeaaGreatDoorSl
namespace Go.Proofs.YtkendlnjaopbeaaGreatDoor
open Go.RowKit
set_option linter.unusedVariables false
set_option maxRecDepth 100000
set_option linter.unusedSimpArgs false
def iw (l:List Int):Array Value:=(l.map (Value.int .u32)).toArray
theorem iw_get {l:List Int}{i:Nat}(h:i<l.length):(iw l)[i]? = some (.int .u32 (l.getD i 0)):=by simp [iw,h,List.getD]
theorem iw_put (l:List Int)(i:Nat)(x:Int):putC (iw l) i (.int .u32 x)=iw (l.set i x):=by simp [iw,putC]
theorem iw_size (l:List Int):(iw l).size=l.length:=by simp [iw]
theorem iw_one (l:List Int):(iw l).all (·.oneCell')=true:=by simp [iw,Value.oneCell']
theorem seg_iw {n:Nat}{l:List Int}(h:l.length=n):SegL (iw l) n:=⟨by rw [iw_size,h],iw_one l⟩
def Tab (w:World):Prop:=∀ i,i<64→w.cell? ⟨0,i,none⟩=some (.int .u32 (roots.getD i 0))
theorem Tab.below {w w':World}(h:Tab w)(hb:Below w.heap.size w w'):Tab w':=fun i hi=>by
 have:=h i hi
 rw [←this]
 exact hb.cell (World.block_lt_of_cell? _ _ this)
class WL (l:List Int)(n:outParam Nat):Prop where
 out:l.length=n
instance {l:List Int}{n:Nat}[h:WL l n]:Cells (iw l) n:=⟨by rw [iw_size,h.out],iw_one l⟩
instance (b:List Nat)(t:Nat):WL (schedI b t) 64:=⟨schedI_len b t⟩
instance:ZC Tryz.prog 132 (iw (List.replicate 64 0)):=⟨by kernel_rfl⟩
instance:ZC Tryz.prog 66 (iw (List.replicate 8 0)):=⟨by kernel_rfl⟩
instance {n:Nat}{x:Int}:WL (List.replicate n x) n:=⟨by simp⟩
instance {l:List Int}{i:Nat}{x:Int}:PutC (iw l) i (.int .u32 x) (iw (l.set i x)):=⟨iw_put l i x⟩
set_option maxRecDepth 100000 in
set_option maxHeartbeats 16000000 in
theorem press_c (w:World)(hT:Tab w){h:List Int}{b:List Nat}(hh:h.length=8)(hb:BL 64 b):Calls Tryz.prog 29 [.agg (iw h),.agg (bys b)].toArray w (Ret (.agg (iw (pressI h b))) w):=by
 haveI:WL h 8:=⟨hh⟩
 haveI:Cells (bys b) 64:=⟨(seg_bys hb.len).size,(seg_bys hb.len).one⟩
 haveI:BLc 64 b:=⟨hb,by decide⟩
 have hsl:=schedI_len b
 refine fn_ret (N:=_) Tryz.func29 rfl Tryz.ntmps29 Tryz.results29 (by simp) ?_
 simp only [initS,Nat.reduceAdd,Nat.zero_add]
 repeat' (first|(refine wlS ?_)|(refine wlB ?_)|(refine wlE ?_)|(refine efSvvp ?_;intro v hv hp)|(refine efSvao ?_;intro v oa ho)|(refine efZCnn ?_;intro n hn)|(refine efBnn ?_;intro n hn)|(refine efB ?_)|(refine efBS ?_)|(refine wl_skip rfl rfl ?_)|((with_reducible refine wc_seq ?_);intro K hK)|(refine auC ?_)|(refine wc_cond rfl (fun hc=>?_) (fun hc=>?_))|((with_reducible refine wc_drawT (by kernel_rfl) ?_);(try simp only [List.append_eq,List.cons_append,List.nil_append,List.length_cons,List.length_nil,Nat.reduceAdd]))|((with_reducible refine sel_wh ?_);(refine wh_if (by decide +kernel) ?_);first|(refine wh_take (lq:=[]) rfl rfl rfl rfl (by first|exact rvS|exact rvB|exact rvE) (Or.inl rfl) ?_)|(refine wh_takeL rfl rfl rfl rfl (by first|exact rvS|exact rvB|exact rvE) (by decide +kernel) ?_))|(refine whS ?_;intro v hv hp)|((with_reducible refine sel_wh ?_);first|(refine wh_pass rfl rfl rfl rfl ?_)|(refine wh_done rfl ?_)|(refine wh_all rfl ?_))|((with_reducible refine sel_rest ?_);first|exact rest_nil rfl|refine rest_cons rfl rfl ?_ ?_)|((with_reducible refine sel_nx ?_);first|refine next_of ?_|refine next_late (by decide +kernel) ?_)|(refine auP ?_)|((refine auR ?_);clear hK K)|(refine auR ?_)|((with_reducible refine hK _ _ ?_);clear hK K)|fail)
 rename_i n2 hn2 n3 hn3 n4 hn4
 refine wc_loop (σ:=Nat) (fun t=>[(2,ptr n2),(3,ptr n3),(4,ptr n4),(5,ptr n),(20,.int .i64 (t:Int))])
  (fun t=>[(n,(iw (schedI b t),132)),(n4,(iw (List.replicate 8 0),66)),(n3,(bys b,67)),(n2,(iw h,66))])
  (fun t=>t≤64) (fun t=>64 - t) 0 (Nat.zero_le _) (Fits.of ⟨rfl,rfl,rfl,rfl,rfl,trivial⟩ (SubL.refl _) rfl) ?_
 intro t ht
 have hs:=hsl t
 by_cases hlt:t<64
 ·have t1:decide ((t:Int)<64)=true:=decide_eq_true (by omega)
  have k1:IntKind.i64.wrap ((t:Int)+1)=((t+1:Nat):Int):=by rw [wrap_i64 _ (by omega) (by omega)];omega
  have j1:(t:Int)<((64:Nat):Int):=by omega
  by_cases h16:t<16
  ·have t2:decide ((t:Int)<16)=true:=decide_eq_true (by omega)
   have k4:IntKind.i64.wrap (4 * (t:Int))=((4 * t:Nat):Int):=by rw [wrap_i64 _ (by omega) (by omega)];omega
   have C0:∀ w' v,Cb w' v 64 b→Calls Tryz.prog 46 [v,.int .i64 ((4 * t:Nat):Int)].toArray w' (Ret (.int .u32 (wordI b (4 * t))) w'):=fun w' v hv=>word_c w' hv (4 * t) (by omega) (by decide)
   have hsc:schedI b (t+1)=(schedI b t).set t (wordI b (4 * t)):=by rw [schedI,if_pos h16]
   clear hb hh
   repeat' (first|(refine wlS ?_)|(refine wlB ?_)|((with_reducible refine sel_call ?_);refine wl_rd rfl rfl (rd_call rfl rfl rfl (fun w hm=>by with_reducible exact C0 w _ (VwB.out w hm))) ?_)|(refine wlE ?_)|(refine efSvvp ?_;intro v hv hp)|(refine efSvao ?_;intro v oa ho)|(refine efBnn ?_;intro n hn)|(refine efB ?_)|(refine efBS ?_)|(refine wl_skip rfl rfl ?_)|((with_reducible refine wc_seq ?_);intro K hK)|(refine auC ?_)|(refine wc_cond rfl (fun hc=>?_) (fun hc=>?_))|((with_reducible refine wc_drawT (by kernel_rfl) ?_);(try simp only [List.append_eq,List.cons_append,List.nil_append,List.length_cons,List.length_nil,Nat.reduceAdd]))|((with_reducible refine sel_wh ?_);(refine wh_if (by decide +kernel) ?_);first|(refine wh_take (lq:=[]) rfl rfl rfl rfl (by first|exact rvS|exact rvB|exact rvE) (Or.inl rfl) ?_)|(refine wh_takeL rfl rfl rfl rfl (by first|exact rvS|exact rvB|exact rvE) (by decide +kernel) ?_))|(refine whS ?_;intro v hv hp)|((with_reducible refine sel_wh ?_);first|(refine wh_pass rfl rfl rfl rfl ?_)|(refine wh_done rfl ?_)|(refine wh_all rfl ?_))|((with_reducible refine sel_rest ?_);first|exact rest_nil rfl|refine rest_cons rfl rfl ?_ ?_)|((with_reducible refine sel_nx ?_);first|refine next_of ?_|refine next_late (by decide +kernel) ?_)|(refine auP ?_)|((refine auR ?_);clear hK K)|(refine auR ?_)|((with_reducible refine hK _ _ ?_);clear hK K)|fail)
   exact ⟨t+1,hlt,by omega,Fits.of ⟨rfl,rfl,rfl,rfl,rfl,trivial⟩ (by rw [hsc];exact SubL.refl _) rfl⟩
  ·have t2:decide ((t:Int)<16)=false:=decide_eq_false (by omega)
   have d15:IntKind.i64.wrap ((t:Int) - 15)=((t - 15:Nat):Int):=by rw [wrap_i64 _ (by omega) (by omega)];omega
   have d16:IntKind.i64.wrap ((t:Int) - 16)=((t - 16:Nat):Int):=by rw [wrap_i64 _ (by omega) (by omega)];omega
   have d7:IntKind.i64.wrap ((t:Int) - 7)=((t - 7:Nat):Int):=by rw [wrap_i64 _ (by omega) (by omega)];omega
   have d2:IntKind.i64.wrap ((t:Int) - 2)=((t - 2:Nat):Int):=by rw [wrap_i64 _ (by omega) (by omega)];omega
   have l15:((t - 15:Nat):Int)<((64:Nat):Int):=by omega
   have l16:((t - 16:Nat):Int)<((64:Nat):Int):=by omega
   have l7:((t - 7:Nat):Int)<((64:Nat):Int):=by omega
   have l2:((t - 2:Nat):Int)<((64:Nat):Int):=by omega
   have g15:=iw_get (l:=schedI b t) (i:=t - 15) (by omega)
   have g16:=iw_get (l:=schedI b t) (i:=t - 16) (by omega)
   have g7:=iw_get (l:=schedI b t) (i:=t - 7) (by omega)
   have g2:=iw_get (l:=schedI b t) (i:=t - 2) (by omega)
   have hsc:schedI b (t+1)=(schedI b t).set t (nextW (schedI b t) t):=by rw [schedI,if_neg h16]
   have sh3:∀ x:Int,x / 2 ^ (min ((3:Int).toNat) IntKind.u32.bits)=x / 8:=fun x=>rfl
   have sh10:∀ x:Int,x / 2 ^ (min ((10:Int).toNat) IntKind.u32.bits)=x / 1024:=fun x=>rfl
   have sa:=sh3 ((schedI b t).getD (t - 15) 0)
   have sb:=sh10 ((schedI b t).getD (t - 2) 0)
   clear hb hh sh3 sh10
   repeat' (first|(refine wlS ?_)|(refine wlB ?_)|((with_reducible refine sel_call ?_);refine wl_rd rfl rfl (rd_call rfl rfl rfl (fun w hm=>by with_reducible first|exact right7 w|exact right18 w|exact right17 w|exact right19 w)) ?_)|(refine wlE ?_)|(refine efSvvp ?_;intro v hv hp)|(refine efSvao ?_;intro v oa ho)|(refine efBnn ?_;intro n hn)|(refine efB ?_)|(refine efBS ?_)|(refine wl_skip rfl rfl ?_)|((with_reducible refine wc_seq ?_);intro K hK)|(refine auC ?_)|(refine wc_cond rfl (fun hc=>?_) (fun hc=>?_))|((with_reducible refine wc_drawT (by kernel_rfl) ?_);(try simp only [List.append_eq,List.cons_append,List.nil_append,List.length_cons,List.length_nil,Nat.reduceAdd]))|((with_reducible refine sel_wh ?_);(refine wh_if (by decide +kernel) ?_);first|(refine wh_take (lq:=[]) rfl rfl rfl rfl (by first|exact rvS|exact rvB|exact rvE) (Or.inl rfl) ?_)|(refine wh_takeL rfl rfl rfl rfl (by first|exact rvS|exact rvB|exact rvE) (by decide +kernel) ?_))|(refine whS ?_;intro v hv hp)|((with_reducible refine sel_wh ?_);first|(refine wh_pass rfl rfl rfl rfl ?_)|(refine wh_done rfl ?_)|(refine wh_all rfl ?_))|((with_reducible refine sel_rest ?_);first|exact rest_nil rfl|refine rest_cons rfl rfl ?_ ?_)|((with_reducible refine sel_nx ?_);first|refine next_of ?_|refine next_late (by decide +kernel) ?_)|(refine auP ?_)|((refine auR ?_);clear hK K)|(refine auR ?_)|((with_reducible refine hK _ _ ?_);clear hK K)|fail)
   exact ⟨t+1,hlt,by omega,Fits.of ⟨rfl,rfl,rfl,rfl,rfl,trivial⟩ (by rw [hsc];exact SubL.refl _) rfl⟩
 ·obtain rfl:t=64:=by omega
  have t1:decide (((64:Nat):Int)<64)=false:=by decide
  have hp:pressI h b=addsI h (roundsI h (schedI b 64) 64) 8:=rfl
  clear ht hlt hsl
  generalize schedI b 64=ws at *
  repeat' (first|(refine wlS ?_)|(refine wlB ?_)|(refine wlE ?_)|(refine efSvvp ?_;intro v hv hp)|(refine efSvao ?_;intro v oa ho)|(refine efZCnn ?_;intro n hn)|(refine efBnn ?_;intro n hn)|(refine efB ?_)|(refine efBS ?_)|(refine wl_skip rfl rfl ?_)|((with_reducible refine wc_seq ?_);intro K hK)|(refine auC ?_)|(refine wc_cond rfl (fun hc=>?_) (fun hc=>?_))|((with_reducible refine wc_drawT (by kernel_rfl) ?_);(try simp only [List.append_eq,List.cons_append,List.nil_append,List.length_cons,List.length_nil,Nat.reduceAdd]))|((with_reducible refine sel_wh ?_);(refine wh_if (by decide +kernel) ?_);first|(refine wh_take (lq:=[]) rfl rfl rfl rfl (by first|exact rvS|exact rvB|exact rvE) (Or.inl rfl) ?_)|(refine wh_takeL rfl rfl rfl rfl (by first|exact rvS|exact rvB|exact rvE) (by decide +kernel) ?_))|(refine whS ?_;intro v hv hp)|((with_reducible refine sel_wh ?_);first|(refine wh_pass rfl rfl rfl rfl ?_)|(refine wh_done rfl ?_)|(refine wh_all rfl ?_))|((with_reducible refine sel_rest ?_);first|exact rest_nil rfl|refine rest_cons rfl rfl ?_ ?_)|((with_reducible refine sel_nx ?_);first|refine next_of ?_|refine next_late (by decide +kernel) ?_)|(refine auP ?_)|((refine auR ?_);clear hK K)|(refine auR ?_)|((with_reducible refine hK _ _ ?_);clear hK K)|fail)
  rename_i n5 hn5
  clear t1
  refine wc_loop (σ:=Nat) (fun t=>[(2,ptr n2),(4,ptr n4),(5,ptr n5),(9,ptr n),(70,.int .i64 (t:Int))])
   (fun t=>[(n,(iw (roundsI h ws t),66)),(n5,(iw ws,132)),(n4,(iw (List.replicate 8 0),66)),(n2,(iw h,66))])
   (fun t=>t≤64) (fun t=>64 - t) 0 (Nat.zero_le _) (Fits.of ⟨rfl,rfl,rfl,rfl,rfl,trivial⟩ (.keep (.keep (.keep (.skip (.keep .nil))))) rfl) ?_
  intro t ht
  by_cases hlt:t<64
  ·have t1:decide ((t:Int)<64)=true:=decide_eq_true (by omega)
   have k1:IntKind.i64.wrap ((t:Int)+1)=((t+1:Nat):Int):=by rw [wrap_i64 _ (by omega) (by omega)];omega
   have j1:(t:Int)<((64:Nat):Int):=by omega
   have hV:=roundsI_len h ws hh t
   have hsc:roundsI h ws (t+1)=roundI (roundsI h ws t) (roots.getD t 0) (ws.getD t 0):=rfl
   have gt:=hT t hlt
   have gw:=iw_get (l:=ws) (i:=t) (by omega)
   generalize hVe:roundsI h ws t=V at *
   generalize hke:roots.getD t 0=k at *
   generalize hxe:ws.getD t 0=x at *
   have g0:=iw_get (l:=V) (i:=0) (by omega)
   have g1:=iw_get (l:=V) (i:=1) (by omega)
   have g2:=iw_get (l:=V) (i:=2) (by omega)
   have g3:=iw_get (l:=V) (i:=3) (by omega)
   have g4:=iw_get (l:=V) (i:=4) (by omega)
   have g5:=iw_get (l:=V) (i:=5) (by omega)
   have g6:=iw_get (l:=V) (i:=6) (by omega)
   have g7:=iw_get (l:=V) (i:=7) (by omega)
   haveI:WL V 8:=⟨hV⟩
   have cm:bits .xor .u32 (if IntKind.u32.signed then -1 else IntKind.u32.max) (V.getD 4 0)=xor32 4294967295 (V.getD 4 0):=rfl
   clear hb hh hs hT hV
   repeat' (first|(refine wlS ?_)|(refine wlB ?_)|(refine wlO ?_)|((with_reducible refine sel_call ?_);refine wl_rd rfl rfl (rd_call rfl rfl rfl (fun w hm=>by with_reducible first|exact right6 w|exact right11 w|exact right25 w|exact right2 w|exact right13 w|exact right22 w)) ?_)|(refine wlE ?_)|(refine efSvvp ?_;intro v hv hp)|(refine efSvao ?_;intro v oa ho)|(refine efBnn ?_;intro n hn)|(refine efB ?_)|(refine efBS ?_)|(refine wl_skip rfl rfl ?_)|((with_reducible refine wc_seq ?_);intro K hK)|(refine auC ?_)|(refine wc_cond rfl (fun hc=>?_) (fun hc=>?_))|((with_reducible refine wc_drawT (by kernel_rfl) ?_);(try simp only [List.append_eq,List.cons_append,List.nil_append,List.length_cons,List.length_nil,Nat.reduceAdd]))|((with_reducible refine sel_wh ?_);(refine wh_if (by decide +kernel) ?_);first|(refine wh_take (lq:=[]) rfl rfl rfl rfl (by first|exact rvS|exact rvB|exact rvO|exact rvE) (Or.inl rfl) ?_)|(refine wh_takeL rfl rfl rfl rfl (by first|exact rvS|exact rvB|exact rvO|exact rvE) (by decide +kernel) ?_))|(refine whS ?_;intro v hv hp)|((with_reducible refine sel_wh ?_);first|(refine wh_pass rfl rfl rfl rfl ?_)|(refine wh_done rfl ?_)|(refine wh_all rfl ?_))|((with_reducible refine sel_rest ?_);first|exact rest_nil rfl|refine rest_cons rfl rfl ?_ ?_)|((with_reducible refine sel_nx ?_);first|refine next_of ?_|refine next_late (by decide +kernel) ?_)|(refine auP ?_)|((refine auR ?_);clear hK K)|(refine auR ?_)|((with_reducible refine hK _ _ ?_);clear hK K)|fail)
   exact ⟨t+1,hlt,by omega,Fits.of ⟨rfl,rfl,rfl,rfl,rfl,trivial⟩ (by rw [hsc];exact SubL.refl _) rfl⟩
  ·obtain rfl:t=64:=by omega
   have t1:decide (((64:Nat):Int)<64)=false:=by decide
   have hV:=roundsI_len h ws hh 64
   clear ht hlt hs hb
   generalize roundsI h ws 64=V at *
   haveI:WL V 8:=⟨hV⟩
   repeat' (first|(refine wlS ?_)|(refine wlB ?_)|(refine wlE ?_)|(refine efSvvp ?_;intro v hv hp)|(refine efSvao ?_;intro v oa ho)|(refine efZCnn ?_;intro n hn)|(refine efBnn ?_;intro n hn)|(refine efB ?_)|(refine efBS ?_)|(refine wl_skip rfl rfl ?_)|((with_reducible refine wc_seq ?_);intro K hK)|(refine auC ?_)|(refine wc_cond rfl (fun hc=>?_) (fun hc=>?_))|((with_reducible refine wc_drawT (by kernel_rfl) ?_);(try simp only [List.append_eq,List.cons_append,List.nil_append,List.length_cons,List.length_nil,Nat.reduceAdd]))|((with_reducible refine sel_wh ?_);(refine wh_if (by decide +kernel) ?_);first|(refine wh_take (lq:=[]) rfl rfl rfl rfl (by first|exact rvS|exact rvB|exact rvE) (Or.inl rfl) ?_)|(refine wh_takeL rfl rfl rfl rfl (by first|exact rvS|exact rvB|exact rvE) (by decide +kernel) ?_))|(refine whS ?_;intro v hv hp)|((with_reducible refine sel_wh ?_);first|(refine wh_pass rfl rfl rfl rfl ?_)|(refine wh_done rfl ?_)|(refine wh_all rfl ?_))|((with_reducible refine sel_rest ?_);first|exact rest_nil rfl|refine rest_cons rfl rfl ?_ ?_)|((with_reducible refine sel_nx ?_);first|refine next_of ?_|refine next_late (by decide +kernel) ?_)|(refine auP ?_)|((refine auR ?_);clear hK K)|(refine auR ?_)|((with_reducible refine hK _ _ ?_);clear hK K)|fail)
   refine wc_loop (σ:=Nat) (fun t=>[(2,ptr n2),(4,ptr n4),(9,ptr n),(148,.int .i64 (t:Int))])
    (fun t=>[(n,(iw V,66)),(n4,(iw (List.replicate 8 0),66)),(n2,(iw (addsI h V t),66))])
    (fun t=>t≤8) (fun t=>8 - t) 0 (Nat.zero_le _) (Fits.of ⟨rfl,rfl,rfl,rfl,trivial⟩ (.keep (.skip (.keep (.keep .nil)))) rfl) ?_
   intro t ht
   have ha:=addsI_len h V t
   haveI:WL (addsI h V t) 8:=⟨by rw [ha,hh]⟩
   by_cases hlt:t<8
   ·have t2:decide ((t:Int)<8)=true:=decide_eq_true (by omega)
    have k1:IntKind.i64.wrap ((t:Int)+1)=((t+1:Nat):Int):=by rw [wrap_i64 _ (by omega) (by omega)];omega
    have j1:(t:Int)<((8:Nat):Int):=by omega
    have g1:=iw_get (l:=addsI h V t) (i:=t) (by omega)
    have g2:=iw_get (l:=V) (i:=t) (by omega)
    have hsc:addsI h V (t+1)=(addsI h V t).set t (add32 ((addsI h V t).getD t 0) (V.getD t 0)):=rfl
    clear ha hV t1 hT
    repeat' (first|(refine wlS ?_)|(refine wlB ?_)|(refine wlE ?_)|(refine efSvvp ?_;intro v hv hp)|(refine efSvao ?_;intro v oa ho)|(refine efBnn ?_;intro n hn)|(refine efB ?_)|(refine efBS ?_)|(refine wl_skip rfl rfl ?_)|((with_reducible refine wc_seq ?_);intro K hK)|(refine auC ?_)|(refine wc_cond rfl (fun hc=>?_) (fun hc=>?_))|((with_reducible refine wc_drawT (by kernel_rfl) ?_);(try simp only [List.append_eq,List.cons_append,List.nil_append,List.length_cons,List.length_nil,Nat.reduceAdd]))|((with_reducible refine sel_wh ?_);(refine wh_if (by decide +kernel) ?_);first|(refine wh_take (lq:=[]) rfl rfl rfl rfl (by first|exact rvS|exact rvB|exact rvE) (Or.inl rfl) ?_)|(refine wh_takeL rfl rfl rfl rfl (by first|exact rvS|exact rvB|exact rvE) (by decide +kernel) ?_))|(refine whS ?_;intro v hv hp)|((with_reducible refine sel_wh ?_);first|(refine wh_pass rfl rfl rfl rfl ?_)|(refine wh_done rfl ?_)|(refine wh_all rfl ?_))|((with_reducible refine sel_rest ?_);first|exact rest_nil rfl|refine rest_cons rfl rfl ?_ ?_)|((with_reducible refine sel_nx ?_);first|refine next_of ?_|refine next_late (by decide +kernel) ?_)|(refine auP ?_)|((refine auR ?_);clear hK K)|(refine auR ?_)|((with_reducible refine hK _ _ ?_);clear hK K)|fail)
    exact ⟨t+1,hlt,by omega,Fits.of ⟨rfl,rfl,rfl,rfl,trivial⟩ (by rw [hsc];exact SubL.refl _) rfl⟩
   ·obtain rfl:t=8:=by omega
    have t2:decide (((8:Nat):Int)<8)=false:=by decide
    repeat' (first|(refine wlS ?_)|(refine wlB ?_)|(refine wlE ?_)|(refine efSvvp ?_;intro v hv hp)|(refine efSvao ?_;intro v oa ho)|(refine efBnn ?_;intro n hn)|(refine efB ?_)|(refine efBS ?_)|(refine wl_skip rfl rfl ?_)|((with_reducible refine wc_seq ?_);intro K hK)|(refine auC ?_)|(refine wc_cond rfl (fun hc=>?_) (fun hc=>?_))|((with_reducible refine wc_drawT (by kernel_rfl) ?_);(try simp only [List.append_eq,List.cons_append,List.nil_append,List.length_cons,List.length_nil,Nat.reduceAdd]))|((with_reducible refine sel_wh ?_);(refine wh_if (by decide +kernel) ?_);first|(refine wh_take (lq:=[]) rfl rfl rfl rfl (by first|exact rvS|exact rvB|exact rvE) (Or.inl rfl) ?_)|(refine wh_takeL rfl rfl rfl rfl (by first|exact rvS|exact rvB|exact rvE) (by decide +kernel) ?_))|(refine whS ?_;intro v hv hp)|((with_reducible refine sel_wh ?_);first|(refine wh_pass rfl rfl rfl rfl ?_)|(refine wh_done rfl ?_)|(refine wh_all rfl ?_))|((with_reducible refine sel_rest ?_);first|exact rest_nil rfl|refine rest_cons rfl rfl ?_ ?_)|((with_reducible refine sel_nx ?_);first|refine next_of ?_|refine next_late (by decide +kernel) ?_)|(refine auP ?_)|((refine auR ?_);clear hK K)|(refine auR ?_)|((with_reducible refine hK _ _ ?_);clear hK K)|fail)
    clear ht ha hlt t2 hV
    first|refine end_ret (ResP.cell rfl ld_whole ResP.nil) ?_|refine end_normal (ResP.cell rfl ld_whole ResP.nil) ?_
    first|rfl|(show _=_;rfl)|(simp only [tupV, *];done)
end Go.Proofs.YtkendlnjaopbeaaGreatDoor
