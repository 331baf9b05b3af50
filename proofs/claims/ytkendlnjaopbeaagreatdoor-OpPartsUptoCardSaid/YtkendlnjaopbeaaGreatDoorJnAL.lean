/- scalar.Of,walked;appends to a slice that is full. scalar.Digest,walked. Numbers modulo 2^255 - 19: what Low makes. Sums,differences,products modulo 2^255 - 19 on numbers: plain laws. Powers modulo 2^255 - 19 by squaring;the root that field.Sqrt looks for: plain laws. Points of the curve as pairs of numbers;what the program makes of them: definitions,no program in sight. What field.Mul makes of a product's words: plain law. field.P,Low,Add,Sub. field.Mul. The contracts of field,in the words fadd,fmul,fsub,flow. field.pow,Inv,Sqrt. curve.d,Zero,Base,quadOf,plus,point,On,Neg,Add. -/
import Derived.Test.YtkendlnjaopbeaaGreatDoorJnAJ
import Derived.Test.YtkendlnjaopbeaaGreatDoorJnAI
import Derived.Test.YtkendlnjaopbeaaGreatDoorJnAK
import Derived.Test.YtkendlnjaopbeaaGreatDoorJnAC
import Derived.Test.YtkendlnjaopbeaaGreatDoorSl
namespace Go.Proofs.YtkendlnjaopbeaaGreatDoor
open Go.RowKit
set_option linter.unusedVariables false
set_option linter.unusedSimpArgs false
set_option maxRecDepth 100000
def gf (p:List Nat)(i:Nat):Nat:=p.getD i 0
def fbl (p:List Nat):Nat:=fb (gf p) p.length
theorem gf_lt {n:Nat}{p:List Nat}(h:BL n p)(i:Nat):gf p i<256:=by
 unfold gf
 rw [List.getD_eq_getElem?_getD]
 cases hx:p[i]? with
 | none=>simp
 | some x=>exact h.by' x (List.mem_of_getElem? hx)
def lb (a:Nat):List Nat:=(List.range 32).map (byteN a)
theorem lb_len (a:Nat):(lb a).length=32:=by simp [lb]
theorem lb_ok (a:Nat):BL 32 (lb a):=⟨lb_len a,fun x hx=>by
 obtain ⟨j,_,rfl⟩:=List.mem_map.1 hx
 exact byteN_lt a j⟩
theorem lb_cells (a:Nat):bys (lb a)=byteCells (byteN a):=by
 unfold bys bl byteCells lb
 rw [List.map_map];rfl
instance (a:Nat):Cells (bys (lb a)) 32:=⟨(seg_bys (lb_len a)).size,(seg_bys (lb_len a)).one⟩
instance (a:Nat):SegL (bys (lb a)) 32:=seg_bys (lb_len a)
instance (a:Nat):BLc 32 (lb a):=⟨lb_ok a,by decide⟩
set_option exponentiation.threshold 600 in
theorem fbl_lt {n:Nat}{p:List Nat}(h:BL n p)(hn:n≤64):fbl p<T512:=by
 have h1:=fb_lt (gf p) (gf_lt h) p.length
 refine Nat.lt_of_lt_of_le h1 ?_
 rw [T512_eq]
 exact Nat.pow_le_pow_right (by decide) (by rw [h.len];omega)
theorem bytes_lb (a:Nat)(ha:a<T256)(w:World):Calls Tryz.prog 55 [nu a].toArray w (Ret (.agg (bys (lb a))) w):=by
 have:=bytes_all a ha w
 rw [nu_num,←lb_cells] at this
 exact this
theorem fb_put (f:Nat→Nat)(hf:∀ j,f j<256)(k:Nat)(hk:k<64) :
  putC (wideC (fb f k)) (k / 8) (.int .u64 (bits .or .u64 (limb (fb f k) (k / 8)) ((f k * 2 ^ (8 * (k % 8)):Nat):Int)))=wideC (fb f (k+1)):=by
 have hk0:8 * (k / 8)+k % 8=k:=Nat.div_add_mod k 8
 have hr:k % 8<8:=Nat.mod_lt _ (by omega)
 have hup:f k * 2 ^ (8 * (k % 8))<2 ^ 64:=by
  have h1:f k * 2 ^ (8 * (k % 8))<2 ^ 8 * 2 ^ (8 * (k % 8)):=Nat.mul_lt_mul_of_pos_right (hf k) (Nat.two_pow_pos _)
  rw [←Nat.pow_add] at h1
  exact Nat.lt_of_lt_of_le h1 (Nat.pow_le_pow_right (by decide) (by omega))
 refine wideC_put _ _ _ _ (by omega) ?_ fun i hi hne=>?_
 ·have:=fb_lw_same f hf (k / 8) (k % 8) hr
  rw [hk0,Nat.mul_comm (k % 8) 8,Nat.mod_eq_of_lt hup] at this
  rw [limb_lw,limb_lw,int_or _ _ (lw_lt _ _) (by simpa using hup),this]
 ·have:=fb_lw_other f hf (k / 8) (k % 8) i hr hne
  rw [hk0] at this
  rw [limb_lw,limb_lw,this]
set_option maxHeartbeats 8000000 in
theorem of_ok (w:World){u:Value}{c:Nat}{p:List Nat}(h:Cb w u c p)(hc:c≤64):Calls Tryz.prog 28 [u].toArray w (Ret (.tuple #[nu (slow (fbl p)),.int .i64 0]) w):=by
 haveI i0:=h.old
 have hl:=h.ok.len
 have RC:=reduceS (fbl p) (fbl_lt h.ok hc)
 have hby:=gf_lt h.ok
 have t1:decide ((c:Int)>64)=false:=decide_eq_false (by omega)
 have hE:fbl p=fb (gf p) c:=by unfold fbl;rw [hl]
 rw [hE] at RC ⊢
 have f0:fb (gf p) 0=0:=rfl
 have hput:=fun k hk=>fb_put (gf p) hby k hk
 have hgb:∀ k,k<c→(bl p)[k]? = some (.int .u8 ((gf p k:Nat):Int)):=fun k hk=>by simp [bl,gf,List.getD,show k<p.length by omega]
 generalize slow (fb (gf p) c)=R at *
 generalize gf p=f at *
 clear h hE hl
 refine fn_ret (N:=_) Tryz.func28 rfl Tryz.ntmps28 Tryz.results28 (by simp) ?_
 simp only [initS,Nat.reduceAdd,Nat.zero_add]
 repeat' (first|(refine wlS ?_)|(refine wlB ?_)|(refine wlNL ?_)|(refine wlE ?_)|(refine efSvao ?_;intro v oa ho)|(refine efZCnn ?_;intro n hn)|(refine efBnn ?_;intro n hn)|(refine efB ?_)|(refine efBS ?_)|(refine wl_skip rfl rfl ?_)|((with_reducible refine wc_seq ?_);intro K hK)|(refine auC ?_)|(refine wc_cond rfl (fun hc=>?_) (fun hc=>?_))|(refine wc_draw (by kernel_rfl) (by kernel_rfl) (by decide +kernel) ?_;intro w0 hw0 hm0;(try simp only [List.append_eq,List.cons_append,List.nil_append]))|(refine auP ?_)|((refine auR ?_);clear hK K)|(refine auR ?_)|((with_reducible refine hK _ _ ?_);clear hK K)|fail)
 rename_i n2 g2
 obtain ⟨n4,rfl⟩:∃ n4,n4=n:=⟨_,rfl⟩
 refine wc_loop (σ:=Nat) (fun k=>[(2,ptr n2),(4,ptr n4),(11,u),(12,.int .i64 (c:Int)),(13,.int .i64 (k:Int))])
  (fun k=>[(n4,(wideC (fb f k),130)),(n2,(numC 0,46))])
  (fun k=>k≤c) (fun k=>c - k) 0 (Nat.zero_le _) (Fits.of ⟨rfl,rfl,rfl,rfl,rfl,trivial⟩ (by rw [f0];exact SubL.refl _) rfl) ?_
 intro k hk
 by_cases hlt:k<c
 ·have t2:decide ((k:Int)<(c:Int))=true:=decide_eq_true (by omega)
  have t3:IntKind.i64.wrap ((k:Int)+1)=((k+1:Nat):Int):=by rw [wrap_i64 _ (by omega) (by omega)];omega
  have q1:IntKind.i64.wrap ((k:Int).tdiv 8)=((k / 8:Nat):Int):=by rw [Int.tdiv_eq_ediv_of_nonneg (by omega),wrap_i64 _ (by omega) (by omega)];omega
  have q2:(k:Int).tmod 8=((k % 8:Nat):Int):=by rw [Int.tmod_eq_emod_of_nonneg (by omega)];omega
  have q3:IntKind.i64.wrap (((k % 8:Nat):Int) * 8)=((8 * (k % 8):Nat):Int):=by rw [wrap_i64 _ (by omega) (by omega)];omega
  have q4:IntKind.u64.wrap ((8 * (k % 8):Nat):Int)=((8 * (k % 8):Nat):Int):=by rw [wrap_u64 _ (by omega) (by omega)]
  have hb8:=hby k
  have q5:IntKind.u64.wrap ((f k:Nat):Int)=((f k:Nat):Int):=by rw [wrap_u64 _ (by omega) (by omega)]
  have hup:f k * 2 ^ (8 * (k % 8))<2 ^ 64:=by
   have h1:f k * 2 ^ (8 * (k % 8))<2 ^ 8 * 2 ^ (8 * (k % 8)):=Nat.mul_lt_mul_of_pos_right hb8 (Nat.two_pow_pos _)
   rw [←Nat.pow_add] at h1
   exact Nat.lt_of_lt_of_le h1 (Nat.pow_le_pow_right (by decide) (by omega))
  have q6:IntKind.u64.wrap (((f k:Nat):Int) * 2 ^ (min ((8 * (k % 8):Nat):Int).toNat (IntKind.bits .u64)))=((f k * 2 ^ (8 * (k % 8)):Nat):Int):=by
   rw [show min ((8 * (k % 8):Nat):Int).toNat (IntKind.bits .u64)=8 * (k % 8) by show min _ 64=_;omega,int_shl,Nat.mod_eq_of_lt hup]
  have j1:(k:Int)<(c:Int):=by omega
  have j2:((k / 8:Nat):Int)<((8:Nat):Int):=by omega
  have hp:0+((k / 8:Nat):Int).toNat * 1=k / 8:=by omega
  have gb:=hgb k hlt
  have gw:=wideC_get (fb f k) (k / 8) (by omega)
  have pw:=hput k (by omega)
  clear hgb hput RC f0 hby hup
  repeat' (first|(refine wlS ?_)|(refine wlB ?_)|(refine wlE ?_)|(refine efSvao ?_;intro v oa ho)|(refine efBnn ?_;intro n hn)|(refine efB ?_)|(refine efBS ?_)|(refine wl_skip rfl rfl ?_)|((with_reducible refine wc_seq ?_);intro K hK)|(refine auC ?_)|(refine wc_cond rfl (fun hc=>?_) (fun hc=>?_))|(refine wc_draw (by kernel_rfl) (by kernel_rfl) (by decide +kernel) ?_;intro w0 hw0 hm0;(try simp only [List.append_eq,List.cons_append,List.nil_append]))|(refine auP ?_)|((refine auR ?_);clear hK K)|(refine auR ?_)|((with_reducible refine hK _ _ ?_);clear hK K)|fail)
  exact ⟨k+1,hlt,by omega,Fits.of ⟨rfl,rfl,rfl,rfl,rfl,trivial⟩ (SubL.refl _) rfl⟩
 ·obtain rfl:k=c:=by omega
  have t2:decide ((k:Int)<(k:Int))=false:=decide_eq_false (by omega)
  clear hgb hput hby f0
  repeat' (first|(refine wlS ?_)|(refine wlB ?_)|((with_reducible refine sel_call ?_);refine wl_rd rfl rfl (rd_call rfl rfl rfl (fun w hm=>by with_reducible exact RC w)) ?_)|(refine wlE ?_)|(refine efSvao ?_;intro v oa ho)|(refine efBnn ?_;intro n hn)|(refine efB ?_)|(refine efBS ?_)|(refine wl_skip rfl rfl ?_)|((with_reducible refine wc_seq ?_);intro K hK)|(refine auC ?_)|(refine wc_cond rfl (fun hc=>?_) (fun hc=>?_))|(refine wc_draw (by kernel_rfl) (by kernel_rfl) (by decide +kernel) ?_;intro w0 hw0 hm0;(try simp only [List.append_eq,List.cons_append,List.nil_append]))|(refine auP ?_)|((refine auR ?_);clear hK K)|(refine auR ?_)|((with_reducible refine hK _ _ ?_);clear hK K)|fail)
  first|refine end_ret (ResP.cell rfl ld_whole (ResP.tmp rfl ResP.nil)) ?_|refine end_normal (ResP.cell rfl ld_whole (ResP.tmp rfl ResP.nil)) ?_
  first|rfl|(show _=_;rfl)|(simp only [tupV, *];done)
end Go.Proofs.YtkendlnjaopbeaaGreatDoor
namespace Go.Proofs.YtkendlnjaopbeaaGreatDoor
open Go.RowKit
attribute [local irreducible] rwA bys iw
set_option linter.unusedVariables false
set_option linter.unusedSimpArgs false
set_option maxRecDepth 100000
def dgH (c i:Nat)(p:List Nat):List Nat:=((newH.write [c,i]).write p).sum
def dgN (c:Nat)(p:List Nat):Nat:=slow (fbl (dgH c 0 p++dgH c 1 p))
theorem dgN_L (c:Nat)(p:List Nat):dgN c p<SLn:=slow_L _
theorem dgN_lt (c:Nat)(p:List Nat):dgN c p<T256:=slow_lt _
theorem two_by {c i:Nat}(hc:c<256)(hi:i<256):ByL [c,i]:=⟨fun x hx=>by
 simp only [List.mem_cons,List.not_mem_nil,or_false] at hx
 rcases hx with rfl|rfl <;> assumption⟩
set_option maxHeartbeats 4000000 in
theorem dgn_c (w:World)(hT:Tab w)(w':World)(hb:Below w.heap.size w w')(c:Nat)(hc:c<256){v:Value}{n:Nat}{p:List Nat}(hq:Cb w' v n p) :
  Calls Tryz.prog 20 [.int .u8 (c:Int),v].toArray w' (Ret (nu (dgN c p)) w'):=by
 have NW:=new_c
 have WG:=write_g w' (hT.below hb)
 have SG:=sum_g w' (hT.below hb)
 have i1:=hq.old
 haveI:ByL p:=⟨hq.ok.by'⟩
 haveI:ByL [c,0]:=two_by hc (by decide)
 haveI:ByL [c,1]:=two_by hc (by decide)
 haveI b0:BLc 32 (dgH c 0 p):=⟨⟨sum_len (st:=(newH.write [c,0]).write p) HSo.out,ByL.out (p:=((newH.write [c,0]).write p).sum)⟩,by decide⟩
 haveI b1:BLc 32 (dgH c 1 p):=⟨⟨sum_len (st:=(newH.write [c,1]).write p) HSo.out,ByL.out (p:=((newH.write [c,1]).write p).sum)⟩,by decide⟩
 have OF:∀ {u:Value} w'',Cb w'' u (32+32) (dgH c 0 p++dgH c 1 p)→Calls Tryz.prog 28 [u].toArray w'' (Ret (.tuple #[nu (dgN c p),.int .i64 0]) w''):=fun w'' h=>of_ok w'' h (by decide)
 have e0:dgH c 0 p=((newH.write [c,0]).write p).sum:=rfl
 have e1:dgH c 1 p=((newH.write [c,1]).write p).sum:=rfl
 rw [e0,e1] at OF
 rw [e0] at b0
 rw [e1] at b1
 clear e0 e1 hT hb hq
 generalize dgN c p=R at *
 refine fn_ret (N:=_) Tryz.func20 rfl Tryz.ntmps20 Tryz.results20 (by simp) ?_
 simp only [initS,Nat.reduceAdd,Nat.zero_add]
 repeat' (first|(refine wlS ?_)|(refine wlB ?_)|((with_reducible refine sel_call ?_);refine wl_rd rfl rfl (rd_call rfl rfl rfl (fun w hm=>by with_reducible first|exact NW w|exact WG w (hm.below rfl) (VwB.out w hm)|exact SG w (hm.below rfl)|exact OF w (VwB.out w hm))) ?_)|(refine wlE ?_)|(refine efSvvp ?_;intro v hv hp)|(refine efSvao ?_;intro v oa ho)|(refine efAFvao ?_;intro v oa ho)|(refine efZCnn ?_;intro n hn)|(refine efBnn ?_;intro n hn)|(refine efB ?_)|(refine efBS ?_)|(refine wl_skip rfl rfl ?_)|((with_reducible refine wc_seq ?_);intro K hK)|(refine auC ?_)|(refine wc_cond rfl (fun hc=>?_) (fun hc=>?_))|((with_reducible refine wc_drawT (by kernel_rfl) ?_);(try simp only [List.append_eq,List.cons_append,List.nil_append,List.length_cons,List.length_nil,Nat.reduceAdd]))|((with_reducible refine sel_wh ?_);(refine wh_if (by decide +kernel) ?_);first|(refine wh_take (lq:=[]) rfl rfl rfl rfl (by first|exact rvS|exact rvB|exact rvE) (Or.inl rfl) ?_)|(refine wh_takeL rfl rfl rfl rfl (by first|exact rvS|exact rvB|exact rvE) (by decide +kernel) ?_))|(refine whS ?_;intro v hv hp)|((with_reducible refine sel_wh ?_);first|(refine wh_pass rfl rfl rfl rfl ?_)|(refine wh_done rfl ?_)|(refine wh_all rfl ?_))|((with_reducible refine sel_rest ?_);first|exact rest_nil rfl|refine rest_cons rfl rfl ?_ ?_)|((with_reducible refine sel_nx ?_);first|refine next_of ?_|refine next_late (by decide +kernel) ?_)|(refine auP ?_)|((refine auR ?_);clear hK K)|(refine auR ?_)|((with_reducible refine hK _ _ ?_);clear hK K)|fail)
 all_goals (first|refine end_ret (ResP.cell rfl ld_whole ResP.nil) ?_|refine end_normal (ResP.cell rfl ld_whole ResP.nil) ?_)
 all_goals (first|rfl|(show _=_;rfl)|(simp only [tupV, *];done))
end Go.Proofs.YtkendlnjaopbeaaGreatDoor
namespace Go.Proofs.YtkendlnjaopbeaaGreatDoor
def PP:Nat:=57896044618658097711785492504343953926634992332820282019728792003956564819949
theorem PP_T:T256=2 * PP+38:=by decide +kernel
theorem PP_pos:38<PP:=by decide +kernel
def sinkP (a:Nat):Nat→Nat
 | 0=>a
 | i+1=>if PP≤sinkP a i then sinkP a i - PP else sinkP a i
theorem sinkP_lt {a:Nat}(ha:a<T256):∀ i,sinkP a i<T256
 | 0=>ha
 | i+1=>by have:=sinkP_lt ha i;unfold sinkP;split <;> omega
theorem sinkP_two {a:Nat}(ha:a<T256):sinkP a 2=a % PP:=by
 have h1:=PP_T
 have h2:=PP_pos
 have e:sinkP a 2=if PP≤sinkP a 1 then sinkP a 1 - PP else sinkP a 1:=rfl
 have e1:sinkP a 1=if PP≤a then a - PP else a:=rfl
 generalize PP=p at *
 rw [e,e1]
 by_cases k1:p≤a
 ·rw [if_pos k1]
  by_cases k2:p≤a - p
  ·rw [if_pos k2,Nat.mod_eq_sub_mod k1,Nat.mod_eq_sub_mod k2,Nat.mod_eq_of_lt (by omega)]
  ·rw [if_neg k2,Nat.mod_eq_sub_mod k1,Nat.mod_eq_of_lt (by omega)]
 ·rw [if_neg k1,if_neg k1,Nat.mod_eq_of_lt (by omega)]
end Go.Proofs.YtkendlnjaopbeaaGreatDoor
namespace Go.Proofs.YtkendlnjaopbeaaGreatDoor
def flow (a:Nat):Nat:=a % PP
def fadd (a b:Nat):Nat:=(a+b) % PP
def fmul (a b:Nat):Nat:=a * b % PP
def fsub (a b:Nat):Nat:=(a % PP+PP - b % PP) % PP
def fpow (a n:Nat):Nat:=a ^ n % PP
theorem PP_lt:PP<T256:=by decide +kernel
theorem flow_P (a:Nat):flow a<PP:=Nat.mod_lt _ (by decide)
theorem fadd_P (a b:Nat):fadd a b<PP:=Nat.mod_lt _ (by decide)
theorem fmul_P (a b:Nat):fmul a b<PP:=Nat.mod_lt _ (by decide)
theorem fsub_P (a b:Nat):fsub a b<PP:=Nat.mod_lt _ (by decide)
theorem fpow_P (a b:Nat):fpow a b<PP:=Nat.mod_lt _ (by decide)
theorem flow_lt (a:Nat):flow a<T256:=Nat.lt_trans (flow_P a) PP_lt
instance {a:Nat}:SmT (flow a):=⟨flow_lt _⟩
theorem fadd_lt (a b:Nat):fadd a b<T256:=Nat.lt_trans (fadd_P a b) PP_lt
instance {a b:Nat}:SmT (fadd a b):=⟨fadd_lt _ _⟩
theorem fmul_lt (a b:Nat):fmul a b<T256:=Nat.lt_trans (fmul_P a b) PP_lt
instance {a b:Nat}:SmT (fmul a b):=⟨fmul_lt _ _⟩
theorem fsub_lt (a b:Nat):fsub a b<T256:=Nat.lt_trans (fsub_P a b) PP_lt
instance {a b:Nat}:SmT (fsub a b):=⟨fsub_lt _ _⟩
theorem fpow_lt (a b:Nat):fpow a b<T256:=Nat.lt_trans (fpow_P a b) PP_lt
theorem flow_of {a:Nat}(h:a<PP):flow a=a:=Nat.mod_eq_of_lt h
theorem fadd_comm (a b:Nat):fadd a b=fadd b a:=by unfold fadd;rw [Nat.add_comm]
theorem fmul_comm (a b:Nat):fmul a b=fmul b a:=by unfold fmul;rw [Nat.mul_comm]
theorem fadd_assoc (a b c:Nat):fadd (fadd a b) c=fadd a (fadd b c):=by
 unfold fadd;rw [Nat.mod_add_mod,Nat.add_mod_mod,Nat.add_assoc]
theorem fmul_add (a b c:Nat):fmul a (fadd b c)=fadd (fmul a b) (fmul a c):=by
 unfold fmul fadd;rw [Nat.mul_mod_mod,Nat.mod_add_mod,Nat.add_mod_mod,Nat.mul_add]
theorem fmul_one (a:Nat):fmul a 1=flow a:=by unfold fmul flow;rw [Nat.mul_one]
theorem fsub_add (a b:Nat):fadd (fsub a b) b=flow a:=by
 unfold fadd fsub flow
 have h:=Nat.mod_lt b (show 0<PP by decide)
 have e:=Nat.mod_add_div b PP
 rw [Nat.mod_add_mod]
 generalize PP=p at *
 generalize b / p=q at *
 generalize b % p=r at *
 rw [show a % p+p - r+b=a % p+p+p * q by omega,show a % p+p+p * q=a % p+p * (1+q) by rw [Nat.mul_add,Nat.mul_one,Nat.add_assoc],Nat.add_mul_mod_self_left,Nat.mod_mod]
theorem flow_def (a:Nat):flow a=a % PP:=rfl
theorem fadd_def (a b:Nat):fadd a b=(a+b) % PP:=rfl
theorem fmul_def (a b:Nat):fmul a b=a * b % PP:=rfl
theorem fsub_def (a b:Nat):fsub a b=(a % PP+PP - b % PP) % PP:=rfl
theorem fpow_def (a n:Nat):fpow a n=a ^ n % PP:=rfl
attribute [irreducible] flow fadd fmul fsub fpow
end Go.Proofs.YtkendlnjaopbeaaGreatDoor
namespace Go.Proofs.YtkendlnjaopbeaaGreatDoor
theorem fpow_zero (a:Nat):fpow a 0=1:=by simp only [fpow_def];rw [Nat.pow_zero];decide +kernel
theorem fpow_add (a m n:Nat):fpow a (m+n)=fmul (fpow a m) (fpow a n):=by
 simp only [fpow_def,fmul_def];rw [Nat.mod_mul_mod,Nat.mul_mod_mod,Nat.pow_add]
theorem fpow_one (a:Nat):fpow a 1=flow a:=by simp only [fpow_def,flow_def];rw [Nat.pow_one]
theorem fmul_flow_right (a b:Nat):fmul a (flow b)=fmul a b:=by simp only [fmul_def,flow_def];rw [Nat.mul_mod_mod]
theorem fmul_flow_left (a b:Nat):fmul (flow a) b=fmul a b:=by simp only [fmul_def,flow_def];rw [Nat.mod_mul_mod]
theorem fpow_flow (a n:Nat):fpow (flow a) n=fpow a n:=by simp only [fpow_def,flow_def];rw [←Nat.pow_mod]
theorem fpow_even (a m:Nat):fpow a (2 * m)=fmul (fpow a m) (fpow a m):=by rw [Nat.two_mul,fpow_add]
theorem fpow_odd (a m:Nat):fpow a (2 * m+1)=fmul (fmul (fpow a m) (fpow a m)) a:=by
 rw [fpow_add,fpow_even,fpow_one,fmul_flow_right]
theorem fpow_top (a n:Nat):fpow a (n / 2 ^ blen n)=1:=by
 rw [Nat.div_eq_of_lt (blen_le.1 (Nat.le_refl _)),fpow_zero]
theorem fpow_bit (a n j:Nat):fpow a (n / 2 ^ j)=if n / 2 ^ j % 2=1 then fmul (fmul (fpow a (n / 2 ^ (j+1))) (fpow a (n / 2 ^ (j+1)))) a else fmul (fpow a (n / 2 ^ (j+1))) (fpow a (n / 2 ^ (j+1))):=by
 have e:n / 2 ^ (j+1)=n / 2 ^ j / 2:=by rw [Nat.pow_succ,Nat.div_div_eq_div_mul]
 rw [e]
 generalize n / 2 ^ j=m
 split
 ·rename_i h
  rw [←fpow_odd,show 2 * (m / 2)+1=m by omega]
 ·rename_i h
  rw [←fpow_even,show 2 * (m / 2)=m by omega]
def E1:Nat:=7237005577332262213973186563042994240829374041602535252466099000494570602494
def E2:Nat:=14474011154664524427946373126085988481658748083205070504932198000989141204987
def finv (a:Nat):Nat:=fpow a (PP - 2)
def rootA (a:Nat):Nat:=fpow a E1
def rootB (a:Nat):Nat:=if fmul (rootA a) (rootA a)=flow a then rootA a else fmul (rootA a) (fpow 2 E2)
def isSq (a:Nat):Bool:=decide (fmul (rootB a) (rootB a)=flow a)
def rootC (a:Nat):Nat:=if rootB a % 2=1 then fsub 0 (rootB a) else rootB a
def froot (a:Nat):Nat:=if isSq a=true then rootC a else 0
theorem rootB_lt (a:Nat):rootB a<T256:=by unfold rootB rootA;split;exact fpow_lt _ _;exact fmul_lt _ _
theorem rootB_P (a:Nat):rootB a<PP:=by unfold rootB rootA;split;exact fpow_P _ _;exact fmul_P _ _
theorem rootC_P (a:Nat):rootC a<PP:=by unfold rootC;split;exact fsub_P _ _;exact rootB_P _
theorem froot_P (a:Nat):froot a<PP:=by unfold froot;split;exact rootC_P _;decide
theorem finv_lt (a:Nat):finv a<T256:=fpow_lt _ _
instance {a:Nat}:SmT (finv a):=⟨finv_lt _⟩
theorem froot_lt (a:Nat):froot a<T256:=Nat.lt_trans (froot_P a) PP_lt
end Go.Proofs.YtkendlnjaopbeaaGreatDoor
namespace Go.Proofs.YtkendlnjaopbeaaGreatDoor
def DD:Nat:=37095705934669439343138083508754565189542113879843219016388785533085940283555
def BX:Nat:=15112221349535400772501151409588531511454012693041857206046113283949847762202
def BY:Nat:=46316835694926478169428394003475163141307993866256225615783033603165251855960
structure Qd where
 x:Nat
 y:Nat
 z:Nat
 t:Nat
structure Pt where
 x:Nat
 y:Nat
deriving DecidableEq
def Qd.lt (q:Qd):Prop:=q.x<T256∧q.y<T256∧q.z<T256∧q.t<T256
def Pt.lt (p:Pt):Prop:=p.x<T256∧p.y<T256
def Qd.plus (q r:Qd):Qd:=
 let a:=fmul (fsub q.y q.x) (fsub r.y r.x)
 let b:=fmul (fadd q.y q.x) (fadd r.y r.x)
 let c0:=fmul (fmul q.t r.t) DD
 let c:=fadd c0 c0
 let z0:=fmul q.z r.z
 let z:=fadd z0 z0
 let e:=fsub b a
 let f:=fsub z c
 let g:=fadd z c
 let h:=fadd b a
 ⟨fmul e f,fmul g h,fmul f g,fmul e h⟩
def Pt.quad (p:Pt):Qd:=⟨p.x,p.y,1,fmul p.x p.y⟩
def Qd.point (q:Qd):Pt:=⟨fmul q.x (finv q.z),fmul q.y (finv q.z)⟩
def Pt.zero:Pt:=⟨0,1⟩
def Pt.base:Pt:=⟨BX,BY⟩
def Pt.eqn (p:Pt):Prop:=fsub (fmul p.y p.y) (fmul p.x p.x)=fadd 1 (fmul DD (fmul (fmul p.x p.x) (fmul p.y p.y)))
instance (p:Pt):Decidable p.eqn:=by unfold Pt.eqn;infer_instance
def Pt.on (p:Pt):Prop:=p.x=flow p.x∧p.y=flow p.y∧p.eqn
instance (p:Pt):Decidable p.on:=by unfold Pt.on;infer_instance
def Pt.add (p q:Pt):Pt:=(p.quad.plus q.quad).point
def Qd.rep (q:Qd)(n:Nat):Nat→Qd
 | 0=>Pt.zero.quad
 | k+1=>let o:=(q.rep n k).plus (q.rep n k);if n / 2 ^ (blen n - (k+1)) % 2=1 then o.plus q else o
def Pt.times (n:Nat)(p:Pt):Pt:=(p.quad.rep n (blen n)).point
theorem Qd.plus_lt (q r:Qd):(q.plus r).lt:=⟨fmul_lt _ _,fmul_lt _ _,fmul_lt _ _,fmul_lt _ _⟩
theorem Pt.quad_lt {p:Pt}(h:p.lt):p.quad.lt:=⟨h.1,h.2,by show 1<T256;decide,fmul_lt _ _⟩
theorem Pt.zero_lt:Pt.zero.lt:=⟨by decide,by decide⟩
theorem Qd.rep_lt {q:Qd}(n k:Nat):(q.rep n k).lt:=by
 cases k with
 | zero=>exact Pt.quad_lt Pt.zero_lt
 | succ k=>unfold Qd.rep;dsimp only;split <;> exact Qd.plus_lt _ _
theorem DD_lt:DD<T256:=by decide
end Go.Proofs.YtkendlnjaopbeaaGreatDoor
namespace Go.Proofs.YtkendlnjaopbeaaGreatDoor
def fmS (W i:Nat):Nat:=W % 2 ^ (64 * i)+38 * (W / T256 % 2 ^ (64 * i))
def fmO (W i:Nat):Nat:=fmS W i % 2 ^ (64 * i)
def fmC (W i:Nat):Nat:=fmS W i / 2 ^ (64 * i)
theorem fm_zero (W:Nat):fmO W 0=0∧fmC W 0=0:=by
 have:fmS W 0=0:=by unfold fmS;rw [Nat.mul_zero,Nat.pow_zero,Nat.mod_one,Nat.mod_one]
 unfold fmO fmC;rw [this];simp
theorem lw_hi (W i:Nat):lw (W / T256) i=lw W (i+4):=by
 unfold lw
 rw [T256_eq,Nat.div_div_eq_div_mul,←Nat.pow_add,show 256+64 * i=64 * (i+4) by omega]
theorem mod_step (W i:Nat):W % 2 ^ (64 * (i+1))=W % 2 ^ (64 * i)+2 ^ (64 * i) * lw W i:=by
 unfold lw
 rw [show 64 * (i+1)=64 * i+64 by omega,Nat.pow_add,Nat.mod_mul]
theorem fmS_succ (W i:Nat):fmS W (i+1)=fmS W i+2 ^ (64 * i) * (lw W i+38 * lw W (i+4)):=by
 unfold fmS
 rw [mod_step,mod_step,lw_hi]
 simp only [Nat.mul_add,Nat.mul_left_comm 38]
 omega
theorem fmC_lt (W i:Nat):fmC W i<39:=by
 unfold fmC fmS
 have h0:0<2 ^ (64 * i):=Nat.pow_pos (by omega)
 have h1:=Nat.mod_lt W h0
 have h2:=Nat.mod_lt (W / T256) h0
 rw [Nat.div_lt_iff_lt_mul h0]
 omega
theorem fm_step {W i A B lo c:Nat}(hA:A=lw W (i+4))(hB:B=lw W i)(h:A * 38+B+fmC W i=lo+18446744073709551616 * c)(hlo:lo<18446744073709551616) :
  fmC W (i+1)=c∧fmO W (i+1)=fmO W i+2 ^ (64 * i) * lo:=by
 have e:=fmS_succ W i
 have d:=Nat.mod_add_div (fmS W i) (2 ^ (64 * i))
 have h0:0<2 ^ (64 * i):=Nat.pow_pos (by omega)
 have hm:=Nat.mod_lt (fmS W i) h0
 rw [←hA,←hB] at e
 have e2:fmS W (i+1)=fmO W i+2 ^ (64 * i) * (lo+18446744073709551616 * c):=by
  rw [e,←h]
  unfold fmO fmC
  rw [←hA.symm.symm] at *
  conv=>lhs;rw [←d]
  rw [Nat.add_assoc,←Nat.mul_add]
  congr 2
  omega
 have e3:(2:Nat) ^ (64 * (i+1))=2 ^ (64 * i) * 18446744073709551616:=by rw [show 64 * (i+1)=64 * i+64 by omega,Nat.pow_add]
 have e4:fmS W (i+1)=(fmO W i+2 ^ (64 * i) * lo)+2 ^ (64 * (i+1)) * c:=by
  rw [e2,e3,Nat.mul_add,Nat.add_assoc,Nat.mul_assoc]
 have hlt:fmO W i+2 ^ (64 * i) * lo<2 ^ (64 * (i+1)):=by
  rw [e3]
  have hm':fmO W i<2 ^ (64 * i):=hm
  have:2 ^ (64 * i) * lo+2 ^ (64 * i)≤2 ^ (64 * i) * 18446744073709551616:=by
   rw [←Nat.mul_succ];exact Nat.mul_le_mul_left _ hlo
  omega
 constructor
 ·unfold fmC;rw [e4,Nat.add_mul_div_left _ _ (Nat.pow_pos (by omega)),Nat.div_eq_of_lt hlt,Nat.zero_add]
 ·unfold fmO;rw [e4,Nat.add_mul_mod_self_left,Nat.mod_eq_of_lt hlt];rfl
theorem fmO_lt (W i:Nat):fmO W i<2 ^ (64 * i):=Nat.mod_lt _ (Nat.pow_pos (by omega))
theorem limb_top (x i lo:Nat)(hx:x<2 ^ (64 * i))(hlo:lo<18446744073709551616) :
  ((lo:Nat):Int)=limb (x+2 ^ (64 * i) * lo) i∧∀ k,k≠i→limb x k=limb (x+2 ^ (64 * i) * lo) k:=by
 have h0:0<2 ^ (64 * i):=Nat.pow_pos (by omega)
 refine ⟨?_,fun k hk=>?_⟩
 ·unfold limb
  rw [Nat.add_mul_div_left _ _ h0,Nat.div_eq_of_lt hx,Nat.zero_add,Nat.mod_eq_of_lt hlo]
 ·unfold limb
  congr 1
  rcases Nat.lt_or_gt_of_ne hk with h|h
  ·obtain ⟨d,rfl⟩:∃ d,i=k+1+d:=⟨i - (k+1),by omega⟩
   have e:(2:Nat) ^ (64 * (k+1+d)) * lo=2 ^ (64 * k) * (18446744073709551616 * (2 ^ (64 * d) * lo)):=by
    rw [show 64 * (k+1+d)=64 * k+(64+64 * d) by omega,Nat.pow_add,Nat.pow_add,Nat.mul_assoc,Nat.mul_assoc]
   rw [e,Nat.add_mul_div_left _ _ (Nat.pow_pos (by omega)),Nat.add_mul_mod_self_left]
  ·obtain ⟨d,rfl⟩:∃ d,k=i+1+d:=⟨k - (i+1),by omega⟩
   have e:(2:Nat) ^ (64 * i) * 18446744073709551616≤2 ^ (64 * (i+1+d)):=by
    rw [show 64 * (i+1+d)=64 * i+(64+64 * d) by omega,Nat.pow_add,Nat.pow_add]
    exact Nat.mul_le_mul_left _ (Nat.le_mul_of_pos_right _ (Nat.pow_pos (by omega)))
   have h1:2 ^ (64 * i) * lo+2 ^ (64 * i)≤2 ^ (64 * i) * 18446744073709551616:=by
    rw [←Nat.mul_succ];exact Nat.mul_le_mul_left _ hlo
   have h2:2 ^ (64 * i)≤2 ^ (64 * i) * 18446744073709551616:=Nat.le_mul_of_pos_right _ (by omega)
   rw [Nat.div_eq_of_lt (by omega),Nat.div_eq_of_lt (by omega)]
theorem fm_fold {T p x c S:Nat}(hT:T=2 * p+38)(hS:S=x+T * c):(x+38 * c) % p=S % p:=by
 rw [hS,hT,show x+(2 * p+38) * c=(x+38 * c)+p * (2 * c) by rw [Nat.add_mul];simp only [Nat.mul_assoc,Nat.mul_left_comm p 2];omega,Nat.add_mul_mod_self_left]
theorem fm_end (W:Nat)(hW:W<T512):fmS W 4 % PP=W % PP∧fmS W 4=fmO W 4+T256 * fmC W 4:=by
 have e:fmS W 4=W % T256+38 * (W / T256):=by
  unfold fmS
  have h:W / T256<T256:=Nat.div_lt_of_lt_mul hW
  rw [show 2 ^ (64 * 4)=T256 from T256_eq.symm,Nat.mod_eq_of_lt h]
 refine ⟨?_,?_⟩
 ·rw [e,fm_fold PP_T (S:=W) (Nat.mod_add_div W T256).symm]
 ·have h:=(Nat.mod_add_div (fmS W 4) T256).symm
  unfold fmO fmC
  rw [show 2 ^ (64 * 4)=T256 from T256_eq.symm]
  exact h
end Go.Proofs.YtkendlnjaopbeaaGreatDoor
namespace Go.Proofs.YtkendlnjaopbeaaGreatDoor
open Go.RowKit
set_option linter.unusedVariables false
set_option linter.unusedSimpArgs false
set_option maxRecDepth 8000
theorem PP_val:Value.agg [.int .u64 18446744073709551597,.int .u64 18446744073709551615,.int .u64 18446744073709551615,.int .u64 9223372036854775807].toArray=nu PP:=by
 rw [←nu_num]
 have e0:limb PP 0=18446744073709551597:=by decide +kernel
 have e1:limb PP 1=18446744073709551615:=by decide +kernel
 have e2:limb PP 2=18446744073709551615:=by decide +kernel
 have e3:limb PP 3=9223372036854775807:=by decide +kernel
 unfold num
 rw [e0,e1,e2,e3]
theorem p_f (w:World):Calls Tryz.prog 65 [].toArray w (Ret (nu PP) w):=by
 refine fn_ret (N:=_) Tryz.func65 rfl Tryz.ntmps65 Tryz.results65 (by simp) ?_
 simp only [initS,Nat.reduceAdd,Nat.zero_add]
 repeat' (first|((with_reducible refine sel_build ?_);refine wv rfl rfl (rd_cast (rd_buildA rfl rfl) PP_val) ?_)|(refine wlE ?_)|(refine efZCnn ?_;intro n hn)|(refine efBnn ?_;intro n hn)|(refine efB ?_)|(refine wl_skip rfl rfl ?_)|((with_reducible refine wc_seq ?_);intro K hK)|(refine auC ?_)|(refine wc_cond rfl (fun hc=>?_) (fun hc=>?_))|(refine wc_draw (by kernel_rfl) (by kernel_rfl) (by decide +kernel) ?_;intro w0 hw0 hm0;(try simp only [List.append_eq,List.cons_append,List.nil_append]))|(refine auP ?_)|((refine auR ?_);clear hK K)|(refine auR ?_)|((with_reducible refine hK _ _ ?_);clear hK K)|fail)
 first|refine end_ret (ResP.cell rfl ld_whole ResP.nil) ?_|refine end_normal (ResP.cell rfl ld_whole ResP.nil) ?_
 first|rfl|(show _=_;rfl)|(simp only [tupV, *];done)
set_option maxHeartbeats 4000000 in
theorem low_f (a:Nat)(ha:a<T256)(w:World):Calls Tryz.prog 43 [nu a].toArray w (Ret (nu (a % PP)) w):=by
 have hT:=PP_T
 have hP:=PP_pos
 rw [←sinkP_two ha]
 refine fn_ret (N:=_) Tryz.func43 rfl Tryz.ntmps43 Tryz.results43 (by simp) ?_
 simp only [initS,Nat.reduceAdd,Nat.zero_add]
 repeat' (first|(refine wlB ?_)|(refine efZCnn ?_;intro n hn)|(refine efBnn ?_;intro n hn)|(refine efB ?_)|(refine wl_skip rfl rfl ?_)|(refine wdV ?_)|(refine wdB ?_)|(refine wdE ?_)|(refine wd_allocC hm0 rfl rfl rfl ?_;intro n hn hn0)|(refine wd_alloc hm0 rfl rfl rfl ?_;intro n hn hn0)|(refine wdT ?_)|(refine wd_skip rfl rfl ?_)|((with_reducible refine seld_nil ?_);refine wd_nil hm0 ?_;clear hm0 hw0)|((with_reducible refine wc_seq ?_);intro K hK)|(refine auC ?_)|(refine wc_cond rfl (fun hc=>?_) (fun hc=>?_))|(refine wc_draw (by kernel_rfl) (by kernel_rfl) (by decide +kernel) ?_;intro w0 hw0 hm0;(try simp only [List.append_eq,List.cons_append,List.nil_append]))|(refine auP ?_)|((refine auR ?_);clear hK K)|(refine auR ?_)|((with_reducible refine hK _ _ ?_);clear hK K)|fail)
 rename_i n1 g1
 obtain ⟨n2,rfl⟩:∃ n2,n2=n:=⟨n,rfl⟩
 refine wc_loop (σ:=Nat) (fun i=>[(1,ptr n1),(2,ptr n2),(5,.int .i64 (i:Int))]) (fun i=>[(n2,(numC 0,46)),(n1,(numC (sinkP a i),46))])
  (fun i=>i≤2) (fun i=>2 - i) 0 (Nat.zero_le _) (Fits.of ⟨rfl,rfl,rfl,trivial⟩ (by
   repeat (first|exact SubL.nil|exact SubL.refl _|refine SubL.keep ?_|exact SubL.headA _ _|refine SubL.keepA ?_ _|refine SubL.skip ?_|refine SubL.skipA ?_ _)) rfl) ?_
 intro i hi
 by_cases hlt:i<2
 ·have t1:decide ((i:Int)<2)=true:=decide_eq_true (by omega)
  have hi1:IntKind.i64.wrap ((i:Int)+1)=((i+1:Nat):Int):=wrap_i64 _ (by omega) (by omega)
  have hx:=sinkP_lt ha i
  have P:=p_f
  have Sc:=sub_nu (sinkP a i) PP hx (by omega)
  have e:sinkP a (i+1)=if PP≤sinkP a i then sinkP a i - PP else sinkP a i:=rfl
  by_cases h:PP≤sinkP a i
  ·rw [if_pos h] at e
   rw [if_neg (by omega),show (sinkP a i+T256 - PP) % T256=sinkP a i - PP by rw [show sinkP a i+T256 - PP=(sinkP a i - PP)+T256 by omega,Nat.add_mod_right,Nat.mod_eq_of_lt (by omega)],←e] at Sc
   clear e h hx hi ha hT hP
   repeat' (first|(refine wlB ?_)|(refine efZCnn ?_;intro n hn)|(refine efBnn ?_;intro n hn)|(refine efB ?_)|(refine wl_skip rfl rfl ?_)|(refine wdV ?_)|(refine wdB ?_)|((with_reducible refine seld_call ?_);refine wd_rd hm0 rfl rfl rfl rfl (rd_call rfl rfl rfl (fun w hm=>by with_reducible first|exact P w|exact Sc w)) ?_)|(refine wdE ?_)|(refine wd_allocC hm0 rfl rfl rfl ?_;intro n hn hn0)|(refine wd_alloc hm0 rfl rfl rfl ?_;intro n hn hn0)|(refine wdT ?_)|(refine wd_skip rfl rfl ?_)|((with_reducible refine seld_nil ?_);refine wd_nil hm0 ?_;clear hm0 hw0)|((with_reducible refine wc_seq ?_);intro K hK)|(refine auC ?_)|(refine wc_cond rfl (fun hc=>?_) (fun hc=>?_))|(refine wc_draw (by kernel_rfl) (by kernel_rfl) (by decide +kernel) ?_;intro w0 hw0 hm0;(try simp only [List.append_eq,List.cons_append,List.nil_append]))|(refine auP ?_)|((refine auR ?_);clear hK K)|(refine auR ?_)|((with_reducible refine hK _ _ ?_);clear hK K)|fail)
   exact ⟨i+1,hlt,by omega,Fits.of ⟨rfl,rfl,rfl,trivial⟩ (by
    repeat (first|exact SubL.nil|exact SubL.refl _|refine SubL.keep ?_|exact SubL.headA _ _|refine SubL.keepA ?_ _|refine SubL.skip ?_|refine SubL.skipA ?_ _)) rfl⟩
  ·rw [if_neg h] at e
   rw [if_pos (by omega)] at Sc
   generalize (sinkP a i+T256 - PP) % T256=z at Sc
   clear h hx hi ha hT hP
   repeat' (first|(refine wlB ?_)|(refine efZCnn ?_;intro n hn)|(refine efBnn ?_;intro n hn)|(refine efB ?_)|(refine wl_skip rfl rfl ?_)|(refine wdV ?_)|(refine wdB ?_)|((with_reducible refine seld_call ?_);refine wd_rd hm0 rfl rfl rfl rfl (rd_call rfl rfl rfl (fun w hm=>by with_reducible first|exact P w|exact Sc w)) ?_)|(refine wdE ?_)|(refine wd_allocC hm0 rfl rfl rfl ?_;intro n hn hn0)|(refine wd_alloc hm0 rfl rfl rfl ?_;intro n hn hn0)|(refine wdT ?_)|(refine wd_skip rfl rfl ?_)|((with_reducible refine seld_nil ?_);refine wd_nil hm0 ?_;clear hm0 hw0)|((with_reducible refine wc_seq ?_);intro K hK)|(refine auC ?_)|(refine wc_cond rfl (fun hc=>?_) (fun hc=>?_))|(refine wc_draw (by kernel_rfl) (by kernel_rfl) (by decide +kernel) ?_;intro w0 hw0 hm0;(try simp only [List.append_eq,List.cons_append,List.nil_append]))|(refine auP ?_)|((refine auR ?_);clear hK K)|(refine auR ?_)|((with_reducible refine hK _ _ ?_);clear hK K)|fail)
   exact ⟨i+1,hlt,by omega,Fits.of ⟨rfl,rfl,rfl,trivial⟩ (by
    rw [e]
    repeat (first|exact SubL.nil|exact SubL.refl _|refine SubL.keep ?_|exact SubL.headA _ _|refine SubL.keepA ?_ _|refine SubL.skip ?_|refine SubL.skipA ?_ _)) rfl⟩
 ·obtain rfl:i=2:=by omega
  have t1:decide (((2:Nat):Int)<2)=false:=rfl
  clear hi hlt ha hT hP
  repeat' (first|(refine wlB ?_)|(refine efBnn ?_;intro n hn)|(refine efB ?_)|(refine wl_skip rfl rfl ?_)|(refine wdV ?_)|(refine wdB ?_)|(refine wdE ?_)|(refine wd_alloc hm0 rfl rfl rfl ?_;intro n hn hn0)|(refine wdT ?_)|(refine wd_skip rfl rfl ?_)|((with_reducible refine seld_nil ?_);refine wd_nil hm0 ?_;clear hm0 hw0)|((with_reducible refine wc_seq ?_);intro K hK)|(refine auC ?_)|(refine wc_cond rfl (fun hc=>?_) (fun hc=>?_))|(refine wc_draw (by kernel_rfl) (by kernel_rfl) (by decide +kernel) ?_;intro w0 hw0 hm0;(try simp only [List.append_eq,List.cons_append,List.nil_append]))|(refine auP ?_)|((refine auR ?_);clear hK K)|(refine auR ?_)|((with_reducible refine hK _ _ ?_);clear hK K)|fail)
  first|refine end_ret (ResP.cell rfl ld_whole ResP.nil) ?_|refine end_normal (ResP.cell rfl ld_whole ResP.nil) ?_
  first|rfl|(show _=_;rfl)|(simp only [tupV, *];done)
set_option maxHeartbeats 4000000 in
theorem add_f (a b:Nat)(ha:a<T256)(hb:b<T256)(w:World):Calls Tryz.prog 41 [nu a,nu b].toArray w (Ret (nu ((a+b) % PP)) w):=by
 have hT:=PP_T
 have hP:=PP_pos
 have h1:a % PP<PP:=Nat.mod_lt _ (by omega)
 have h2:b % PP<PP:=Nat.mod_lt _ (by omega)
 have L1:=low_f a ha
 have L2:=low_f b hb
 have A:=add_nu (a % PP) (b % PP) (by omega) (by omega)
 rw [Nat.mod_eq_of_lt (show a % PP+b % PP<T256 by omega)] at A
 have L3:=low_f (a % PP+b % PP) (by omega)
 rw [←Nat.add_mod] at L3
 clear hT hP h1 h2 ha hb
 refine fn_ret (N:=_) Tryz.func41 rfl Tryz.ntmps41 Tryz.results41 (by simp) ?_
 simp only [initS,Nat.reduceAdd,Nat.zero_add]
 repeat' (first|(refine wlB ?_)|((with_reducible refine sel_call ?_);refine wl_rd rfl rfl (rd_call rfl rfl rfl (fun w hm=>by with_reducible first|exact L1 w|exact L2 w|exact A w|exact L3 w)) ?_)|(refine wlE ?_)|(refine efZCnn ?_;intro n hn)|(refine efBnn ?_;intro n hn)|(refine efB ?_)|(refine wl_skip rfl rfl ?_)|(refine wdV ?_)|(refine wdB ?_)|((with_reducible refine seld_call ?_);refine wd_rd hm0 rfl rfl rfl rfl (rd_call rfl rfl rfl (fun w hm=>by with_reducible first|exact L1 w|exact L2 w|exact A w|exact L3 w)) ?_)|(refine wdE ?_)|(refine wd_allocC hm0 rfl rfl rfl ?_;intro n hn hn0)|(refine wd_alloc hm0 rfl rfl rfl ?_;intro n hn hn0)|(refine wdT ?_)|(refine wd_skip rfl rfl ?_)|((with_reducible refine seld_nil ?_);refine wd_nil hm0 ?_;clear hm0 hw0)|((with_reducible refine wc_seq ?_);intro K hK)|(refine auC ?_)|(refine wc_cond rfl (fun hc=>?_) (fun hc=>?_))|(refine wc_draw (by kernel_rfl) (by kernel_rfl) (by decide +kernel) ?_;intro w0 hw0 hm0;(try simp only [List.append_eq,List.cons_append,List.nil_append]))|(refine auP ?_)|((refine auR ?_);clear hK K)|(refine auR ?_)|((with_reducible refine hK _ _ ?_);clear hK K)|fail)
 first|refine end_ret (ResP.cell rfl ld_whole ResP.nil) ?_|refine end_normal (ResP.cell rfl ld_whole ResP.nil) ?_
 first|rfl|(show _=_;rfl)|(simp only [tupV, *];done)
set_option maxHeartbeats 4000000 in
theorem sub_f (a b:Nat)(ha:a<T256)(hb:b<T256)(w:World):Calls Tryz.prog 39 [nu a,nu b].toArray w (Ret (nu ((a % PP+PP - b % PP) % PP)) w):=by
 have hT:=PP_T
 have hP:=PP_pos
 have h1:a % PP<PP:=Nat.mod_lt _ (by omega)
 have h2:b % PP<PP:=Nat.mod_lt _ (by omega)
 have L1:=low_f a ha
 have L2:=low_f b hb
 have P:=p_f
 have Sc:=sub_nu (a % PP) (b % PP) (by omega) (by omega)
 by_cases h:a % PP<b % PP
 ·rw [if_pos h,Nat.mod_eq_of_lt (show a % PP+T256 - b % PP<T256 by omega)] at Sc
  have A:=add_nu (a % PP+T256 - b % PP) PP (by omega) (by omega)
  rw [show (a % PP+T256 - b % PP+PP) % T256=a % PP+PP - b % PP by rw [show a % PP+T256 - b % PP+PP=(a % PP+PP - b % PP)+T256 by omega,Nat.add_mod_right,Nat.mod_eq_of_lt (by omega)]] at A
  rw [Nat.mod_eq_of_lt (show a % PP+PP - b % PP<PP by omega)]
  clear hT hP h1 h2 ha hb h
  refine fn_ret (N:=_) Tryz.func39 rfl Tryz.ntmps39 Tryz.results39 (by simp) ?_
  simp only [initS,Nat.reduceAdd,Nat.zero_add]
  repeat' (first|(refine wlB ?_)|(refine efZCnn ?_;intro n hn)|(refine efBnn ?_;intro n hn)|(refine efB ?_)|(refine wl_skip rfl rfl ?_)|(refine wdV ?_)|(refine wdB ?_)|((with_reducible refine seld_call ?_);refine wd_rd hm0 rfl rfl rfl rfl (rd_call rfl rfl rfl (fun w hm=>by with_reducible first|exact L1 w|exact L2 w|exact P w|exact Sc w|exact A w)) ?_)|(refine wdE ?_)|(refine wd_allocC hm0 rfl rfl rfl ?_;intro n hn hn0)|(refine wd_alloc hm0 rfl rfl rfl ?_;intro n hn hn0)|(refine wdT ?_)|(refine wd_skip rfl rfl ?_)|((with_reducible refine seld_nil ?_);refine wd_nil hm0 ?_;clear hm0 hw0)|((with_reducible refine wc_seq ?_);intro K hK)|(refine auC ?_)|(refine wc_cond rfl (fun hc=>?_) (fun hc=>?_))|(refine wc_draw (by kernel_rfl) (by kernel_rfl) (by decide +kernel) ?_;intro w0 hw0 hm0;(try simp only [List.append_eq,List.cons_append,List.nil_append]))|(refine auP ?_)|((refine auR ?_);clear hK K)|(refine auR ?_)|((with_reducible refine hK _ _ ?_);clear hK K)|fail)
  first|refine end_ret (ResP.cell rfl ld_whole ResP.nil) ?_|refine end_normal (ResP.cell rfl ld_whole ResP.nil) ?_
  first|rfl|(show _=_;rfl)|(simp only [tupV, *];done)
 ·have e:(a % PP+T256 - b % PP) % T256=(a % PP+PP - b % PP) % PP:=by
   rw [show a % PP+T256 - b % PP=(a % PP - b % PP)+T256 by omega,Nat.add_mod_right,Nat.mod_eq_of_lt (show a % PP - b % PP<T256 by omega),show a % PP+PP - b % PP=(a % PP - b % PP)+PP by omega,Nat.add_mod_right,Nat.mod_eq_of_lt (show a % PP - b % PP<PP by omega)]
  rw [if_neg h,e] at Sc
  clear hT hP h1 h2 ha hb h e
  refine fn_ret (N:=_) Tryz.func39 rfl Tryz.ntmps39 Tryz.results39 (by simp) ?_
  simp only [initS,Nat.reduceAdd,Nat.zero_add]
  repeat' (first|(refine wlB ?_)|(refine efZCnn ?_;intro n hn)|(refine efBnn ?_;intro n hn)|(refine efB ?_)|(refine wl_skip rfl rfl ?_)|(refine wdV ?_)|(refine wdB ?_)|((with_reducible refine seld_call ?_);refine wd_rd hm0 rfl rfl rfl rfl (rd_call rfl rfl rfl (fun w hm=>by with_reducible first|exact L1 w|exact L2 w|exact P w|exact Sc w)) ?_)|(refine wdE ?_)|(refine wd_allocC hm0 rfl rfl rfl ?_;intro n hn hn0)|(refine wd_alloc hm0 rfl rfl rfl ?_;intro n hn hn0)|(refine wdT ?_)|(refine wd_skip rfl rfl ?_)|((with_reducible refine seld_nil ?_);refine wd_nil hm0 ?_;clear hm0 hw0)|((with_reducible refine wc_seq ?_);intro K hK)|(refine auC ?_)|(refine wc_cond rfl (fun hc=>?_) (fun hc=>?_))|(refine wc_draw (by kernel_rfl) (by kernel_rfl) (by decide +kernel) ?_;intro w0 hw0 hm0;(try simp only [List.append_eq,List.cons_append,List.nil_append]))|(refine auP ?_)|((refine auR ?_);clear hK K)|(refine auR ?_)|((with_reducible refine hK _ _ ?_);clear hK K)|fail)
  first|refine end_ret (ResP.cell rfl ld_whole ResP.nil) ?_|refine end_normal (ResP.cell rfl ld_whole ResP.nil) ?_
  first|rfl|(show _=_;rfl)|(simp only [tupV, *];done)
end Go.Proofs.YtkendlnjaopbeaaGreatDoor
namespace Go.Proofs.YtkendlnjaopbeaaGreatDoor
open Go.RowKit
set_option linter.unusedVariables false
set_option linter.unusedSimpArgs false
set_option maxRecDepth 8000
theorem mul64_38 (A:Nat)(hA:A<18446744073709551616):∃ hi lo:Nat,A * 38=lo+18446744073709551616 * hi∧lo<18446744073709551616∧hi<38∧
  ∀ w,Calls Tryz.prog 59 #[.int .u64 A,.int .u64 38] w (Ret (.tuple #[.int .u64 hi,.int .u64 lo]) w):=
 ⟨A * 38 / 18446744073709551616,A * 38 % 18446744073709551616,by omega,by omega,by omega,fun w=>(mul64 A 38 hA (by omega) w).mono fun e w' ⟨h1,h2⟩=>by
  subst h2;exact ⟨h1,Below.refl _ _⟩⟩
theorem add64_nat (x y:Nat)(hx:x<18446744073709551616)(hy:y<18446744073709551616):∃ lo c:Nat,x+y=lo+18446744073709551616 * c∧lo<18446744073709551616∧c≤1∧
  ∀ w:World,(callFunc 60 #[.int .u64 (x:Int),.int .u64 (y:Int),.int .u64 0]).run Tryz.prog w=.ok (.value (.tuple #[.int .u64 (lo:Int),.int .u64 (c:Int)])) w:=
 ⟨(x+y) % 18446744073709551616,(x+y) / 18446744073709551616,by omega,by omega,by omega,fun w=>by
  have h:=run_add (x:Int) (y:Int) 0 ⟨by omega,by omega⟩ ⟨by omega,by omega⟩ (by omega) (by omega) w
  rw [h]
  unfold sumLo sumHi
  congr 5⟩
set_option maxHeartbeats 4000000 in
theorem mul_f (a b:Nat)(ha:a<T256)(hb:b<T256)(w:World):Calls Tryz.prog 37 [nu a,nu b].toArray w (Ret (nu (a * b % PP)) w):=by
 have Mc:=mul_nu a b ha hb
 have hW:a * b<T512:=Nat.mul_lt_mul'' ha hb
 obtain ⟨W,eW⟩:∃ W,W=a * b:=⟨_,rfl⟩
 rw [←eW] at Mc hW ⊢
 have z:=fm_zero W
 refine fn_ret (N:=_) Tryz.func37 rfl Tryz.ntmps37 Tryz.results37 (by simp) ?_
 simp only [initS,Nat.reduceAdd,Nat.zero_add]
 repeat' (first|(refine wlB ?_)|((with_reducible refine sel_call ?_);refine wl_rd rfl rfl (rd_call rfl rfl rfl (fun w hm=>by with_reducible exact Mc w)) ?_)|(refine wlE ?_)|(refine efZCnn ?_;intro n hn)|(refine efBnn ?_;intro n hn)|(refine efB ?_)|(refine wl_skip rfl rfl ?_)|((with_reducible refine wc_seq ?_);intro K hK)|(refine auC ?_)|(refine wc_cond rfl (fun hc=>?_) (fun hc=>?_))|(refine wc_draw (by kernel_rfl) (by kernel_rfl) (by decide +kernel) ?_;intro w0 hw0 hm0;(try simp only [List.append_eq,List.cons_append,List.nil_append]))|(refine auP ?_)|((refine auR ?_);clear hK K)|(refine auR ?_)|((with_reducible refine hK _ _ ?_);clear hK K)|fail)
 rename_i n2 g2 n3 g3 n4 g4 n5 g5
 obtain ⟨n6,rfl⟩:∃ n6,n6=n:=⟨n,rfl⟩
 refine wc_loop (σ:=Nat) (fun i=>[(2,ptr n2),(3,ptr n3),(4,ptr n4),(5,ptr n5),(6,ptr n6),(7,.int .u64 (fmC W i:Nat)),(16,.int .i64 (i:Int))])
  (fun i=>[(n6,numC (fmO W i),46),(n5,wideC W,130),(n4,numC 0,46),(n3,numC b,46),(n2,numC a,46)])
  (fun i=>i≤4) (fun i=>4 - i) 0 (Nat.zero_le _) (Fits.of (by rw [z.2];exact ⟨rfl,rfl,rfl,rfl,rfl,rfl,rfl,trivial⟩) (by
   rw [z.1]
   repeat (first|exact SubL.nil|exact SubL.refl _|refine SubL.keep ?_|exact SubL.headA _ _|refine SubL.keepA ?_ _|refine SubL.skip ?_|refine SubL.skipA ?_ _)) rfl) ?_
 clear z Mc
 intro i hi
 by_cases hlt:i<4
 ·have t1:decide ((i:Int)<4)=true:=decide_eq_true (by omega)
  have h4:IntKind.i64.wrap ((i:Int)+4)=((i+4:Nat):Int):=wrap_i64 _ (by omega) (by omega)
  have h1:IntKind.i64.wrap ((i:Int)+1)=((i+1:Nat):Int):=wrap_i64 _ (by omega) (by omega)
  have p4:0+((i+4:Nat):Int).toNat * 1=i+4:=by omega
  have p0:0+(i:Int).toNat * 1=i:=by omega
  have l4:=wideC_get W (i+4) (by omega)
  have l0:=wideC_get W i (by omega)
  rw [limb_lw] at l4 l0
  obtain ⟨A,hA⟩:∃ A,A=lw W (i+4):=⟨_,rfl⟩
  obtain ⟨B,hB⟩:∃ B,B=lw W i:=⟨_,rfl⟩
  have bA:A<18446744073709551616:=by rw [hA];exact lw_lt _ _
  have bB:B<18446744073709551616:=by rw [hB];exact lw_lt _ _
  rw [←hA] at l4
  rw [←hB] at l0
  have hC:=fmC_lt W i
  obtain ⟨hi',lo,q1,q2,q3,X1⟩:=mul64_38 A bA
  obtain ⟨lo1,c1,q4,q5,q6,X2⟩:=add64_nat lo B q2 bB
  obtain ⟨lo2,c2,q7,q8,q9,X3⟩:=add64_nat lo1 (fmC W i) q5 (by omega)
  have s1:IntKind.u64.wrap ((hi':Int)+(c1:Int))=((hi'+c1:Nat):Int):=by rw [wrap_u64 _ (by omega) (by omega)];omega
  have s2:IntKind.u64.wrap (((hi'+c1:Nat):Int)+(c2:Int))=((hi'+c1+c2:Nat):Int):=by rw [wrap_u64 _ (by omega) (by omega)];omega
  obtain ⟨e1,e2⟩:=fm_step (c:=hi'+c1+c2) hA hB (by omega) q8
  obtain ⟨f1,f2⟩:=limb_top (fmO W i) i lo2 (fmO_lt W i) q8
  rw [←e2] at f1 f2
  have hput:=numC_put (fmO W i) (fmO W (i+1)) i _ hlt f1 (fun k _ h=>f2 k h)
  clear q1 q2 q3 q4 q5 q6 q7 q8 q9 hC bA bB hA hB e2 f1 f2 ha hb hW eW hi
  repeat' (first|(refine wlB ?_)|((with_reducible refine sel_call ?_);refine wl_rd rfl rfl (rd_call rfl rfl rfl (fun w hm=>by with_reducible exact X1 w)) ?_)|((with_reducible refine sel_call ?_);refine wv rfl rfl (rd_ext rfl rfl rfl (by with_reducible exact X2)) ?_)|((with_reducible refine sel_call ?_);refine wv rfl rfl (rd_ext rfl rfl rfl (by with_reducible exact X3)) ?_)|(refine wlE ?_)|(refine efZCnn ?_;intro n hn)|(refine efBnn ?_;intro n hn)|(refine efB ?_)|(refine wl_skip rfl rfl ?_)|((with_reducible refine wc_seq ?_);intro K hK)|(refine auC ?_)|(refine wc_cond rfl (fun hc=>?_) (fun hc=>?_))|(refine wc_draw (by kernel_rfl) (by kernel_rfl) (by decide +kernel) ?_;intro w0 hw0 hm0;(try simp only [List.append_eq,List.cons_append,List.nil_append]))|(refine auP ?_)|((refine auR ?_);clear hK K)|(refine auR ?_)|((with_reducible refine hK _ _ ?_);clear hK K)|fail)
  exact ⟨i+1,hlt,by omega,Fits.of (by rw [e1];exact ⟨rfl,rfl,rfl,rfl,rfl,rfl,rfl,trivial⟩) (by
   repeat (first|exact SubL.nil|exact SubL.refl _|refine SubL.keep ?_|exact SubL.headA _ _|refine SubL.keepA ?_ _|refine SubL.skip ?_|refine SubL.skipA ?_ _)) rfl⟩
 ·obtain rfl:i=4:=by omega
  have t1:decide (((4:Nat):Int)<4)=false:=rfl
  obtain ⟨k1,k2⟩:=fm_end W hW
  have hT:=PP_T
  have hP:=PP_pos
  have hC:=fmC_lt W 4
  have hO:fmO W 4<T256:=by have:=fmO_lt W 4;rwa [show 2 ^ (64 * 4)=T256 from T256_eq.symm] at this
  generalize fmO W 4=O at *
  generalize fmC W 4=C at *
  have kf:=fm_fold hT k2
  rw [k1] at kf
  have m1:IntKind.u64.wrap ((C:Int) * 38)=((C * 38:Nat):Int):=by rw [wrap_u64 _ (by omega) (by omega)];omega
  have v1:=nu_lit (C * 38) (by omega)
  have hB:5000<T256:=by decide +kernel
  have A1:=add_nu O (C * 38) hO (by omega)
  by_cases ho:O+C * 38<T256
  ·rw [Nat.mod_eq_of_lt ho,Nat.div_eq_of_lt ho] at A1
   have L:=low_f (O+C * 38) ho
   rw [Nat.mul_comm C 38,kf,Nat.mul_comm 38 C] at L
   have t2:((((0:Nat)):Int) == 1)=false:=rfl
   clear k1 k2 kf hT hP hC hO ho hB ha hb hW eW hi hlt
   repeat' (first|(refine wlB ?_)|((with_reducible refine sel_build ?_);refine wv rfl rfl (rd_cast (rd_buildA rfl rfl) v1) ?_)|((with_reducible refine sel_call ?_);refine wl_rd rfl rfl (rd_call rfl rfl rfl (fun w hm=>by with_reducible first|exact A1 w|exact L w)) ?_)|(refine wlE ?_)|(refine efZCnn ?_;intro n hn)|(refine efBnn ?_;intro n hn)|(refine efB ?_)|(refine wl_skip rfl rfl ?_)|((with_reducible refine wc_seq ?_);intro K hK)|(refine auC ?_)|(refine wc_cond rfl (fun hc=>?_) (fun hc=>?_))|(refine wc_draw (by kernel_rfl) (by kernel_rfl) (by decide +kernel) ?_;intro w0 hw0 hm0;(try simp only [List.append_eq,List.cons_append,List.nil_append]))|(refine auP ?_)|((refine auR ?_);clear hK K)|(refine auR ?_)|((with_reducible refine hK _ _ ?_);clear hK K)|fail)
   first|refine end_ret (ResP.cell rfl ld_whole ResP.nil) ?_|refine end_normal (ResP.cell rfl ld_whole ResP.nil) ?_
   first|rfl|(show _=_;rfl)|(simp only [tupV, *];done)
  ·have e1:(O+C * 38) % T256=O+C * 38 - T256:=by rw [Nat.mod_eq_sub_mod (by omega),Nat.mod_eq_of_lt (by omega)]
   have e2:(O+C * 38) / T256=1:=by
    rw [Nat.div_eq_sub_div (by omega) (by omega),Nat.div_eq_of_lt (by omega)]
   rw [e1,e2] at A1
   have A2:=add_nu (O+C * 38 - T256) 38 (by omega) (by omega)
   rw [Nat.mod_eq_of_lt (show O+C * 38 - T256+38<T256 by omega)] at A2
   have L:=low_f (O+C * 38 - T256+38) (by omega)
   have e3:(O+C * 38 - T256+38) % PP=W % PP:=by
    rw [←kf,show O+38 * C=(O+C * 38 - T256+38)+PP * 2 by omega,Nat.add_mul_mod_self_left]
   rw [e3] at L
   have t2:((((1:Nat)):Int) == 1)=true:=rfl
   generalize O+C * 38 - T256+38=y at *
   generalize O+C * 38 - T256=x at *
   generalize (x+38) / T256=z at *
   clear k1 k2 kf hT hP hC hO ho hB ha hb hW eW hi hlt e1 e2 e3
   repeat' (first|(refine wlB ?_)|((with_reducible refine sel_build ?_);refine wv rfl rfl (rd_cast (rd_buildA rfl rfl) v1) ?_)|(refine wlNL ?_)|((with_reducible refine sel_call ?_);refine wl_rd rfl rfl (rd_call rfl rfl rfl (fun w hm=>by with_reducible first|exact A1 w|exact A2 w|exact L w)) ?_)|(refine wlE ?_)|(refine efZCnn ?_;intro n hn)|(refine efBnn ?_;intro n hn)|(refine efB ?_)|(refine wl_skip rfl rfl ?_)|((with_reducible refine wc_seq ?_);intro K hK)|(refine auC ?_)|(refine wc_cond rfl (fun hc=>?_) (fun hc=>?_))|(refine wc_draw (by kernel_rfl) (by kernel_rfl) (by decide +kernel) ?_;intro w0 hw0 hm0;(try simp only [List.append_eq,List.cons_append,List.nil_append]))|(refine auP ?_)|((refine auR ?_);clear hK K)|(refine auR ?_)|((with_reducible refine hK _ _ ?_);clear hK K)|fail)
   first|refine end_ret (ResP.cell rfl ld_whole ResP.nil) ?_|refine end_normal (ResP.cell rfl ld_whole ResP.nil) ?_
   first|rfl|(show _=_;rfl)|(simp only [tupV, *];done)
end Go.Proofs.YtkendlnjaopbeaaGreatDoor
namespace Go.Proofs.YtkendlnjaopbeaaGreatDoor
open Go.RowKit
set_option linter.unusedVariables false
theorem addG (a b:Nat)(ha:a<T256)(hb:b<T256)(w:World):Calls Tryz.prog 41 [nu a,nu b].toArray w (Ret (nu (fadd a b)) w):=by rw [fadd_def];exact add_f a b ha hb w
theorem subG (a b:Nat)(ha:a<T256)(hb:b<T256)(w:World):Calls Tryz.prog 39 [nu a,nu b].toArray w (Ret (nu (fsub a b)) w):=by rw [fsub_def];exact sub_f a b ha hb w
theorem mulG (a b:Nat)(ha:a<T256)(hb:b<T256)(w:World):Calls Tryz.prog 37 [nu a,nu b].toArray w (Ret (nu (fmul a b)) w):=by rw [fmul_def];exact mul_f a b ha hb w
theorem lowG (a:Nat)(ha:a<T256)(w:World):Calls Tryz.prog 43 [nu a].toArray w (Ret (nu (flow a)) w):=by rw [flow_def];exact low_f a ha w
end Go.Proofs.YtkendlnjaopbeaaGreatDoor
namespace Go.Proofs.YtkendlnjaopbeaaGreatDoor
open Go.RowKit
set_option maxRecDepth 100000
set_option linter.unusedVariables false
set_option linter.unusedSimpArgs false
set_option maxRecDepth 8000
set_option maxHeartbeats 4000000 in
theorem powG (a q:Nat)(ha:a<T256)(hq:q<T256)(w:World):Calls Tryz.prog 64 [nu a,nu q].toArray w (Ret (nu (fpow a q)) w):=by
 have hlen:=len_nu q hq
 have h256:blen q≤256:=blen_le.2 (by rw [←T256_eq];exact hq)
 have htop:=fpow_top a q
 obtain ⟨k0,hk0⟩:∃ k0,k0=blen q:=⟨_,rfl⟩
 rw [←hk0] at hlen h256 htop
 clear hk0
 have s0:IntKind.i64.wrap ((k0:Int) - 1)=(k0:Int) - 1:=wrap_i64 _ (by omega) (by omega)
 refine fn_ret (N:=_) Tryz.func64 rfl Tryz.ntmps64 Tryz.results64 (by simp) ?_
 simp only [initS,Nat.reduceAdd,Nat.zero_add]
 repeat' (first|(refine wlB ?_)|(refine wlNL ?_)|((with_reducible refine sel_call ?_);refine wl_rd rfl rfl (rd_call rfl rfl rfl (fun w hm=>by with_reducible exact hlen w)) ?_)|(refine wlE ?_)|(refine efZCnn ?_;intro n hn)|(refine efBnn ?_;intro n hn)|(refine efB ?_)|(refine wl_skip rfl rfl ?_)|((with_reducible refine wc_seq ?_);intro K hK)|(refine auC ?_)|(refine wc_cond rfl (fun hc=>?_) (fun hc=>?_))|(refine wc_draw (by kernel_rfl) (by kernel_rfl) (by decide +kernel) ?_;intro w0 hw0 hm0;(try simp only [List.append_eq,List.cons_append,List.nil_append]))|(refine auP ?_)|((refine auR ?_);clear hK K)|(refine auR ?_)|((with_reducible refine hK _ _ ?_);clear hK K)|fail)
 rename_i n2 g2 n3 g3 n4 g4
 obtain ⟨n5,rfl⟩:∃ n5,n5=n:=⟨_,rfl⟩
 refine wc_loop (σ:=Nat) (fun k=>[(2,ptr n2),(3,ptr n3),(4,ptr n4),(5,ptr n5),(6,.int .i64 ((k:Int) - 1))])
  (fun k=>[(n5,numC (fpow a (q / 2 ^ k)),46),(n4,numC 0,46),(n3,numC q,46),(n2,numC a,46)])
  (fun k=>k≤256) id k0 h256 (Fits.of ⟨rfl,rfl,rfl,rfl,rfl,trivial⟩ (by
   rw [htop]
   repeat (first|exact SubL.nil|exact SubL.refl _|refine SubL.keep ?_|exact SubL.headA _ _|refine SubL.keepA ?_ _|refine SubL.skip ?_|refine SubL.skipA ?_ _)) rfl) ?_
 clear hlen htop s0 h256
 intro k hk
 rcases k with _|j
 ·have ht:decide ((((0:Nat):Int) - 1)≥0)=false:=rfl
  rw [Nat.pow_zero,Nat.div_one]
  clear ha hq
  repeat' (first|(refine wlB ?_)|(refine wlE ?_)|(refine efBnn ?_;intro n hn)|(refine efB ?_)|(refine wl_skip rfl rfl ?_)|((with_reducible refine wc_seq ?_);intro K hK)|(refine auC ?_)|(refine wc_cond rfl (fun hc=>?_) (fun hc=>?_))|(refine wc_draw (by kernel_rfl) (by kernel_rfl) (by decide +kernel) ?_;intro w0 hw0 hm0;(try simp only [List.append_eq,List.cons_append,List.nil_append]))|(refine auP ?_)|((refine auR ?_);clear hK K)|(refine auR ?_)|((with_reducible refine hK _ _ ?_);clear hK K)|fail)
  first|refine end_ret (ResP.cell rfl ld_whole ResP.nil) ?_|refine end_normal (ResP.cell rfl ld_whole ResP.nil) ?_
  first|rfl|(show _=_;rfl)|(simp only [tupV, *];done)
 ·have ej:(((j+1:Nat):Int) - 1)=(j:Int):=by omega
  simp only [ej]
  have ht:decide ((j:Int)≥0)=true:=decide_eq_true (by omega)
  have s1:IntKind.i64.wrap ((j:Int) - 1)=(j:Int) - 1:=wrap_i64 _ (by omega) (by omega)
  have hb:=bit_nu q j hq (by omega)
  have hs:=fpow_bit a q j
  have hX:=fpow_lt a (q / 2 ^ (j+1))
  generalize fpow a (q / 2 ^ (j+1))=X at *
  obtain ⟨Y,hY⟩:∃ Y,Y=fpow a (q / 2 ^ j):=⟨_,rfl⟩
  obtain ⟨b,hb2⟩:∃ b,b=q / 2 ^ j % 2:=⟨_,rfl⟩
  rw [←hb2] at hb hs
  rw [←hY] at hs
  have M1:=mulG X X hX hX
  have M2:=mulG (fmul X X) a (fmul_lt _ _) ha
  by_cases h1:b=1
  ·subst h1
   rw [if_pos rfl] at hs
   have t1:((((1:Nat)):Int) == 1)=true:=rfl
   clear hb2 ha hq hX
   repeat' (first|(refine wlB ?_)|((with_reducible refine sel_call ?_);refine wl_rd rfl rfl (rd_call rfl rfl rfl (fun w hm=>by with_reducible first|exact hb w|exact M1 w|exact M2 w)) ?_)|(refine wlE ?_)|(refine efZCnn ?_;intro n hn)|(refine efBnn ?_;intro n hn)|(refine efB ?_)|(refine wl_skip rfl rfl ?_)|((with_reducible refine wc_seq ?_);intro K hK)|(refine auC ?_)|(refine wc_cond rfl (fun hc=>?_) (fun hc=>?_))|(refine wc_draw (by kernel_rfl) (by kernel_rfl) (by decide +kernel) ?_;intro w0 hw0 hm0;(try simp only [List.append_eq,List.cons_append,List.nil_append]))|(refine auP ?_)|((refine auR ?_);clear hK K)|(refine auR ?_)|((with_reducible refine hK _ _ ?_);clear hK K)|fail)
   exact ⟨j,by omega,Nat.lt_succ_self j,Fits.of ⟨rfl,rfl,rfl,rfl,rfl,trivial⟩ (by
    rw [←hY,hs]
    repeat (first|exact SubL.nil|exact SubL.refl _|refine SubL.keep ?_|exact SubL.headA _ _|refine SubL.keepA ?_ _|refine SubL.skip ?_|refine SubL.skipA ?_ _)) rfl⟩
  ·obtain rfl:b=0:=by omega
   rw [if_neg h1] at hs
   have t1:((((0:Nat)):Int) == 1)=false:=rfl
   clear hb2 ha hq hX h1 M2
   repeat' (first|(refine wlB ?_)|((with_reducible refine sel_call ?_);refine wl_rd rfl rfl (rd_call rfl rfl rfl (fun w hm=>by with_reducible first|exact hb w|exact M1 w)) ?_)|(refine wlE ?_)|(refine efZCnn ?_;intro n hn)|(refine efBnn ?_;intro n hn)|(refine efB ?_)|(refine wl_skip rfl rfl ?_)|((with_reducible refine wc_seq ?_);intro K hK)|(refine auC ?_)|(refine wc_cond rfl (fun hc=>?_) (fun hc=>?_))|(refine wc_draw (by kernel_rfl) (by kernel_rfl) (by decide +kernel) ?_;intro w0 hw0 hm0;(try simp only [List.append_eq,List.cons_append,List.nil_append]))|(refine auP ?_)|((refine auR ?_);clear hK K)|(refine auR ?_)|((with_reducible refine hK _ _ ?_);clear hK K)|fail)
   exact ⟨j,by omega,Nat.lt_succ_self j,Fits.of ⟨rfl,rfl,rfl,rfl,rfl,trivial⟩ (by
    rw [←hY,hs]
    repeat (first|exact SubL.nil|exact SubL.refl _|refine SubL.keep ?_|exact SubL.headA _ _|refine SubL.keepA ?_ _|refine SubL.skip ?_|refine SubL.skipA ?_ _)) rfl⟩
set_option maxHeartbeats 1000000 in
theorem invG (a:Nat)(ha:a<T256)(w:World):Calls Tryz.prog 40 [nu a].toArray w (Ret (nu (finv a)) w):=by
 have P:=p_f
 have hP:=PP_pos
 have Sc:=sub_nu PP 2 PP_lt (by decide)
 have e:(PP+T256 - 2) % T256=PP - 2:=by
  have:=PP_lt
  rw [show PP+T256 - 2=(PP - 2)+T256 by omega,Nat.add_mod_right,Nat.mod_eq_of_lt (by omega)]
 rw [e,if_neg (by omega)] at Sc
 have W:=powG a (PP - 2) ha (by have:=PP_lt;omega)
 rw [show fpow a (PP - 2)=finv a from rfl] at W
 generalize PP - 2=z at *
 clear hP e ha
 refine fn_ret (N:=_) Tryz.func40 rfl Tryz.ntmps40 Tryz.results40 (by simp) ?_
 simp only [initS,Nat.reduceAdd,Nat.zero_add]
 repeat' (first|(refine wlB ?_)|(refine wlNL ?_)|((with_reducible refine sel_call ?_);refine wl_rd rfl rfl (rd_call rfl rfl rfl (fun w hm=>by with_reducible first|exact P w|exact Sc w|exact W w)) ?_)|(refine wlE ?_)|(refine efZCnn ?_;intro n hn)|(refine efBnn ?_;intro n hn)|(refine efB ?_)|(refine wl_skip rfl rfl ?_)|((with_reducible refine wc_seq ?_);intro K hK)|(refine auC ?_)|(refine wc_cond rfl (fun hc=>?_) (fun hc=>?_))|(refine wc_draw (by kernel_rfl) (by kernel_rfl) (by decide +kernel) ?_;intro w0 hw0 hm0;(try simp only [List.append_eq,List.cons_append,List.nil_append]))|(refine auP ?_)|((refine auR ?_);clear hK K)|(refine auR ?_)|((with_reducible refine hK _ _ ?_);clear hK K)|fail)
 first|refine end_ret (ResP.cell rfl ld_whole ResP.nil) ?_|refine end_normal (ResP.cell rfl ld_whole ResP.nil) ?_
 first|rfl|(show _=_;rfl)|(simp only [tupV, *];done)
theorem sqrt_n1:∃ z y,(∀ w,Calls Tryz.prog 62 [nu 1,.int .i64 252].toArray w (Ret (nu z) w))∧(∀ w,Calls Tryz.prog 63 [nu z,nu 2].toArray w (Ret (.tuple #[nu E1,.int .u64 y]) w)):=by
 have e2:(1 * 2 ^ 252 % T256+T256 - 2) % T256=E1:=by decide +kernel
 have D:=sub_nu (1 * 2 ^ 252 % T256) 2 (Nat.mod_lt _ (by decide)) (by decide)
 rw [e2] at D
 exact ⟨_,_,fun w=>shl_nu 1 252 (by decide) (by decide) w,D⟩
theorem sqrt_n2:∃ z y,(∀ w,Calls Tryz.prog 62 [nu 1,.int .i64 253].toArray w (Ret (nu z) w))∧(∀ w,Calls Tryz.prog 63 [nu z,nu 5].toArray w (Ret (.tuple #[nu E2,.int .u64 y]) w)):=by
 have e2:(1 * 2 ^ 253 % T256+T256 - 5) % T256=E2:=by decide +kernel
 have D:=sub_nu (1 * 2 ^ 253 % T256) 5 (Nat.mod_lt _ (by decide)) (by decide)
 rw [e2] at D
 exact ⟨_,_,fun w=>shl_nu 1 253 (by decide) (by decide) w,D⟩
theorem odd_word (n:Nat):bits .and .u64 (limb n 0) 1=((n % 2:Nat):Int):=by
 have h:=bits_and_u64_nat (n % 18446744073709551616) 1 (Nat.mod_lt _ (by decide)) (by omega)
 rw [Nat.and_one_is_mod] at h
 rw [limb0]
 refine h.trans ?_
 congr 1
 omega
set_option maxHeartbeats 8000000 in
theorem sqrtG (a:Nat)(ha:a<T256)(w:World):Calls Tryz.prog 38 [nu a].toArray w (Ret (.tuple #[nu (froot a),.bool (isSq a)]) w):=by
 obtain ⟨z1,y1,S1,D1⟩:=sqrt_n1
 obtain ⟨z2,y2,S2,D2⟩:=sqrt_n2
 have L:=lowG a ha
 have W1:=powG a E1 ha (by decide)
 have W2:=powG 2 E2 (by decide) (by decide)
 rw [show fpow a E1=rootA a from rfl] at W1
 have hA:rootA a<T256:=fpow_lt _ _
 have hlow:=flow_lt a
 have M1:=mulG (rootA a) (rootA a) hA hA
 have M2:=mulG (rootA a) (fpow 2 E2) hA (fpow_lt _ _)
 have hB:=rootB_lt a
 have MB:=mulG (rootB a) (rootB a) hB hB
 have SB:=subG 0 (rootB a) (by decide) hB
 have hand:=odd_word (rootB a)
 have g0:=numC_get (rootB a) 0 (by decide)
 have ho2:rootB a % 2<2:=by omega
 have dq:isSq a=decide (fmul (rootB a) (rootB a)=flow a):=rfl
 have df:froot a=if isSq a=true then rootC a else 0:=rfl
 have dc:rootC a=if rootB a % 2=1 then fsub 0 (rootB a) else rootB a:=rfl
 have db:rootB a=if fmul (rootA a) (rootA a)=flow a then rootA a else fmul (rootA a) (fpow 2 E2):=rfl
 generalize rootA a=rA at *
 generalize fpow 2 E2=r2 at *
 by_cases h1:fmul rA rA=flow a
 ·rw [if_pos h1] at db
  have e1:(decide (fmul rA rA=flow a))=true:=decide_eq_true h1
  rw [db] at hB MB SB hand g0 ho2 dq dc
  rw [e1] at dq
  rw [dq,if_pos rfl,dc] at df
  rw [dq,df]
  clear dq df dc db h1 D2 S2 W2 M2 MB ha
  generalize rA % 2=o at *
  by_cases h2:o=1
  ·subst h2
   rw [if_pos rfl]
   have t1:((((1:Nat)):Int) == 1)=true:=rfl
   clear ho2
   refine fn_ret (N:=_) Tryz.func38 rfl Tryz.ntmps38 Tryz.results38 (by simp) ?_
   simp only [initS,Nat.reduceAdd,Nat.zero_add]
   repeat' (first|(refine wlB ?_)|(refine wlNL ?_)|((with_reducible refine sel_call ?_);refine wl_rd rfl rfl (rd_call rfl rfl rfl (fun w hm=>by with_reducible first|exact S1 w|exact D1 w|exact W1 w|exact M1 w|exact L w|exact SB w)) ?_)|(refine wlEQ ?_)|(refine wlE ?_)|(refine efZCnn ?_;intro n hn)|(refine efBnn ?_;intro n hn)|(refine efB ?_)|(refine wl_skip rfl rfl ?_)|(refine wdV ?_)|(refine wdB ?_)|(refine wdNL ?_)|((with_reducible refine seld_call ?_);refine wd_rd hm0 rfl rfl rfl rfl (rd_call rfl rfl rfl (fun w hm=>by with_reducible first|exact S1 w|exact D1 w|exact W1 w|exact M1 w|exact L w|exact SB w)) ?_)|(refine wdEQ ?_)|(refine wdE ?_)|(refine wdT ?_)|(refine wd_skip rfl rfl ?_)|((with_reducible refine seld_nil ?_);refine wd_nil hm0 ?_;clear hm0 hw0)|((with_reducible refine wc_seq ?_);intro K hK)|(refine auC ?_)|(refine wc_cond rfl (fun hc=>?_) (fun hc=>?_))|(refine wc_draw (by kernel_rfl) (by kernel_rfl) (by decide +kernel) ?_;intro w0 hw0 hm0;(try simp only [List.append_eq,List.cons_append,List.nil_append]))|(refine auP ?_)|((refine auR ?_);clear hK K)|(refine auR ?_)|((with_reducible refine hK _ _ ?_);clear hK K)|fail)
   first|refine end_ret (ResP.cell rfl ld_whole (ResP.tmp rfl ResP.nil)) ?_|refine end_normal (ResP.cell rfl ld_whole (ResP.tmp rfl ResP.nil)) ?_
   first|rfl|(show _=_;rfl)|(simp only [tupV, *];done)
  ·rw [if_neg h2]
   obtain rfl:o=0:=by omega
   have t1:((((0:Nat)):Int) == 1)=false:=rfl
   clear ho2 SB h2
   refine fn_ret (N:=_) Tryz.func38 rfl Tryz.ntmps38 Tryz.results38 (by simp) ?_
   simp only [initS,Nat.reduceAdd,Nat.zero_add]
   repeat' (first|(refine wlB ?_)|(refine wlNL ?_)|((with_reducible refine sel_call ?_);refine wl_rd rfl rfl (rd_call rfl rfl rfl (fun w hm=>by with_reducible first|exact S1 w|exact D1 w|exact W1 w|exact M1 w|exact L w)) ?_)|(refine wlEQ ?_)|(refine wlE ?_)|(refine efZCnn ?_;intro n hn)|(refine efBnn ?_;intro n hn)|(refine efB ?_)|(refine wl_skip rfl rfl ?_)|(refine wdV ?_)|(refine wdB ?_)|(refine wdNL ?_)|((with_reducible refine seld_call ?_);refine wd_rd hm0 rfl rfl rfl rfl (rd_call rfl rfl rfl (fun w hm=>by with_reducible first|exact S1 w|exact D1 w|exact W1 w|exact M1 w|exact L w)) ?_)|(refine wdEQ ?_)|(refine wdE ?_)|(refine wdT ?_)|(refine wd_skip rfl rfl ?_)|((with_reducible refine seld_nil ?_);refine wd_nil hm0 ?_;clear hm0 hw0)|((with_reducible refine wc_seq ?_);intro K hK)|(refine auC ?_)|(refine wc_cond rfl (fun hc=>?_) (fun hc=>?_))|(refine wc_draw (by kernel_rfl) (by kernel_rfl) (by decide +kernel) ?_;intro w0 hw0 hm0;(try simp only [List.append_eq,List.cons_append,List.nil_append]))|(refine auP ?_)|((refine auR ?_);clear hK K)|(refine auR ?_)|((with_reducible refine hK _ _ ?_);clear hK K)|fail)
   first|refine end_ret (ResP.cell rfl ld_whole (ResP.tmp rfl ResP.nil)) ?_|refine end_normal (ResP.cell rfl ld_whole (ResP.tmp rfl ResP.nil)) ?_
   first|rfl|(show _=_;rfl)|(simp only [tupV, *];done)
 ·rw [if_neg h1] at db
  have e1:(decide (fmul rA rA=flow a))=false:=decide_eq_false h1
  rw [←db] at M2
  clear db h1
  generalize rootB a=rB at *
  by_cases h3:fmul rB rB=flow a
  ·have e3:(decide (fmul rB rB=flow a))=true:=decide_eq_true h3
   rw [e3] at dq
   rw [dq,if_pos rfl,dc] at df
   rw [dq,df]
   clear dq df dc h3 ha
   generalize rB % 2=o at *
   by_cases h2:o=1
   ·subst h2
    rw [if_pos rfl]
    have t1:((((1:Nat)):Int) == 1)=true:=rfl
    clear ho2
    refine fn_ret (N:=_) Tryz.func38 rfl Tryz.ntmps38 Tryz.results38 (by simp) ?_
    simp only [initS,Nat.reduceAdd,Nat.zero_add]
    repeat' (first|(refine wlB ?_)|(refine wlNL ?_)|((with_reducible refine sel_call ?_);refine wl_rd rfl rfl (rd_call rfl rfl rfl (fun w hm=>by with_reducible first|exact S1 w|exact D1 w|exact W1 w|exact M1 w|exact L w|exact S2 w|exact D2 w|exact W2 w|exact M2 w|exact MB w|exact SB w)) ?_)|(refine wlEQ ?_)|(refine wlE ?_)|(refine efZCnn ?_;intro n hn)|(refine efBnn ?_;intro n hn)|(refine efB ?_)|(refine wl_skip rfl rfl ?_)|(refine wdV ?_)|(refine wdB ?_)|(refine wdNL ?_)|((with_reducible refine seld_call ?_);refine wd_rd hm0 rfl rfl rfl rfl (rd_call rfl rfl rfl (fun w hm=>by with_reducible first|exact S1 w|exact D1 w|exact W1 w|exact M1 w|exact L w|exact S2 w|exact D2 w|exact W2 w|exact M2 w|exact MB w|exact SB w)) ?_)|(refine wdEQ ?_)|(refine wdE ?_)|(refine wdT ?_)|(refine wd_skip rfl rfl ?_)|((with_reducible refine seld_nil ?_);refine wd_nil hm0 ?_;clear hm0 hw0)|((with_reducible refine wc_seq ?_);intro K hK)|(refine auC ?_)|(refine wc_cond rfl (fun hc=>?_) (fun hc=>?_))|(refine wc_draw (by kernel_rfl) (by kernel_rfl) (by decide +kernel) ?_;intro w0 hw0 hm0;(try simp only [List.append_eq,List.cons_append,List.nil_append]))|(refine auP ?_)|((refine auR ?_);clear hK K)|(refine auR ?_)|((with_reducible refine hK _ _ ?_);clear hK K)|fail)
    first|refine end_ret (ResP.cell rfl ld_whole (ResP.tmp rfl ResP.nil)) ?_|refine end_normal (ResP.cell rfl ld_whole (ResP.tmp rfl ResP.nil)) ?_
    first|rfl|(show _=_;rfl)|(simp only [tupV, *];done)
   ·rw [if_neg h2]
    obtain rfl:o=0:=by omega
    have t1:((((0:Nat)):Int) == 1)=false:=rfl
    clear ho2 SB h2
    refine fn_ret (N:=_) Tryz.func38 rfl Tryz.ntmps38 Tryz.results38 (by simp) ?_
    simp only [initS,Nat.reduceAdd,Nat.zero_add]
    repeat' (first|(refine wlB ?_)|(refine wlNL ?_)|((with_reducible refine sel_call ?_);refine wl_rd rfl rfl (rd_call rfl rfl rfl (fun w hm=>by with_reducible first|exact S1 w|exact D1 w|exact W1 w|exact M1 w|exact L w|exact S2 w|exact D2 w|exact W2 w|exact M2 w|exact MB w)) ?_)|(refine wlEQ ?_)|(refine wlE ?_)|(refine efZCnn ?_;intro n hn)|(refine efBnn ?_;intro n hn)|(refine efB ?_)|(refine wl_skip rfl rfl ?_)|(refine wdV ?_)|(refine wdB ?_)|(refine wdNL ?_)|((with_reducible refine seld_call ?_);refine wd_rd hm0 rfl rfl rfl rfl (rd_call rfl rfl rfl (fun w hm=>by with_reducible first|exact S1 w|exact D1 w|exact W1 w|exact M1 w|exact L w|exact S2 w|exact D2 w|exact W2 w|exact M2 w|exact MB w)) ?_)|(refine wdEQ ?_)|(refine wdE ?_)|(refine wdT ?_)|(refine wd_skip rfl rfl ?_)|((with_reducible refine seld_nil ?_);refine wd_nil hm0 ?_;clear hm0 hw0)|((with_reducible refine wc_seq ?_);intro K hK)|(refine auC ?_)|(refine wc_cond rfl (fun hc=>?_) (fun hc=>?_))|(refine wc_draw (by kernel_rfl) (by kernel_rfl) (by decide +kernel) ?_;intro w0 hw0 hm0;(try simp only [List.append_eq,List.cons_append,List.nil_append]))|(refine auP ?_)|((refine auR ?_);clear hK K)|(refine auR ?_)|((with_reducible refine hK _ _ ?_);clear hK K)|fail)
    first|refine end_ret (ResP.cell rfl ld_whole (ResP.tmp rfl ResP.nil)) ?_|refine end_normal (ResP.cell rfl ld_whole (ResP.tmp rfl ResP.nil)) ?_
    first|rfl|(show _=_;rfl)|(simp only [tupV, *];done)
  ·have e3:(decide (fmul rB rB=flow a))=false:=decide_eq_false h3
   rw [e3] at dq
   rw [dq,if_neg Bool.false_ne_true] at df
   rw [dq,df]
   clear dq df dc h3 ha ho2 hand g0 SB
   refine fn_ret (N:=_) Tryz.func38 rfl Tryz.ntmps38 Tryz.results38 (by simp) ?_
   simp only [initS,Nat.reduceAdd,Nat.zero_add]
   repeat' (first|(refine wlB ?_)|(refine wlNL ?_)|((with_reducible refine sel_call ?_);refine wl_rd rfl rfl (rd_call rfl rfl rfl (fun w hm=>by with_reducible first|exact S1 w|exact D1 w|exact W1 w|exact M1 w|exact L w|exact S2 w|exact D2 w|exact W2 w|exact M2 w|exact MB w)) ?_)|(refine wlEQ ?_)|(refine wlE ?_)|(refine efZCnn ?_;intro n hn)|(refine efBnn ?_;intro n hn)|(refine efB ?_)|(refine wl_skip rfl rfl ?_)|(refine wdV ?_)|(refine wdB ?_)|(refine wdNL ?_)|((with_reducible refine seld_call ?_);refine wd_rd hm0 rfl rfl rfl rfl (rd_call rfl rfl rfl (fun w hm=>by with_reducible first|exact S1 w|exact D1 w|exact W1 w|exact M1 w|exact L w|exact S2 w|exact D2 w|exact W2 w|exact M2 w|exact MB w)) ?_)|(refine wdEQ ?_)|(refine wdE ?_)|(refine wdT ?_)|(refine wd_skip rfl rfl ?_)|((with_reducible refine seld_nil ?_);refine wd_nil hm0 ?_;clear hm0 hw0)|((with_reducible refine wc_seq ?_);intro K hK)|(refine auC ?_)|(refine wc_cond rfl (fun hc=>?_) (fun hc=>?_))|(refine wc_draw (by kernel_rfl) (by kernel_rfl) (by decide +kernel) ?_;intro w0 hw0 hm0;(try simp only [List.append_eq,List.cons_append,List.nil_append]))|(refine auP ?_)|((refine auR ?_);clear hK K)|(refine auR ?_)|((with_reducible refine hK _ _ ?_);clear hK K)|fail)
   first|refine end_ret (ResP.cell rfl ld_whole (ResP.tmp rfl ResP.nil)) ?_|refine end_normal (ResP.cell rfl ld_whole (ResP.tmp rfl ResP.nil)) ?_
   first|rfl|(show _=_;rfl)|(simp only [tupV, *];done)
end Go.Proofs.YtkendlnjaopbeaaGreatDoor
namespace Go.Proofs.YtkendlnjaopbeaaGreatDoor
open Go.RowKit
set_option maxRecDepth 100000
set_option linter.unusedVariables false
set_option linter.unusedSimpArgs false
set_option maxRecDepth 8000
instance r2_point:R2 Tryz.prog 89:=⟨⟨by kernel_rfl⟩,⟨by kernel_rfl⟩⟩
instance r4_quad:R4 Tryz.prog 137:=⟨⟨by kernel_rfl⟩,⟨by kernel_rfl⟩⟩
instance zc_point:ZC Tryz.prog 89 (rowC [0,0]):=zc_r2 r2_point
instance zc_quad:ZC Tryz.prog 137 (rowC [0,0,0,0]):=zc_r4 r4_quad
abbrev pv (p:Pt):Value:=ro [p.x,p.y]
abbrev qv (q:Qd):Value:=ro [q.x,q.y,q.z,q.t]
theorem DD_val:Value.agg [.int .u64 8496970652267935907,.int .u64 31536524315187371,.int .u64 10144147576115030168,.int .u64 5909686906226998899].toArray=nu DD:=four_val 8496970652267935907 31536524315187371 10144147576115030168 5909686906226998899 DD (by decide +kernel) (by decide +kernel) (by decide +kernel) (by decide +kernel)
theorem BX_val:Value.agg [.int .u64 14507833142362363162,.int .u64 7578651490590762930,.int .u64 13881468655802702940,.int .u64 2407515759118799870].toArray=nu BX:=four_val 14507833142362363162 7578651490590762930 13881468655802702940 2407515759118799870 BX (by decide +kernel) (by decide +kernel) (by decide +kernel) (by decide +kernel)
theorem BY_val:Value.agg [.int .u64 7378697629483820632,.int .u64 7378697629483820646,.int .u64 7378697629483820646,.int .u64 7378697629483820646].toArray=nu BY:=four_val 7378697629483820632 7378697629483820646 7378697629483820646 7378697629483820646 BY (by decide +kernel) (by decide +kernel) (by decide +kernel) (by decide +kernel)
theorem d_c (w:World):Calls Tryz.prog 42 [].toArray w (Ret (nu DD) w):=by
 refine fn_ret (N:=_) Tryz.func42 rfl Tryz.ntmps42 Tryz.results42 (by simp) ?_
 simp only [initS,Nat.reduceAdd,Nat.zero_add]
 repeat' (first|((with_reducible refine sel_build ?_);refine wv rfl rfl (rd_cast (rd_buildA rfl rfl) DD_val) ?_)|(refine wlE ?_)|(refine efZCnn ?_;intro n hn)|(refine efBnn ?_;intro n hn)|(refine efB ?_)|(refine wl_skip rfl rfl ?_)|((with_reducible refine wc_seq ?_);intro K hK)|(refine auC ?_)|(refine wc_cond rfl (fun hc=>?_) (fun hc=>?_))|(refine wc_draw (by kernel_rfl) (by kernel_rfl) (by decide +kernel) ?_;intro w0 hw0 hm0;(try simp only [List.append_eq,List.cons_append,List.nil_append]))|(refine auP ?_)|((refine auR ?_);clear hK K)|(refine auR ?_)|((with_reducible refine hK _ _ ?_);clear hK K)|fail)
 first|refine end_ret (ResP.cell rfl ld_whole ResP.nil) ?_|refine end_normal (ResP.cell rfl ld_whole ResP.nil) ?_
 first|rfl|(show _=_;rfl)|(simp only [tupV, *];done)
theorem zero_c (w:World):Calls Tryz.prog 50 [].toArray w (Ret (pv Pt.zero) w):=by
 refine fn_ret (N:=_) Tryz.func50 rfl Tryz.ntmps50 Tryz.results50 (by simp) ?_
 simp only [initS,Nat.reduceAdd,Nat.zero_add]
 repeat' (first|(refine wlR ?_)|(refine wlNL ?_)|(refine wlE ?_)|(refine efR ?_)|(refine efZCnn ?_;intro n hn)|(refine efBnn ?_;intro n hn)|(refine efB ?_)|(refine wl_skip rfl rfl ?_)|((with_reducible refine wc_seq ?_);intro K hK)|(refine auC ?_)|(refine wc_cond rfl (fun hc=>?_) (fun hc=>?_))|(refine wc_draw (by kernel_rfl) (by kernel_rfl) (by decide +kernel) ?_;intro w0 hw0 hm0;(try simp only [List.append_eq,List.cons_append,List.nil_append]))|(refine auP ?_)|((refine auR ?_);clear hK K)|(refine auR ?_)|((with_reducible refine hK _ _ ?_);clear hK K)|fail)
 first|refine end_ret (ResP.cell rfl ld_whole ResP.nil) ?_|refine end_normal (ResP.cell rfl ld_whole ResP.nil) ?_
 first|rfl|(show _=_;rfl)|(simp only [tupV, *];done)
theorem base_c (w:World):Calls Tryz.prog 32 [].toArray w (Ret (pv Pt.base) w):=by
 refine fn_ret (N:=_) Tryz.func32 rfl Tryz.ntmps32 Tryz.results32 (by simp) ?_
 simp only [initS,Nat.reduceAdd,Nat.zero_add]
 repeat' (first|(refine wlR ?_)|((with_reducible refine sel_build ?_);refine wv rfl rfl (rd_cast (rd_buildA rfl rfl) BX_val) ?_)|((with_reducible refine sel_build ?_);refine wv rfl rfl (rd_cast (rd_buildA rfl rfl) BY_val) ?_)|(refine wlE ?_)|(refine efR ?_)|(refine efZCnn ?_;intro n hn)|(refine efBnn ?_;intro n hn)|(refine efB ?_)|(refine wl_skip rfl rfl ?_)|((with_reducible refine wc_seq ?_);intro K hK)|(refine auC ?_)|(refine wc_cond rfl (fun hc=>?_) (fun hc=>?_))|(refine wc_draw (by kernel_rfl) (by kernel_rfl) (by decide +kernel) ?_;intro w0 hw0 hm0;(try simp only [List.append_eq,List.cons_append,List.nil_append]))|(refine auP ?_)|((refine auR ?_);clear hK K)|(refine auR ?_)|((with_reducible refine hK _ _ ?_);clear hK K)|fail)
 first|refine end_ret (ResP.cell rfl ld_whole ResP.nil) ?_|refine end_normal (ResP.cell rfl ld_whole ResP.nil) ?_
 first|rfl|(show _=_;rfl)|(simp only [tupV, *];done)
set_option maxHeartbeats 2000000 in
theorem quadOf_c (p:Pt)(hp:p.lt)(w:World):Calls Tryz.prog 49 [pv p].toArray w (Ret (qv p.quad) w):=by
 obtain ⟨h1,h2⟩:=hp
 refine fn_ret (N:=_) Tryz.func49 rfl Tryz.ntmps49 Tryz.results49 (by simp) ?_
 simp only [initS,Nat.reduceAdd,Nat.zero_add]
 repeat' (first|(refine efZCnn ?_;intro n hn)|(refine efBnn ?_;intro n hn)|(refine wl_skip rfl rfl ?_)|(refine wdR ?_)|(refine wdV ?_)|(refine wdB ?_)|(refine wdNL ?_)|((with_reducible refine seld_call ?_);refine wd_rd hm0 rfl rfl rfl rfl (rd_call rfl rfl rfl (fun w _=>by with_reducible exact mulG _ _ (by first|(with_reducible assumption)|(with_reducible exact SmT.out)|decide) (by first|(with_reducible assumption)|(with_reducible exact SmT.out)|decide) w)) ?_)|(refine wdE ?_)|(refine wdT ?_)|(refine wd_skip rfl rfl ?_)|((with_reducible refine seld_nil ?_);refine wd_nil hm0 ?_;clear hm0 hw0)|((with_reducible refine wc_seq ?_);intro K hK)|(refine auC ?_)|(refine wc_cond rfl (fun hc=>?_) (fun hc=>?_))|(refine wc_draw (by kernel_rfl) (by kernel_rfl) (by decide +kernel) ?_;intro w0 hw0 hm0;(try simp only [List.append_eq,List.cons_append,List.nil_append]))|(refine auP ?_)|((refine auR ?_);clear hK K)|(refine auR ?_)|((with_reducible refine hK _ _ ?_);clear hK K)|fail)
 first|refine end_ret (ResP.cell rfl ld_whole ResP.nil) ?_|refine end_normal (ResP.cell rfl ld_whole ResP.nil) ?_
 first|rfl|(show _=_;rfl)|(simp only [tupV, *];done)
set_option maxHeartbeats 2000000 in
theorem point_c (q:Qd)(hq:q.lt)(w:World):Calls Tryz.prog 54 [qv q].toArray w (Ret (pv q.point) w):=by
 obtain ⟨h1,h2,h3,h4⟩:=hq
 refine fn_ret (N:=_) Tryz.func54 rfl Tryz.ntmps54 Tryz.results54 (by simp) ?_
 simp only [initS,Nat.reduceAdd,Nat.zero_add]
 repeat' (first|(refine wlR ?_)|(refine wlB ?_)|((with_reducible refine sel_call ?_);first|refine wl_rd rfl rfl (rd_call rfl rfl rfl (fun w _=>by with_reducible exact mulG _ _ (by first|(with_reducible assumption)|(with_reducible exact SmT.out)|decide) (by first|(with_reducible assumption)|(with_reducible exact SmT.out)|decide) w)) ?_|refine wl_rd rfl rfl (rd_call rfl rfl rfl (fun w _=>by with_reducible exact invG _ (by first|(with_reducible assumption)|(with_reducible exact SmT.out)|decide) w)) ?_)|(refine wlE ?_)|(refine efR ?_)|(refine efZCnn ?_;intro n hn)|(refine efBnn ?_;intro n hn)|(refine efB ?_)|(refine wl_skip rfl rfl ?_)|(refine wdR ?_)|(refine wdV ?_)|(refine wdB ?_)|(refine wdNL ?_)|((with_reducible refine seld_call ?_);refine wd_rd hm0 rfl rfl rfl rfl (rd_call rfl rfl rfl (fun w _=>by with_reducible exact mulG _ _ (by first|(with_reducible assumption)|(with_reducible exact SmT.out)|decide) (by first|(with_reducible assumption)|(with_reducible exact SmT.out)|decide) w)) ?_)|((with_reducible refine seld_call ?_);refine wd_rd hm0 rfl rfl rfl rfl (rd_call rfl rfl rfl (fun w _=>by with_reducible exact invG _ (by first|(with_reducible assumption)|(with_reducible exact SmT.out)|decide) w)) ?_)|(refine wdE ?_)|(refine wdT ?_)|(refine wd_skip rfl rfl ?_)|((with_reducible refine seld_nil ?_);refine wd_nil hm0 ?_;clear hm0 hw0)|((with_reducible refine wc_seq ?_);intro K hK)|(refine auC ?_)|(refine wc_cond rfl (fun hc=>?_) (fun hc=>?_))|(refine wc_draw (by kernel_rfl) (by kernel_rfl) (by decide +kernel) ?_;intro w0 hw0 hm0;(try simp only [List.append_eq,List.cons_append,List.nil_append]))|(refine auP ?_)|((refine auR ?_);clear hK K)|(refine auR ?_)|((with_reducible refine hK _ _ ?_);clear hK K)|fail)
 first|refine end_ret (ResP.cell rfl ld_whole ResP.nil) ?_|refine end_normal (ResP.cell rfl ld_whole ResP.nil) ?_
 first|rfl|(show _=_;rfl)|(simp only [tupV, *];done)
set_option maxHeartbeats 8000000 in
theorem plus_c (q r:Qd)(hq:q.lt)(hr:r.lt)(w:World):Calls Tryz.prog 52 [qv q,qv r].toArray w (Ret (qv (q.plus r)) w):=by
 obtain ⟨h1,h2,h3,h4⟩:=hq
 obtain ⟨k1,k2,k3,k4⟩:=hr
 have hD:=DD_lt
 have D:=d_c
 refine fn_ret (N:=_) Tryz.func52 rfl Tryz.ntmps52 Tryz.results52 (by simp) ?_
 simp only [initS,Nat.reduceAdd,Nat.zero_add]
 repeat' (first|(refine wlR ?_)|(refine wlB ?_)|((with_reducible refine sel_call ?_);first|refine wl_rd rfl rfl (rd_call rfl rfl rfl (fun w _=>by with_reducible exact mulG _ _ (by first|(with_reducible assumption)|(with_reducible exact SmT.out)|decide) (by first|(with_reducible assumption)|(with_reducible exact SmT.out)|decide) w)) ?_|refine wl_rd rfl rfl (rd_call rfl rfl rfl (fun w _=>by with_reducible exact addG _ _ (by first|(with_reducible assumption)|(with_reducible exact SmT.out)|decide) (by first|(with_reducible assumption)|(with_reducible exact SmT.out)|decide) w)) ?_|refine wl_rd rfl rfl (rd_call rfl rfl rfl (fun w _=>by with_reducible exact subG _ _ (by first|(with_reducible assumption)|(with_reducible exact SmT.out)|decide) (by first|(with_reducible assumption)|(with_reducible exact SmT.out)|decide) w)) ?_|refine wl_rd rfl rfl (rd_call rfl rfl rfl (fun w hm=>by with_reducible exact D w)) ?_)|(refine wlE ?_)|(refine efR ?_)|(refine efZCnn ?_;intro n hn)|(refine efBnn ?_;intro n hn)|(refine efB ?_)|(refine wl_skip rfl rfl ?_)|(refine wdR ?_)|(refine wdV ?_)|(refine wdB ?_)|(refine wdNL ?_)|((with_reducible refine seld_call ?_);refine wd_rd hm0 rfl rfl rfl rfl (rd_call rfl rfl rfl (fun w _=>by with_reducible exact mulG _ _ (by first|(with_reducible assumption)|(with_reducible exact SmT.out)|decide) (by first|(with_reducible assumption)|(with_reducible exact SmT.out)|decide) w)) ?_)|((with_reducible refine seld_call ?_);refine wd_rd hm0 rfl rfl rfl rfl (rd_call rfl rfl rfl (fun w _=>by with_reducible exact addG _ _ (by first|(with_reducible assumption)|(with_reducible exact SmT.out)|decide) (by first|(with_reducible assumption)|(with_reducible exact SmT.out)|decide) w)) ?_)|((with_reducible refine seld_call ?_);refine wd_rd hm0 rfl rfl rfl rfl (rd_call rfl rfl rfl (fun w _=>by with_reducible exact subG _ _ (by first|(with_reducible assumption)|(with_reducible exact SmT.out)|decide) (by first|(with_reducible assumption)|(with_reducible exact SmT.out)|decide) w)) ?_)|((with_reducible refine seld_call ?_);refine wd_rd hm0 rfl rfl rfl rfl (rd_call rfl rfl rfl (fun w hm=>by with_reducible exact D w)) ?_)|(refine wdE ?_)|(refine wd_allocC hm0 rfl rfl rfl ?_;intro n hn hn0)|(refine wd_alloc hm0 rfl rfl rfl ?_;intro n hn hn0)|(refine wdT ?_)|(refine wd_skip rfl rfl ?_)|((with_reducible refine seld_nil ?_);refine wd_nil hm0 ?_;clear hm0 hw0)|((with_reducible refine wc_seq ?_);intro K hK)|(refine auC ?_)|(refine wc_cond rfl (fun hc=>?_) (fun hc=>?_))|(refine wc_draw (by kernel_rfl) (by kernel_rfl) (by decide +kernel) ?_;intro w0 hw0 hm0;(try simp only [List.append_eq,List.cons_append,List.nil_append]))|(refine auP ?_)|((refine auR ?_);clear hK K)|(refine auR ?_)|((with_reducible refine hK _ _ ?_);clear hK K)|fail)
 first|refine end_ret (ResP.cell rfl ld_whole ResP.nil) ?_|refine end_normal (ResP.cell rfl ld_whole ResP.nil) ?_
 first|rfl|(show _=_;rfl)|(simp only [tupV, *];done)
end Go.Proofs.YtkendlnjaopbeaaGreatDoor
