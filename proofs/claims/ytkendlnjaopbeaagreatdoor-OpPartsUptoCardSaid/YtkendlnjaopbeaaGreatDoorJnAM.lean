/- curve.On,Neg,Add,Times. Packs of points: definitions. curve.Pack. -/
import Derived.Test.YtkendlnjaopbeaaGreatDoorJnAL
import Derived.Test.YtkendlnjaopbeaaGreatDoorJnAJ
import Derived.Test.YtkendlnjaopbeaaGreatDoorJnAK
namespace Go.Proofs.YtkendlnjaopbeaaGreatDoor
open Go.RowKit
set_option linter.unusedVariables false
set_option linter.unusedSimpArgs false
set_option maxRecDepth 8000
set_option maxHeartbeats 4000000 in
theorem on_c (p:Pt)(hp:p.lt)(w:World):Calls Tryz.prog 48 [pv p].toArray w (Ret (.bool (decide p.on)) w):=by
 obtain ⟨h1,h2⟩:=hp
 have hD:=DD_lt
 have D:=d_c
 by_cases k1:p.x=flow p.x
 ·have e1:=decide_eq_true k1
  by_cases k2:p.y=flow p.y
  ·have e2:=decide_eq_true k2
   have e3:decide p.on=decide p.eqn:=by rw [decide_eq_decide];exact ⟨fun h=>h.2.2,fun h=>⟨k1,k2,h⟩⟩
   have e4:decide (fsub (fmul p.y p.y) (fmul p.x p.x)=fadd 1 (fmul DD (fmul (fmul p.x p.x) (fmul p.y p.y))))=decide p.eqn:=by rw [decide_eq_decide];exact Iff.rfl
   rw [e3]
   clear k1 k2 e3
   generalize decide p.eqn=b at *
   refine fn_ret (N:=_) Tryz.func48 rfl Tryz.ntmps48 Tryz.results48 (by simp) ?_
   simp only [initS,Nat.reduceAdd,Nat.zero_add]
   repeat' (first|(refine wlB ?_)|(refine efBnn ?_;intro n hn)|(refine wl_skip rfl rfl ?_)|(refine wdR ?_)|(refine wdV ?_)|(refine wdB ?_)|(refine wdNL ?_)|((with_reducible refine seld_call ?_);refine wd_rd hm0 rfl rfl rfl rfl (rd_call rfl rfl rfl (fun w _=>by with_reducible exact mulG _ _ (by first|(with_reducible assumption)|(with_reducible exact SmT.out)|decide) (by first|(with_reducible assumption)|(with_reducible exact SmT.out)|decide) w)) ?_)|((with_reducible refine seld_call ?_);refine wd_rd hm0 rfl rfl rfl rfl (rd_call rfl rfl rfl (fun w _=>by with_reducible exact addG _ _ (by first|(with_reducible assumption)|(with_reducible exact SmT.out)|decide) (by first|(with_reducible assumption)|(with_reducible exact SmT.out)|decide) w)) ?_)|((with_reducible refine seld_call ?_);refine wd_rd hm0 rfl rfl rfl rfl (rd_call rfl rfl rfl (fun w _=>by with_reducible exact subG _ _ (by first|(with_reducible assumption)|(with_reducible exact SmT.out)|decide) (by first|(with_reducible assumption)|(with_reducible exact SmT.out)|decide) w)) ?_)|((with_reducible refine seld_call ?_);refine wd_rd hm0 rfl rfl rfl rfl (rd_call rfl rfl rfl (fun w _=>by with_reducible exact lowG _ (by first|(with_reducible assumption)|(with_reducible exact SmT.out)|decide) w)) ?_)|((with_reducible refine seld_call ?_);refine wd_rd hm0 rfl rfl rfl rfl (rd_call rfl rfl rfl (fun w hm=>by with_reducible exact D w)) ?_)|(refine wdEQ ?_)|(refine wdE ?_)|(refine wd_allocC hm0 rfl rfl rfl ?_;intro n hn hn0)|(refine wd_alloc hm0 rfl rfl rfl ?_;intro n hn hn0)|(refine wdT ?_)|(refine wd_skip rfl rfl ?_)|((with_reducible refine seld_nil ?_);refine wd_nil hm0 ?_;clear hm0 hw0)|((with_reducible refine wc_seq ?_);intro K hK)|(refine auC ?_)|(refine wc_cond rfl (fun hc=>?_) (fun hc=>?_))|(refine wc_draw (by kernel_rfl) (by kernel_rfl) (by decide +kernel) ?_;intro w0 hw0 hm0;(try simp only [List.append_eq,List.cons_append,List.nil_append]))|(refine auP ?_)|((refine auR ?_);clear hK K)|(refine auR ?_)|((with_reducible refine hK _ _ ?_);clear hK K)|fail)
   first|refine end_ret (ResP.tmp rfl ResP.nil) ?_|refine end_normal (ResP.tmp rfl ResP.nil) ?_
   first|rfl|(show _=_;rfl)|(simp only [tupV, *];done)
  ·have e2:=decide_eq_false k2
   rw [decide_eq_false (fun h:p.on=>k2 h.2.1)]
   clear k1 k2
   refine fn_ret (N:=_) Tryz.func48 rfl Tryz.ntmps48 Tryz.results48 (by simp) ?_
   simp only [initS,Nat.reduceAdd,Nat.zero_add]
   repeat' (first|(refine wlB ?_)|(refine efBnn ?_;intro n hn)|(refine wl_skip rfl rfl ?_)|(refine wdR ?_)|(refine wdV ?_)|(refine wdB ?_)|(refine wdNL ?_)|((with_reducible refine seld_call ?_);refine wd_rd hm0 rfl rfl rfl rfl (rd_call rfl rfl rfl (fun w _=>by with_reducible exact lowG _ (by first|(with_reducible assumption)|(with_reducible exact SmT.out)|decide) w)) ?_)|(refine wdEQ ?_)|(refine wdE ?_)|(refine wd_allocC hm0 rfl rfl rfl ?_;intro n hn hn0)|(refine wd_alloc hm0 rfl rfl rfl ?_;intro n hn hn0)|(refine wdT ?_)|(refine wd_skip rfl rfl ?_)|((with_reducible refine seld_nil ?_);refine wd_nil hm0 ?_;clear hm0 hw0)|((with_reducible refine wc_seq ?_);intro K hK)|(refine auC ?_)|(refine wc_cond rfl (fun hc=>?_) (fun hc=>?_))|(refine wc_draw (by kernel_rfl) (by kernel_rfl) (by decide +kernel) ?_;intro w0 hw0 hm0;(try simp only [List.append_eq,List.cons_append,List.nil_append]))|(refine auP ?_)|((refine auR ?_);clear hK K)|(refine auR ?_)|((with_reducible refine hK _ _ ?_);clear hK K)|fail)
   first|refine end_ret (ResP.tmp rfl ResP.nil) ?_|refine end_normal (ResP.tmp rfl ResP.nil) ?_
   first|rfl|(show _=_;rfl)|(simp only [tupV, *];done)
 ·have e1:=decide_eq_false k1
  rw [decide_eq_false (fun h:p.on=>k1 h.1)]
  clear k1
  refine fn_ret (N:=_) Tryz.func48 rfl Tryz.ntmps48 Tryz.results48 (by simp) ?_
  simp only [initS,Nat.reduceAdd,Nat.zero_add]
  repeat' (first|(refine wlB ?_)|(refine efBnn ?_;intro n hn)|(refine wl_skip rfl rfl ?_)|(refine wdR ?_)|(refine wdV ?_)|(refine wdB ?_)|(refine wdNL ?_)|((with_reducible refine seld_call ?_);refine wd_rd hm0 rfl rfl rfl rfl (rd_call rfl rfl rfl (fun w _=>by with_reducible exact lowG _ (by first|(with_reducible assumption)|(with_reducible exact SmT.out)|decide) w)) ?_)|(refine wdEQ ?_)|(refine wdE ?_)|(refine wd_allocC hm0 rfl rfl rfl ?_;intro n hn hn0)|(refine wd_alloc hm0 rfl rfl rfl ?_;intro n hn hn0)|(refine wdT ?_)|(refine wd_skip rfl rfl ?_)|((with_reducible refine seld_nil ?_);refine wd_nil hm0 ?_;clear hm0 hw0)|((with_reducible refine wc_seq ?_);intro K hK)|(refine auC ?_)|(refine wc_cond rfl (fun hc=>?_) (fun hc=>?_))|(refine wc_draw (by kernel_rfl) (by kernel_rfl) (by decide +kernel) ?_;intro w0 hw0 hm0;(try simp only [List.append_eq,List.cons_append,List.nil_append]))|(refine auP ?_)|((refine auR ?_);clear hK K)|(refine auR ?_)|((with_reducible refine hK _ _ ?_);clear hK K)|fail)
  first|refine end_ret (ResP.tmp rfl ResP.nil) ?_|refine end_normal (ResP.tmp rfl ResP.nil) ?_
  first|rfl|(show _=_;rfl)|(simp only [tupV, *];done)
theorem on_yes {p:Pt}(hp:p.lt)(h:p.on)(w:World):Calls Tryz.prog 48 [pv p].toArray w (Ret (.bool true) w):=by
 have:=on_c p hp w
 rwa [decide_eq_true h] at this
set_option maxHeartbeats 2000000 in
theorem add_yes {p q:Pt}(hp:p.lt)(h:p.on)(hq:q.lt)(k:q.on)(w:World):Calls Tryz.prog 106 [pv p,pv q].toArray w (Ret (.tuple #[pv (p.add q),.int .i64 0]) w):=by
 have OP:=on_yes hp h
 have OQ:=on_yes hq k
 have Q:=quadOf_c p hp
 have Q2:=quadOf_c q hq
 have A:=plus_c p.quad q.quad (Pt.quad_lt hp) (Pt.quad_lt hq)
 have B:=point_c (p.quad.plus q.quad) (Qd.plus_lt _ _)
 rw [show (p.quad.plus q.quad).point=p.add q from rfl] at B
 clear h hp k hq
 generalize p.quad.plus q.quad=s at *
 generalize p.quad=a at *
 generalize q.quad=b at *
 generalize p.add q=c at *
 refine fn_ret (N:=_) Tryz.func106 rfl Tryz.ntmps106 Tryz.results106 (by simp) ?_
 simp only [initS,Nat.reduceAdd,Nat.zero_add]
 repeat' (first|(refine wlR ?_)|(refine wlB ?_)|(refine wlNL ?_)|((with_reducible refine sel_call ?_);refine wl_rd rfl rfl (rd_call rfl rfl rfl (fun w hm=>by with_reducible first|exact OP w|exact OQ w|exact Q w|exact Q2 w|exact A w|exact B w)) ?_)|(refine wlE ?_)|(refine efR ?_)|(refine efZCnn ?_;intro n hn)|(refine efBnn ?_;intro n hn)|(refine efB ?_)|(refine wl_skip rfl rfl ?_)|(refine wdR ?_)|(refine wdV ?_)|(refine wdB ?_)|((with_reducible refine seld_call ?_);refine wd_rd hm0 rfl rfl rfl rfl (rd_call rfl rfl rfl (fun w hm=>by with_reducible first|exact OP w|exact OQ w|exact Q w|exact Q2 w|exact A w|exact B w)) ?_)|(refine wdE ?_)|(refine wdT ?_)|(refine wd_skip rfl rfl ?_)|((with_reducible refine seld_nil ?_);refine wd_nil hm0 ?_;clear hm0 hw0)|((with_reducible refine wc_seq ?_);intro K hK)|(refine auC ?_)|(refine wc_cond rfl (fun hc=>?_) (fun hc=>?_))|(refine wc_draw (by kernel_rfl) (by kernel_rfl) (by decide +kernel) ?_;intro w0 hw0 hm0;(try simp only [List.append_eq,List.cons_append,List.nil_append]))|(refine auP ?_)|((refine auR ?_);clear hK K)|(refine auR ?_)|((with_reducible refine hK _ _ ?_);clear hK K)|fail)
 first|refine end_ret (ResP.cell rfl ld_whole (ResP.tmp rfl ResP.nil)) ?_|refine end_normal (ResP.cell rfl ld_whole (ResP.tmp rfl ResP.nil)) ?_
 first|rfl|(show _=_;rfl)|(simp only [tupV, *];done)
set_option maxHeartbeats 4000000 in
theorem times_yes {p:Pt}(m:Nat)(hm:m<T256)(hp:p.lt)(h:p.on)(w:World):Calls Tryz.prog 31 [nu m,pv p].toArray w (Ret (.tuple #[pv (p.times m),.int .i64 0]) w):=by
 have OP:=on_yes hp h
 have Z:=zero_c
 have Q:=quadOf_c p hp
 have Q0:=quadOf_c Pt.zero Pt.zero_lt
 have hlen:=len_nu m hm
 have h256:blen m≤256:=blen_le.2 (by rw [←T256_eq];exact hm)
 have qlt:=Pt.quad_lt hp
 have et:p.times m=(p.quad.rep m (blen m)).point:=rfl
 have PC:=fun x=>point_c x
 have hstep:∀ j,p.quad.rep m (j+1)=if m / 2 ^ (blen m - (j+1)) % 2=1 then ((p.quad.rep m j).plus (p.quad.rep m j)).plus p.quad else (p.quad.rep m j).plus (p.quad.rep m j):=fun j=>rfl
 have hlt:∀ j,(p.quad.rep m j).lt:=fun j=>Qd.rep_lt m j
 have h0:p.quad.rep m 0=Pt.zero.quad:=rfl
 rw [et]
 generalize blen m=L at *
 obtain ⟨f,hf⟩:∃ f:Nat→Qd,f=p.quad.rep m:=⟨_,rfl⟩
 rw [←hf] at hstep hlt h0 ⊢
 rw [←h0] at Q0
 clear et hf
 generalize p.quad=q at *
 have s0:IntKind.i64.wrap ((L:Int) - 1)=(L:Int) - 1:=wrap_i64 _ (by omega) (by omega)
 have hz:f (L - L)=f 0:=by rw [Nat.sub_self]
 clear h0 hp h
 refine fn_ret (N:=_) Tryz.func31 rfl Tryz.ntmps31 Tryz.results31 (by simp) ?_
 simp only [initS,Nat.reduceAdd,Nat.zero_add]
 repeat' (first|(refine wlR ?_)|(refine wlB ?_)|(refine wlNL ?_)|((with_reducible refine sel_call ?_);refine wl_rd rfl rfl (rd_call rfl rfl rfl (fun w hm=>by with_reducible first|exact OP w|exact Z w|exact Q w|exact Q0 w|exact hlen w)) ?_)|(refine wlE ?_)|(refine efR ?_)|(refine efZCnn ?_;intro n hn)|(refine efBnn ?_;intro n hn)|(refine efB ?_)|(refine wl_skip rfl rfl ?_)|(refine wdR ?_)|(refine wdV ?_)|(refine wdB ?_)|((with_reducible refine seld_call ?_);refine wd_rd hm0 rfl rfl rfl rfl (rd_call rfl rfl rfl (fun w hm=>by with_reducible first|exact OP w|exact Z w|exact Q w|exact Q0 w|exact hlen w)) ?_)|(refine wdE ?_)|(refine wd_allocC hm0 rfl rfl rfl ?_;intro n hn hn0)|(refine wd_alloc hm0 rfl rfl rfl ?_;intro n hn hn0)|(refine wdT ?_)|(refine wd_skip rfl rfl ?_)|((with_reducible refine seld_nil ?_);refine wd_nil hm0 ?_;clear hm0 hw0)|((with_reducible refine wc_seq ?_);intro K hK)|(refine auC ?_)|(refine wc_cond rfl (fun hc=>?_) (fun hc=>?_))|(refine wc_draw (by kernel_rfl) (by kernel_rfl) (by decide +kernel) ?_;intro w0 hw0 hm0;(try simp only [List.append_eq,List.cons_append,List.nil_append]))|(refine auP ?_)|((refine auR ?_);clear hK K)|(refine auR ?_)|((with_reducible refine hK _ _ ?_);clear hK K)|fail)
 rename_i n2 g2 n3 g3 n4 g4 n6 g6 g66
 obtain ⟨n7,rfl⟩:∃ n7,n7=n:=⟨n,rfl⟩
 refine wc_loop (σ:=Nat) (fun k=>[(2,ptr n2),(3,ptr n3),(4,ptr n4),(5,.int .i64 0),(6,ptr n6),(7,ptr n7),(8,.int .i64 ((k:Int) - 1))])
  (fun k=>[(n7,rowC [q.x,q.y,q.z,q.t],137),(n6,rowC [(f (L - k)).x,(f (L - k)).y,(f (L - k)).z,(f (L - k)).t],137),(n4,rowC [0,0],89),(n3,rowC [p.x,p.y],89),(n2,numC m,46)])
  (fun k=>k≤L) id L (Nat.le_refl _) (Fits.of ⟨rfl,rfl,rfl,rfl,rfl,rfl,rfl,trivial⟩ (by
   rw [hz]
   repeat (first|exact SubL.nil|exact SubL.refl _|refine SubL.keep ?_|exact SubL.headA _ _|refine SubL.keepA ?_ _|refine SubL.skip ?_|refine SubL.skipA ?_ _)) rfl) ?_
 clear OP Z Q Q0 hlen s0 hz
 intro k hk
 rcases k with _|j
 ·have ht:decide ((((0:Nat):Int) - 1)≥0)=false:=rfl
  rw [Nat.sub_zero]
  have P:=PC (f L) (hlt L)
  generalize f L=x at *
  clear hstep hlt PC hm qlt
  repeat' (first|(refine wlR ?_)|(refine wlB ?_)|((with_reducible refine sel_call ?_);refine wl_rd rfl rfl (rd_call rfl rfl rfl (fun w hm=>by with_reducible exact P w)) ?_)|(refine wlE ?_)|(refine efR ?_)|(refine efBnn ?_;intro n hn)|(refine efB ?_)|(refine wl_skip rfl rfl ?_)|(refine wdR ?_)|(refine wdV ?_)|(refine wdB ?_)|((with_reducible refine seld_call ?_);refine wd_rd hm0 rfl rfl rfl rfl (rd_call rfl rfl rfl (fun w hm=>by with_reducible exact P w)) ?_)|(refine wdE ?_)|(refine wd_alloc hm0 rfl rfl rfl ?_;intro n hn hn0)|(refine wdT ?_)|(refine wd_skip rfl rfl ?_)|((with_reducible refine seld_nil ?_);refine wd_nil hm0 ?_;clear hm0 hw0)|((with_reducible refine wc_seq ?_);intro K hK)|(refine auC ?_)|(refine wc_cond rfl (fun hc=>?_) (fun hc=>?_))|(refine wc_draw (by kernel_rfl) (by kernel_rfl) (by decide +kernel) ?_;intro w0 hw0 hm0;(try simp only [List.append_eq,List.cons_append,List.nil_append]))|(refine auP ?_)|((refine auR ?_);clear hK K)|(refine auR ?_)|((with_reducible refine hK _ _ ?_);clear hK K)|fail)
  first|refine end_ret (ResP.cell rfl ld_whole (ResP.tmp rfl ResP.nil)) ?_|refine end_normal (ResP.cell rfl ld_whole (ResP.tmp rfl ResP.nil)) ?_
  first|rfl|(show _=_;rfl)|(simp only [tupV, *];done)
 ·have ej:(((j+1:Nat):Int) - 1)=(j:Int):=by omega
  simp only [ej]
  have ht:decide ((j:Int)≥0)=true:=decide_eq_true (by omega)
  have s1:IntKind.i64.wrap ((j:Int) - 1)=(j:Int) - 1:=wrap_i64 _ (by omega) (by omega)
  have hb:=bit_nu m j hm (by omega)
  have hs:=hstep (L - (j+1))
  rw [show L - (j+1)+1=L - j by omega,show L - (L - j)=j by omega] at hs
  have hX:=hlt (L - (j+1))
  generalize f (L - (j+1))=X at *
  have M1:=plus_c X X hX hX
  have M2:=plus_c (X.plus X) q (Qd.plus_lt _ _) qlt
  generalize X.plus X=Y at *
  generalize Y.plus q=Z at *
  obtain ⟨b,hb2⟩:∃ b,b=m / 2 ^ j % 2:=⟨_,rfl⟩
  rw [←hb2] at hb hs
  by_cases h1:b=1
  ·subst h1
   rw [if_pos rfl] at hs
   have t1:((((1:Nat)):Int) == 1)=true:=rfl
   clear hb2 hm hX hstep hlt PC qlt
   repeat' (first|(refine wlR ?_)|(refine wlB ?_)|((with_reducible refine sel_call ?_);refine wl_rd rfl rfl (rd_call rfl rfl rfl (fun w hm=>by with_reducible first|exact hb w|exact M1 w|exact M2 w)) ?_)|(refine wlE ?_)|(refine efR ?_)|(refine efZCnn ?_;intro n hn)|(refine efBnn ?_;intro n hn)|(refine efB ?_)|(refine wl_skip rfl rfl ?_)|(refine wdR ?_)|(refine wdV ?_)|(refine wdB ?_)|((with_reducible refine seld_call ?_);refine wd_rd hm0 rfl rfl rfl rfl (rd_call rfl rfl rfl (fun w hm=>by with_reducible first|exact hb w|exact M1 w|exact M2 w)) ?_)|(refine wdE ?_)|(refine wd_allocC hm0 rfl rfl rfl ?_;intro n hn hn0)|(refine wd_alloc hm0 rfl rfl rfl ?_;intro n hn hn0)|(refine wdT ?_)|(refine wd_skip rfl rfl ?_)|((with_reducible refine seld_nil ?_);refine wd_nil hm0 ?_;clear hm0 hw0)|((with_reducible refine wc_seq ?_);intro K hK)|(refine auC ?_)|(refine wc_cond rfl (fun hc=>?_) (fun hc=>?_))|(refine wc_draw (by kernel_rfl) (by kernel_rfl) (by decide +kernel) ?_;intro w0 hw0 hm0;(try simp only [List.append_eq,List.cons_append,List.nil_append]))|(refine auP ?_)|((refine auR ?_);clear hK K)|(refine auR ?_)|((with_reducible refine hK _ _ ?_);clear hK K)|fail)
   exact ⟨j,by omega,Nat.lt_succ_self j,Fits.of ⟨rfl,rfl,rfl,rfl,rfl,rfl,rfl,trivial⟩ (by
    rw [hs]
    repeat (first|exact SubL.nil|exact SubL.refl _|refine SubL.keep ?_|exact SubL.headA _ _|refine SubL.keepA ?_ _|refine SubL.skip ?_|refine SubL.skipA ?_ _)) rfl⟩
  ·obtain rfl:b=0:=by omega
   rw [if_neg h1] at hs
   have t1:((((0:Nat)):Int) == 1)=false:=rfl
   clear hb2 hm hX hstep hlt PC qlt h1 M2
   repeat' (first|(refine wlR ?_)|(refine wlB ?_)|((with_reducible refine sel_call ?_);refine wl_rd rfl rfl (rd_call rfl rfl rfl (fun w hm=>by with_reducible first|exact hb w|exact M1 w)) ?_)|(refine wlE ?_)|(refine efR ?_)|(refine efZCnn ?_;intro n hn)|(refine efBnn ?_;intro n hn)|(refine efB ?_)|(refine wl_skip rfl rfl ?_)|(refine wdR ?_)|(refine wdV ?_)|(refine wdB ?_)|((with_reducible refine seld_call ?_);refine wd_rd hm0 rfl rfl rfl rfl (rd_call rfl rfl rfl (fun w hm=>by with_reducible first|exact hb w|exact M1 w)) ?_)|(refine wdE ?_)|(refine wd_allocC hm0 rfl rfl rfl ?_;intro n hn hn0)|(refine wd_alloc hm0 rfl rfl rfl ?_;intro n hn hn0)|(refine wdT ?_)|(refine wd_skip rfl rfl ?_)|((with_reducible refine seld_nil ?_);refine wd_nil hm0 ?_;clear hm0 hw0)|((with_reducible refine wc_seq ?_);intro K hK)|(refine auC ?_)|(refine wc_cond rfl (fun hc=>?_) (fun hc=>?_))|(refine wc_draw (by kernel_rfl) (by kernel_rfl) (by decide +kernel) ?_;intro w0 hw0 hm0;(try simp only [List.append_eq,List.cons_append,List.nil_append]))|(refine auP ?_)|((refine auR ?_);clear hK K)|(refine auR ?_)|((with_reducible refine hK _ _ ?_);clear hK K)|fail)
   exact ⟨j,by omega,Nat.lt_succ_self j,Fits.of ⟨rfl,rfl,rfl,rfl,rfl,rfl,rfl,trivial⟩ (by
    rw [hs]
    repeat (first|exact SubL.nil|exact SubL.refl _|refine SubL.keep ?_|exact SubL.headA _ _|refine SubL.keepA ?_ _|refine SubL.skip ?_|refine SubL.skipA ?_ _)) rfl⟩
end Go.Proofs.YtkendlnjaopbeaaGreatDoor
namespace Go.Proofs.YtkendlnjaopbeaaGreatDoor
def Pt.pack (p:Pt):Nat:=p.y+2 ^ 255 * (p.x % 2)
def upY (k:Nat):Nat:=k % 2 ^ 255
def upO (k:Nat):Nat:=k / 2 ^ 255
def upV (k:Nat):Nat:=fmul (fsub (fmul (upY k) (upY k)) 1) (finv (fadd (fmul DD (fmul (upY k) (upY k))) 1))
def upOk (k:Nat):Prop:=isSq (upV k)=true∧upY k=flow (upY k)∧¬(upO k=1∧froot (upV k)=0)
def upPt (k:Nat):Pt:=⟨if upO k=1 then fsub 0 (froot (upV k)) else froot (upV k),upY k⟩
end Go.Proofs.YtkendlnjaopbeaaGreatDoor
namespace Go.Proofs.YtkendlnjaopbeaaGreatDoor
open Go.RowKit
set_option linter.unusedVariables false
set_option linter.unusedSimpArgs false
set_option maxRecDepth 8000
theorem bv_zero:Value.agg (List.replicate 32 (Value.int .u8 0)).toArray=bv 0:=by
 have:bytesC 0=(List.replicate 32 (Value.int .u8 0)).toArray:=by
  apply Array.ext_getElem?
  intro i
  by_cases hi:i<32
  ·rw [bytesC_get 0 i hi]
   unfold byteN
   rw [Nat.zero_div,Nat.zero_mod]
   rw [List.getElem?_toArray,List.getElem?_replicate,if_pos hi]
   rfl
  ·rw [Array.getElem?_eq_none (by rw [bytesC_size];omega),Array.getElem?_eq_none (by simp;omega)]
 rw [bv,this]
theorem b32_zero:((Tryz.prog.info? 43).bind (·.zero)).map (·.cells)=some (List.replicate 32 (Value.int .u8 0)).toArray:=by kernel_rfl
theorem b32_zero':(List.replicate 32 (Value.int .u8 0)).toArray=bytesC 0:=by
 have h:=bv_zero
 injection h
instance zc_b32:ZC Tryz.prog 43 (bytesC 0):=⟨b32_zero.trans (congrArg some b32_zero')⟩
theorem or_top:∀ b:Nat,b<128→∀ o:Nat,o<2→bits .or .u8 (b:Int) ((o * 128:Nat):Int)=((b+o * 128:Nat):Int):=by decide +kernel
theorem byteN_top {y:Nat}(hy:y<2 ^ 255):byteN y 31<128:=by
 unfold byteN
 have:y / 2 ^ (8 * 31)<128:=by
  rw [Nat.div_lt_iff_lt_mul (by decide)]
  have e:(2:Nat) ^ 255=128 * 2 ^ (8 * 31):=by decide +kernel
  omega
 omega
theorem byteN_put {y o:Nat}(hy:y<2 ^ 255)(ho:o<2):byteN y 31+o * 128=byteN (y+2 ^ 255 * o) 31∧∀ j,j<32→j≠31→byteN y j=byteN (y+2 ^ 255 * o) j:=by
 have h:=byteN_top hy
 constructor
 ·unfold byteN at *
  have e:y+2 ^ 255 * o=y+2 ^ (8 * 31) * (128 * o):=by
   rw [←Nat.mul_assoc]
  rw [e,Nat.add_mul_div_left _ _ (by decide)]
  omega
 ·intro j hj hne
  unfold byteN
  have e:y+2 ^ 255 * o=y+2 ^ (8 * j) * (256 * (2 ^ (247 - 8 * j) * o)):=by
   rw [←Nat.mul_assoc,←Nat.mul_assoc,show 2 ^ (8 * j) * 256 * 2 ^ (247 - 8 * j)=2 ^ 255 by
    rw [show (256:Nat)=2 ^ 8 from rfl,←Nat.pow_add,←Nat.pow_add];congr 1;omega]
  rw [e,Nat.add_mul_div_left _ _ (Nat.pow_pos (by decide)),Nat.add_mul_mod_self_left]
theorem rowC_cell (x:Nat)(r:List Nat)(k:Nat)(hk:k<4):(rowC (x::r))[k]? = some (.int .u64 (limb x k)):=by
 unfold rowC
 rw [Array.getElem?_append_left (by rw [(numC_cells x).size];exact hk),numC_get x k hk]
set_option maxHeartbeats 2000000 in
theorem pack_yes {p:Pt}(hp:p.lt)(h:p.on)(hy:p.y<2 ^ 255)(w:World):Calls Tryz.prog 33 [pv p].toArray w (Ret (.tuple #[bv p.pack,.int .i64 0]) w):=by
 have OP:=on_yes hp h
 have BB:=bytes_bv p.y hp.2
 have hand:=odd_word p.x
 have ho:p.x % 2<2:=by omega
 have ep:p.pack=p.y+2 ^ 255 * (p.x % 2):=rfl
 generalize p.x % 2=o at *
 obtain ⟨b1,b2⟩:=byteN_put hy ho
 rw [←ep] at b1 b2
 have hput:=bytesC_put p.y p.pack 31 _ (by decide) b1 b2
 have hor:=or_top _ (byteN_top hy) o ho
 have hc:IntKind.u8.wrap ((o:Nat):Int)=(o:Int):=wrap_u8 _ (by omega) (by omega)
 have hs:IntKind.u8.wrap (((o:Nat):Int) * 2 ^ (min (7:Int).toNat (IntKind.bits .u8)))=((o * 128:Nat):Int):=by
  rw [show min (7:Int).toNat (IntKind.bits .u8)=7 from rfl,wrap_u8 _ (by omega) (by omega)];omega
 have g31:=bytesC_get p.y 31 (by decide)
 have x0:=rowC_cell p.x [p.y] 0 (by decide)
 clear ep b1 b2 ho h hp hy
 refine fn_ret (N:=_) Tryz.func33 rfl Tryz.ntmps33 Tryz.results33 (by simp) ?_
 simp only [initS,Nat.reduceAdd,Nat.zero_add]
 repeat' (first|(refine wlR ?_)|(refine wlB ?_)|((with_reducible refine sel_call ?_);refine wl_rd rfl rfl (rd_call rfl rfl rfl (fun w hm=>by with_reducible first|exact OP w|exact BB w)) ?_)|(refine wlE ?_)|(refine efR ?_)|(refine efZCnn ?_;intro n hn)|(refine efBnn ?_;intro n hn)|(refine efB ?_)|(refine wl_skip rfl rfl ?_)|((with_reducible refine wc_seq ?_);intro K hK)|(refine auC ?_)|(refine wc_cond rfl (fun hc=>?_) (fun hc=>?_))|(refine wc_draw (by kernel_rfl) (by kernel_rfl) (by decide +kernel) ?_;intro w0 hw0 hm0;(try simp only [List.append_eq,List.cons_append,List.nil_append]))|(refine auP ?_)|((refine auR ?_);clear hK K)|(refine auR ?_)|((with_reducible refine hK _ _ ?_);clear hK K)|fail)
 first|refine end_ret (ResP.cell rfl ld_whole (ResP.tmp rfl ResP.nil)) ?_|refine end_normal (ResP.cell rfl ld_whole (ResP.tmp rfl ResP.nil)) ?_
 first|rfl|(show _=_;rfl)|(simp only [tupV, *];done)
end Go.Proofs.YtkendlnjaopbeaaGreatDoor
