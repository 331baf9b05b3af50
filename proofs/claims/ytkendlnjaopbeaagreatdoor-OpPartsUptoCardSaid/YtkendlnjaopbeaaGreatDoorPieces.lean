/- The law's own helper pieces: a text is cut into pieces. -/
import Derived.Test.YtkendlnjaopbeaaGreatDoorJnAD
import Derived.Test.YtkendlnjaopbeaaGreatDoorJnAC
namespace Go.Proofs.YtkendlnjaopbeaaGreatDoor
open Go.RowKit
set_option linter.unusedVariables false
set_option linter.unusedSimpArgs false
theorem CsB.now {W:World}{v:Value}{n:Nat}{p:List Nat}(h:CsB (Old W []) v n p):Cb W v n p:=⟨h.cs.out W fun _ _ _=>rfl,h.ok⟩
structure PcS where
 o:Value
 xs:List Value
 qs:List (List Nat)
def PcS.Ok (x:PcS)(w:World)(p:List Nat)(k:Nat)(oa:Blks):Prop:=OwnL 22 1 x.o x.xs.length x.xs oa∧Els w x.xs x.qs∧x.qs.flatten=p∧x.xs.length≤k
set_option maxRecDepth 100000 in
set_option maxHeartbeats 4000000 in
theorem pieces_c (W w:World)(hb:Below W.heap.size W w){v u:Value}{m k:Nat}{p:List Nat}{zs:List Int}(i1:CsB (Old W []) v m p)(i2:CsF (Old W []) u k (zs.map (Value.int .i64)))(hzl:zs.length=k)(hk:k≤1048576) :
  Calls Tryz.prog 15 [v,u].toArray w (RetO (fun x:PcS=>x.o) (fun x oa=>x.Ok W p (k+1) oa) w):=by
 have hold:=fun N=>hold_old (P:=Tryz.prog) (N:=N) hb
 have hmm:m≤maxLen:=by obtain ⟨_,_,_,h1,h2,_⟩:=i1.cs.ln.out;omega
 simp only [maxLen] at hmm
 have hP:∀ i,i<k→(zs.map (Value.int .i64))[i]? = some (.int .i64 (zs.getD i 0)):=fun i hi=>by simp [List.getD,(by omega:i<zs.length)]
 refine fn_own (N:=_) Tryz.func15 rfl Tryz.ntmps15 Tryz.results15 (by simp) ?_
 simp only [initS,Nat.reduceAdd,Nat.zero_add]
 repeat' (first|(refine wlS ?_)|(refine wlB ?_)|(refine wlE ?_)|(refine efSvvp ?_;intro v hv hp)|(refine efSvao ?_;intro v oa ho)|(refine wl_skip rfl rfl ?_)|((with_reducible refine wc_seq ?_);intro K hK)|(refine auC ?_)|(refine wc_cond rfl (fun hc=>?_) (fun hc=>?_))|(refine wc_draw (by kernel_rfl) (by kernel_rfl) (by decide +kernel) ?_;intro w0 hw0 hm0;(try simp only [List.append_eq,List.cons_append,List.nil_append]))|(refine auP ?_)|((refine auR ?_);clear hK K)|(refine auR ?_)|((with_reducible refine hK _ _ ?_);clear hK K)|fail)
 refine wc_loop (σ:=(Nat×Value×Nat×List Nat)×PcS×Blks) (fun x=>[(0,x.1.2.1),(5,x.2.1.o),(8,u),(9,.int .i64 (k:Int)),(10,.int .i64 (x.1.1:Int))]) (fun x=>x.2.2)
  (fun x=>x.1.1≤k∧CsB (Old W []) x.1.2.1 x.1.2.2.1 x.1.2.2.2∧x.1.2.2.1≤m∧OwnL 22 1 x.2.1.o x.2.1.xs.length x.2.1.xs x.2.2∧Els W x.2.1.xs x.2.1.qs∧x.2.1.qs.flatten++x.1.2.2.2=p∧x.2.1.xs.length≤x.1.1) (fun x=>k - x.1.1)
  ((0,v,m,p),⟨.slice none 0 0,[],[]⟩,[]) ⟨Nat.zero_le _,i1,Nat.le_refl _,OwnL.nil _ _,trivial,rfl,Nat.le_refl _⟩ (Fits.of ⟨rfl,rfl,rfl,rfl,rfl,trivial⟩ (SubL.refl _) rfl) ?_
 clear i1 v hmm
 rintro ⟨⟨i,v,n,q⟩,⟨o,xs,qs⟩,oa⟩ ⟨hi,i1,hn,ho,hel,hq,hx⟩
 dsimp only at hi i1 hn ho hel hq hx ⊢
 by_cases hlt:i<k
 ·have t1:decide ((i:Int)<(k:Int))=true:=decide_eq_true (by omega)
  have k1:IntKind.i64.wrap ((i:Int)+1)=((i+1:Nat):Int):=by rw [wrap_i64 _ (by omega) (by omega)];omega
  have j1:(i:Int)<(k:Int):=by omega
  have g1:=hP i hlt
  generalize zs.getD i 0=z at *
  clear hP
  by_cases hz0:z<0
  ·have t2:decide (z<0)=true:=decide_eq_true hz0
   repeat' (first|(refine wlS ?_)|(refine wlB ?_)|(refine wlE ?_)|(refine efSvvp ?_;intro v hv hp)|(refine efSvao ?_;intro v oa ho)|(refine wl_skip rfl rfl ?_)|((with_reducible refine wc_seq ?_);intro K hK)|(refine auC ?_)|(refine wc_cond rfl (fun hc=>?_) (fun hc=>?_))|(refine wc_draw (by kernel_rfl) (by kernel_rfl) (by decide +kernel) ?_;intro w0 hw0 hm0;(try simp only [List.append_eq,List.cons_append,List.nil_append]))|(refine auP ?_)|((refine auR ?_);clear hK K)|(refine auR ?_)|((with_reducible refine hK _ _ ?_);clear hK K)|fail)
   exact ⟨((i+1,v,n,q),⟨o,xs,qs⟩,oa),⟨hlt,i1,hn,ho,hel,hq,by dsimp only;omega⟩,by dsimp only;omega,Fits.of ⟨rfl,rfl,rfl,rfl,rfl,trivial⟩ (SubL.refl _) rfl⟩
  ·have t2:decide (z<0)=false:=decide_eq_false hz0
   by_cases hzn:z>(n:Int)
   ·have t3:decide (z>(n:Int))=true:=decide_eq_true hzn
    repeat' (first|(refine wlS ?_)|(refine wlB ?_)|(refine wlE ?_)|(refine efSvvp ?_;intro v hv hp)|(refine efSvao ?_;intro v oa ho)|(refine wl_skip rfl rfl ?_)|((with_reducible refine wc_seq ?_);intro K hK)|(refine auC ?_)|(refine wc_cond rfl (fun hc=>?_) (fun hc=>?_))|(refine wc_draw (by kernel_rfl) (by kernel_rfl) (by decide +kernel) ?_;intro w0 hw0 hm0;(try simp only [List.append_eq,List.cons_append,List.nil_append]))|(refine auP ?_)|((refine auR ?_);clear hK K)|(refine auR ?_)|((with_reducible refine hK _ _ ?_);clear hK K)|fail)
    exact ⟨((i+1,v,n,q),⟨o,xs,qs⟩,oa),⟨hlt,i1,hn,ho,hel,hq,by dsimp only;omega⟩,by dsimp only;omega,Fits.of ⟨rfl,rfl,rfl,rfl,rfl,trivial⟩ (SubL.refl _) rfl⟩
   ·have t3:decide (z>(n:Int))=false:=decide_eq_false hzn
    obtain ⟨c,rfl⟩:=Int.eq_ofNat_of_zero_le (Int.not_lt.1 hz0)
    have hc:c≤n:=by omega
    have d1:(q.drop 0).take (c - 0)=q.take c:=by rw [List.drop_zero,Nat.sub_zero]
    have d0:c - 0=c:=rfl
    have d2:(q.drop c).take (n - c)=q.drop c:=List.take_of_length_le (by rw [List.length_drop,i1.ok.len];exact Nat.le_refl _)
    clear hz0 hzn
    repeat' (first|(refine wlS ?_)|(refine wlB ?_)|(refine wlE ?_)|(refine efSvvp ?_;intro v hv hp)|(refine efSvao ?_;intro v oa ho)|(refine wl_skip rfl rfl ?_)|((with_reducible refine wc_seq ?_);intro K hK)|(refine auC ?_)|(refine wc_cond rfl (fun hc=>?_) (fun hc=>?_))|(refine wc_draw (by kernel_rfl) (by kernel_rfl) (by decide +kernel) ?_;intro w0 hw0 hm0;(try simp only [List.append_eq,List.cons_append,List.nil_append]))|(refine auP ?_)|((refine auR ?_);clear hK K)|(refine auR ?_)|((with_reducible refine hK _ _ ?_);clear hK K)|fail)
    rename_i va hva hpa vb ob hob vo
    refine ⟨((i+1,v,n - c,q.drop c),⟨vo,xs++[va],qs++[q.take c]⟩,oa),⟨hlt,hv,by dsimp only;omega,by dsimp only;rw [List.length_append];exact ho,Els.app hel ⟨by rw [hva.ok.len];exact hva.now,trivial⟩,?_,by dsimp only;rw [List.length_append,List.length_singleton];omega⟩,by dsimp only;omega,Fits.of ⟨rfl,rfl,rfl,rfl,rfl,trivial⟩ (SubL.headA _ _) rfl⟩
    dsimp only
    rw [List.flatten_append,List.flatten_cons,List.flatten_nil,List.append_nil,List.append_assoc,List.take_append_drop]
    exact hq
 ·obtain rfl:i=k:=by omega
  have t1:decide ((i:Int)<(i:Int))=false:=decide_eq_false (by omega)
  clear hP
  repeat' (first|(refine wlS ?_)|(refine wlB ?_)|(refine wlE ?_)|(refine efSvvp ?_;intro v hv hp)|(refine efSvao ?_;intro v oa ho)|(refine wl_skip rfl rfl ?_)|((with_reducible refine wc_seq ?_);intro K hK)|(refine auC ?_)|(refine wc_cond rfl (fun hc=>?_) (fun hc=>?_))|(refine wc_draw (by kernel_rfl) (by kernel_rfl) (by decide +kernel) ?_;intro w0 hw0 hm0;(try simp only [List.append_eq,List.cons_append,List.nil_append]))|(refine auP ?_)|((refine auR ?_);clear hK K)|(refine auR ?_)|((with_reducible refine hK _ _ ?_);clear hK K)|fail)
  first|refine end_ret (ResP.tmp rfl ResP.nil) ?_|refine end_normal (ResP.tmp rfl ResP.nil) ?_
  (try dsimp only [tupV])
  rename_i va ob0 hob0 vb ob hob
  refine ⟨⟨v,xs++[va],qs++[q]⟩,oa,rfl,⟨by dsimp only;rw [List.length_append];exact ho,Els.app hel ⟨by rw [i1.ok.len];exact i1.now,trivial⟩,?_,by dsimp only;rw [List.length_append,List.length_singleton];omega⟩,SubL.headA _ _⟩
  dsimp only
  rw [List.flatten_append,List.flatten_cons,List.flatten_nil,List.append_nil]
  exact hq
end Go.Proofs.YtkendlnjaopbeaaGreatDoor
