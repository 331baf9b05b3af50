/- The package aes,walked: a key of another length;blocks are compared;an array of bytes that came in. -/
import Derived.Test.YtkendlnjaopbeaaGreatDoorAesX
import Derived.Test.YtkendlnjaopbeaaGreatDoorJnAH
import Derived.Test.YtkendlnjaopbeaaGreatDoorJnAG
namespace Go.Proofs.YtkendlnjaopbeaaGreatDoor
open Go.RowKit Go.ChangeShapes Go.WideShapes
set_option linter.unusedVariables false
set_option linter.unusedSimpArgs false
set_option maxRecDepth 100000
theorem open_b16l {H:Type}{enc:TypeId×Value→H}{W:World}{r:Reach}{b0:Nat}{v:Value}{d:DataW H}{q:List MemPlace}(hv:Value.okWide Tryz.prog W r b0 23 v)(h:DataW.Trod enc Tryz.prog W 0 (fun _=>true) true 23 v d q) :
  ∃ d:List Nat,ArB 16 v d∧True:=open_arrl (e:=5) (by kernel_rfl) (by kernel_rfl) (by kernel_rfl) (by kernel_rfl) hv h
theorem key_len {m:Nat}(h:m=16∨m=24∨m=32):∃ n,m=4 * n∧(n=4∨n=6∨n=8):=by
 rcases h with h|h|h
 ·exact ⟨4,h,.inl rfl⟩
 ·exact ⟨6,h,.inr (.inl rfl)⟩
 ·exact ⟨8,h,.inr (.inr rfl)⟩
attribute [local irreducible] rwA bys
set_option maxHeartbeats 4000000 in
theorem exp_no (w':World){v:Value}{m:Nat}{p:List Nat}(hn:¬(m=16∨m=24∨m=32))(h:Cb w' v m p) :
  Calls Tryz.prog 25 [v].toArray w' (Ret (.tuple #[kv (List.replicate 240 0) 0,.int .i64 1]) w'):=by
 haveI i1:=h.old
 have hmm:m≤maxLen:=by obtain ⟨_,_,_,h1,h2,_⟩:=i1.cs.ln.out;omega
 simp only [maxLen] at hmm
 clear h
 have a1:(((m:Nat):Int) != 16)=true:=by simp only [bne_iff_ne,ne_eq];omega
 have a2:(((m:Nat):Int) != 24)=true:=by simp only [bne_iff_ne,ne_eq];omega
 have a3:(((m:Nat):Int) != 32)=true:=by simp only [bne_iff_ne,ne_eq];omega
 refine fn_ret (N:=_) Tryz.func25 rfl Tryz.ntmps25 Tryz.results25 (by simp) ?_
 simp only [initS,Nat.reduceAdd,Nat.zero_add]
 repeat' (first|(refine wlS ?_)|(refine wlG ?_)|(refine wlBZ ?_)|(refine wlB ?_)|(refine wlE ?_)|(refine efSvao ?_;intro v oa ho)|(refine efG ?_)|(refine efGnn ?_;intro n hn)|(refine efBnn ?_;intro n hn)|(refine efB ?_)|(refine efBS ?_)|(refine wl_skip rfl rfl ?_)|(refine wdS ?_)|(refine wdG ?_)|(refine wdV ?_)|(refine wdB ?_)|(refine wdE ?_)|(refine wdT ?_)|(refine wdTO ?_)|(refine wd_skip rfl rfl ?_)|((with_reducible refine seld_nil ?_);refine wd_nil hm0 ?_;clear hm0 hw0)|((with_reducible refine wc_seq ?_);intro K hK)|(refine auC ?_)|(refine wc_cond rfl (fun hc=>?_) (fun hc=>?_))|(refine wc_draw (by kernel_rfl) (by kernel_rfl) (by decide +kernel) ?_;intro w0 hw0 hm0;(try simp only [List.append_eq,List.cons_append,List.nil_append]))|(refine auP ?_)|((refine auR ?_);clear hK K)|(refine auR ?_)|((with_reducible refine hK _ _ ?_);clear hK K)|fail)
 first|refine end_ret (ResP.cell rfl ld_wholeG (ResP.tmp rfl ResP.nil)) ?_|refine end_normal (ResP.cell rfl ld_wholeG (ResP.tmp rfl ResP.nil)) ?_
 first|rfl|(show _=_;rfl)|(simp only [tupV, *];done)
end Go.Proofs.YtkendlnjaopbeaaGreatDoor
