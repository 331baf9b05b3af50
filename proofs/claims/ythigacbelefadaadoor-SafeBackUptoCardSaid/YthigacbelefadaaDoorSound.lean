/- rule.sound,walked: a closure in a closure. -/
import Derived.Test.YthigacbelefadaaDoorJnAE
namespace Go.Proofs.YthigacbelefadaaDoor
open Go.RowKit
set_option linter.unusedVariables false
set_option linter.unusedSimpArgs false
set_option maxRecDepth 100000
set_option maxHeartbeats 4000000 in
theorem snd11_c (w:World){v:Value}{l:List Att}{g:Nat}{k:Int}(h:Ats w v l)(hg:w.heap[g]? = some (.cells #[v] 47)):Calls Tryd.prog 58 [.int .i64 k,ptr g].toArray w (Ret (.bool (isA (abs l) k)) w):=by
 haveI:=h.old
 haveI:One v:=by obtain ⟨_,_,rfl,_⟩:=h.cs.ln.out;exact ⟨rfl⟩
 have hc:w.cell? ⟨g,0,none⟩=some v:=by simp [World.cell?,hg]
 have IS:=fun w' (h:Ats w' v l)=>is_c w' h (k:=k) rfl
 clear h hg
 generalize isA (abs l) k=r at *
 refine fn_ret (N:=_) Tryd.func58 rfl Tryd.ntmps58 Tryd.results58 (by simp) ?_
 simp only [initS,Nat.reduceAdd,Nat.zero_add]
 repeat' (first|(refine wlS ?_)|(refine wlB ?_)|(refine wlO ?_)|((with_reducible refine sel_call ?_);refine wl_rd rfl rfl (rd_call rfl rfl rfl (fun w hm=>by with_reducible exact IS w (VwT.out w hm))) ?_)|(refine wlE ?_)|(refine efSvao ?_;intro v oa ho)|(refine wl_skip rfl rfl ?_)|((with_reducible refine wc_seq ?_);intro K hK)|(refine auC ?_)|(refine wc_cond rfl (fun hc=>?_) (fun hc=>?_))|(refine wc_draw (by kernel_rfl) (by kernel_rfl) (by decide +kernel) ?_;intro w0 hw0 hm0;(try simp only [List.append_eq,List.cons_append,List.nil_append]))|(refine auP ?_)|((refine auR ?_);clear hK K)|(refine auR ?_)|((with_reducible refine hK _ _ ?_);clear hK K)|fail)
 first|refine end_ret (ResP.tmp rfl ResP.nil) ?_|refine end_normal (ResP.tmp rfl ResP.nil) ?_
 first|rfl|(show _=_;rfl)|(simp only [tupV, *];done)
def anyA (l:List Ab)(ks:List Int):Bool:=ks.any fun k=>isA l k
def idxA (l:List Ab)(ks:List Int):Int:=match ks.findIdx? fun k=>isA l k with
 | some i=>(i:Int)
 | none=>-1
theorem idxA_any (l:List Ab)(ks:List Int):decide (idxA l ks≥0)=anyA l ks:=by
 unfold idxA anyA
 cases h:ks.findIdx? fun k=>isA l k with
 | none=>
  rw [List.findIdx?_eq_none_iff] at h
  rw [Bool.eq_iff_iff,decide_eq_true_iff,List.any_eq_true]
  refine ⟨fun h'=>absurd h' (by decide),fun ⟨x,hx,hp⟩=>?_⟩
  rw [h x hx] at hp;cases hp
 | some i=>
  rw [List.findIdx?_eq_some_iff_getElem] at h
  obtain ⟨h1,h2,_⟩:=h
  rw [Bool.eq_iff_iff,decide_eq_true_iff,List.any_eq_true]
  exact ⟨fun _=>⟨_,List.getElem_mem h1,h2⟩,fun _=>by show ((i:Nat):Int)≥0;omega⟩
set_option maxHeartbeats 4000000 in
theorem ixi_c (w:World){v u:Value}{l:List Att}{ks:List Int}{g:Nat}(h:Ats w v l)(hg:w.heap[g]? = some (.cells #[v] 47))(hu:Cs w u ks.length (ksC ks))(hn:ks.length≤1048576) :
  Calls Tryd.prog 68 [u,.func (.func 58) #[] [ptr g].toArray].toArray w (Ret (.int .i64 (idxA (abs l) ks)) w):=by
 have i0:=hu.old
 have IK:∀ {k:Int} w',Below w.heap.size w w'→Calls Tryd.prog 58 ([Value.int .i64 k]++[ptr g]).toArray w' (Ret (.bool (isA (abs l) k)) w'):=fun {k} w' hb=>snd11_c w' (h.below hb) (by rw [hb.block g (blk_lt hg)];exact hg)
 clear h hg hu
 refine fn_ret (N:=_) Tryd.func68 rfl Tryd.ntmps68 Tryd.results68 (by simp) ?_
 simp only [initS,Nat.reduceAdd,Nat.zero_add]
 repeat' (first|(refine wlS ?_)|(refine wlB ?_)|(refine wlE ?_)|(refine efSvao ?_;intro v oa ho)|(refine wl_skip rfl rfl ?_)|((with_reducible refine wc_seq ?_);intro K hK)|(refine auC ?_)|(refine wc_cond rfl (fun hc=>?_) (fun hc=>?_))|(refine wc_draw (by kernel_rfl) (by kernel_rfl) (by decide +kernel) ?_;intro w0 hw0 hm0;(try simp only [List.append_eq,List.cons_append,List.nil_append]))|(refine auP ?_)|((refine auR ?_);clear hK K)|(refine auR ?_)|((with_reducible refine hK _ _ ?_);clear hK K)|fail)
 refine wc_loop (σ:=Nat) (fun i=>[(0,u),(1,.func (.func 58) #[] [ptr g].toArray),(7,.int .i64 (ks.length:Int)),(8,.int .i64 (i:Int))]) (fun _=>[])
  (fun i=>i≤ks.length∧∀ j k,j<i→ks[j]? = some k→isA (abs l) k=false) (fun i=>ks.length - i) 0 ⟨Nat.zero_le _,fun j k hj=>absurd hj (by omega)⟩ (Fits.of ⟨rfl,rfl,rfl,rfl,trivial⟩ .nil rfl) ?_
 rintro i ⟨hi,hno⟩
 by_cases hlt:i<ks.length
 ·obtain ⟨k,hk⟩:∃ k,ks[i]? = some k:=⟨ks[i],List.getElem?_eq_getElem hlt⟩
  have hget:=ksC_get hk
  have t1:decide ((i:Int)<(ks.length:Int))=true:=decide_eq_true (by omega)
  have t2:IntKind.i64.wrap ((i:Int)+1)=((i+1:Nat):Int):=by rw [wrap_i64 _ (by omega) (by omega)];omega
  have j1:(i:Int)<(ks.length:Int):=by omega
  have IK1:=fun w' hb=>IK (k:=k) w' hb
  cases hz:isA (abs l) k with
  | true=>
   rw [hz] at IK1
   have hf:idxA (abs l) ks=(i:Int):=by
    have:ks.findIdx? (fun k=>isA (abs l) k)=some i:=by
     rw [List.findIdx?_eq_some_iff_getElem]
     refine ⟨hlt,?_,fun j hj=>?_⟩
     ·have:=(List.getElem?_eq_some_iff.1 hk).2;rw [this];exact hz
     ·have:=hno j _ hj (List.getElem?_eq_getElem (by omega));simpa using this
    rw [idxA,this]
   rw [hf]
   clear IK hno
   repeat' (first|(refine wlS ?_)|(refine wlB ?_)|((with_reducible refine sel_call ?_);refine wl_rd rfl rfl (rd_callc rfl rfl rfl rfl (fun w hm=>by with_reducible exact IK1 w (hm.below rfl))) ?_)|(refine wlE ?_)|(refine efSvao ?_;intro v oa ho)|(refine wl_skip rfl rfl ?_)|((with_reducible refine wc_seq ?_);intro K hK)|(refine auC ?_)|(refine wc_cond rfl (fun hc=>?_) (fun hc=>?_))|(refine wc_draw (by kernel_rfl) (by kernel_rfl) (by decide +kernel) ?_;intro w0 hw0 hm0;(try simp only [List.append_eq,List.cons_append,List.nil_append]))|(refine auP ?_)|((refine auR ?_);clear hK K)|(refine auR ?_)|((with_reducible refine hK _ _ ?_);clear hK K)|fail)
   first|refine end_ret (ResP.tmp rfl ResP.nil) ?_|refine end_normal (ResP.tmp rfl ResP.nil) ?_
   first|rfl|(show _=_;rfl)|(simp only [tupV, *];done)
  | false=>
   rw [hz] at IK1
   clear IK
   repeat' (first|(refine wlS ?_)|(refine wlB ?_)|((with_reducible refine sel_call ?_);refine wl_rd rfl rfl (rd_callc rfl rfl rfl rfl (fun w hm=>by with_reducible exact IK1 w (hm.below rfl))) ?_)|(refine wlE ?_)|(refine efSvao ?_;intro v oa ho)|(refine wl_skip rfl rfl ?_)|((with_reducible refine wc_seq ?_);intro K hK)|(refine auC ?_)|(refine wc_cond rfl (fun hc=>?_) (fun hc=>?_))|(refine wc_draw (by kernel_rfl) (by kernel_rfl) (by decide +kernel) ?_;intro w0 hw0 hm0;(try simp only [List.append_eq,List.cons_append,List.nil_append]))|(refine auP ?_)|((refine auR ?_);clear hK K)|(refine auR ?_)|((with_reducible refine hK _ _ ?_);clear hK K)|fail)
   refine ⟨i+1,⟨hlt,fun j x hj hjx=>?_⟩,by omega,Fits.of ⟨rfl,rfl,rfl,rfl,trivial⟩ .nil rfl⟩
   rcases Nat.lt_or_ge j i with h1|h1
   ·exact hno j x h1 hjx
   ·obtain rfl:j=i:=by omega
    rw [hk] at hjx
    cases hjx
    exact hz
 ·obtain rfl:i=ks.length:=by omega
  have t1:decide ((ks.length:Int)<(ks.length:Int))=false:=decide_eq_false (by omega)
  have hf:idxA (abs l) ks = -1:=by
   have:ks.findIdx? (fun k=>isA (abs l) k)=none:=by
    rw [List.findIdx?_eq_none_iff]
    intro x hx
    obtain ⟨j,hj,he⟩:=List.mem_iff_getElem.1 hx
    exact hno j x hj (by rw [List.getElem?_eq_getElem hj,he])
   rw [idxA,this]
  rw [hf]
  clear IK hno
  repeat' (first|(refine wlS ?_)|(refine wlB ?_)|(refine wlE ?_)|(refine efSvao ?_;intro v oa ho)|(refine wl_skip rfl rfl ?_)|((with_reducible refine wc_seq ?_);intro K hK)|(refine auC ?_)|(refine wc_cond rfl (fun hc=>?_) (fun hc=>?_))|(refine wc_draw (by kernel_rfl) (by kernel_rfl) (by decide +kernel) ?_;intro w0 hw0 hm0;(try simp only [List.append_eq,List.cons_append,List.nil_append]))|(refine auP ?_)|((refine auR ?_);clear hK K)|(refine auR ?_)|((with_reducible refine hK _ _ ?_);clear hK K)|fail)
  first|refine end_ret (ResP.tmp rfl ResP.nil) ?_|refine end_normal (ResP.tmp rfl ResP.nil) ?_
  first|rfl|(show _=_;rfl)|(simp only [tupV, *];done)
set_option maxHeartbeats 4000000 in
theorem cti_c (w:World){v u:Value}{l:List Att}{ks:List Int}{g:Nat}(h:Ats w v l)(hg:w.heap[g]? = some (.cells #[v] 47))(hu:Cs w u ks.length (ksC ks))(hn:ks.length≤1048576) :
  Calls Tryd.prog 57 [u,.func (.func 58) #[] [ptr g].toArray].toArray w (Ret (.bool (anyA (abs l) ks)) w):=by
 have i0:=hu.old
 have IX:=fun w' (hb:Below w.heap.size w w') (hu:Cs w' u ks.length (ksC ks))=>ixi_c w' (h.below hb) (by rw [hb.block g (blk_lt hg)];exact hg) hu hn
 have hd:=idxA_any (abs l) ks
 clear h hg hu
 generalize idxA (abs l) ks=ix at *
 generalize anyA (abs l) ks=r at *
 refine fn_ret (N:=_) Tryd.func57 rfl Tryd.ntmps57 Tryd.results57 (by simp) ?_
 simp only [initS,Nat.reduceAdd,Nat.zero_add]
 repeat' (first|(refine wlS ?_)|(refine wlB ?_)|((with_reducible refine sel_call ?_);refine wl_rd rfl rfl (rd_call rfl rfl rfl (fun w hm=>by with_reducible exact IX w (hm.below rfl) (Vw.out w hm))) ?_)|(refine wlE ?_)|(refine efSvao ?_;intro v oa ho)|(refine wl_skip rfl rfl ?_)|((with_reducible refine wc_seq ?_);intro K hK)|(refine auC ?_)|(refine wc_cond rfl (fun hc=>?_) (fun hc=>?_))|(refine wc_draw (by kernel_rfl) (by kernel_rfl) (by decide +kernel) ?_;intro w0 hw0 hm0;(try simp only [List.append_eq,List.cons_append,List.nil_append]))|(refine auP ?_)|((refine auR ?_);clear hK K)|(refine auR ?_)|((with_reducible refine hK _ _ ?_);clear hK K)|fail)
 first|refine end_ret (ResP.tmp rfl ResP.nil) ?_|refine end_normal (ResP.tmp rfl ResP.nil) ?_
 first|rfl|(show _=_;rfl)|(simp only [tupV, *];done)
set_option maxHeartbeats 4000000 in
theorem snd1_c (w:World){v u:Value}{l:List Att}{ks:List Int}{g:Nat}(h:Ats w v l)(hg:w.heap[g]? = some (.cells #[v] 47))(hu:Cs w u ks.length (ksC ks))(hn:ks.length≤1048576) :
  Calls Tryd.prog 56 [u,ptr g].toArray w (Ret (.bool (anyA (abs l) ks)) w):=by
 have i0:=hu.old
 have CX:=fun w' (hb:Below w.heap.size w w') (hu:Cs w' u ks.length (ksC ks))=>cti_c w' (h.below hb) (by rw [hb.block g (blk_lt hg)];exact hg) hu hn
 clear h hg hu
 generalize anyA (abs l) ks=r at *
 refine fn_ret (N:=_) Tryd.func56 rfl Tryd.ntmps56 Tryd.results56 (by simp) ?_
 simp only [initS,Nat.reduceAdd,Nat.zero_add]
 repeat' (first|(refine wlS ?_)|(refine wlB ?_)|(refine wlMF ?_)|((with_reducible refine sel_call ?_);refine wl_rd rfl rfl (rd_call rfl rfl rfl (fun w hm=>by with_reducible exact CX w (hm.below rfl) (Vw.out w hm))) ?_)|(refine wlE ?_)|(refine efSvao ?_;intro v oa ho)|(refine wl_skip rfl rfl ?_)|((with_reducible refine wc_seq ?_);intro K hK)|(refine auC ?_)|(refine wc_cond rfl (fun hc=>?_) (fun hc=>?_))|(refine wc_draw (by kernel_rfl) (by kernel_rfl) (by decide +kernel) ?_;intro w0 hw0 hm0;(try simp only [List.append_eq,List.cons_append,List.nil_append]))|(refine auP ?_)|((refine auR ?_);clear hK K)|(refine auR ?_)|((with_reducible refine hK _ _ ?_);clear hK K)|fail)
 first|refine end_ret (ResP.tmp rfl ResP.nil) ?_|refine end_normal (ResP.tmp rfl ResP.nil) ?_
 first|rfl|(show _=_;rfl)|(simp only [tupV, *];done)
set_option maxHeartbeats 8000000 in
theorem sound_p2 (w:World){v:Value}{l:List Att}(h:Ats w v l)(h10:anyA (abs l) [10]=true)(h8:anyA (abs l) [8]=false):Calls Tryd.prog 43 [v].toArray w (Ret (.bool false) w):=by
 obtain ⟨pv,cv,rfl,_⟩:=h.cs.ln.out
 haveI:=h.old
 have SN:∀ {g:Nat} {u:Value} {ks:List Int} {b:Bool} (hb:anyA (abs l) ks=b) (hn:ks.length≤1048576) w',Ats w' (.slice pv l.length cv) l→w'.heap[g]? = some (.cells #[.slice pv l.length cv] 47)→Cs w' u ks.length (ksC ks)→Calls Tryd.prog 56 ([u]++[ptr g]).toArray w' (Ret (.bool b) w'):=fun hb hn w' h1 h2 h3=>by
  have:=snd1_c w' h1 h2 h3 hn
  rwa [hb] at this
 have S10:=fun {g:Nat} {u:Value} w' h1 h2 (h3:Cs w' u 1 [.int .i64 10])=>SN (g:=g) (u:=u) h10 (by decide) w' h1 h2 h3
 have S8:=fun {g:Nat} {u:Value} w' h1 h2 (h3:Cs w' u 1 [.int .i64 8])=>SN (g:=g) (u:=u) h8 (by decide) w' h1 h2 h3
 clear SN h h10 h8
 refine fn_ret (N:=_) Tryd.func43 rfl Tryd.ntmps43 Tryd.results43 (by simp) ?_
 simp only [initS,Nat.reduceAdd,Nat.zero_add]
 repeat' (first|(refine wlS ?_)|(refine wlB ?_)|(refine wlMF ?_)|((with_reducible refine sel_call ?_);first|refine wl_rd rfl rfl (rd_callc rfl rfl rfl rfl (fun w hm=>by with_reducible exact S10 w (VwT.out w hm) (Has.sees hm) (Vw.out w hm))) ?_|refine wl_rd rfl rfl (rd_callc rfl rfl rfl rfl (fun w hm=>by with_reducible exact S8 w (VwT.out w hm) (Has.sees hm) (Vw.out w hm))) ?_)|(refine wlE ?_)|(refine efSvao ?_;intro v oa ho)|(refine efBnn ?_;intro n hn)|(refine wl_skip rfl rfl ?_)|((with_reducible refine wc_seq ?_);intro K hK)|(refine auC ?_)|(refine wc_cond rfl (fun hc=>?_) (fun hc=>?_))|(refine wc_draw (by kernel_rfl) (by kernel_rfl) (by decide +kernel) ?_;intro w0 hw0 hm0;(try simp only [List.append_eq,List.cons_append,List.nil_append]))|(refine auP ?_)|((refine auR ?_);clear hK K)|(refine auR ?_)|((with_reducible refine hK _ _ ?_);clear hK K)|fail)
 first|refine end_ret (ResP.tmp rfl ResP.nil) ?_|refine end_normal (ResP.tmp rfl ResP.nil) ?_
 first|rfl|(show _=_;rfl)|(simp only [tupV, *];done)
set_option maxHeartbeats 8000000 in
theorem sound_1q2 (w:World){v:Value}{l:List Att}(h:Ats w v l)(h10:anyA (abs l) [10]=false)(h11:anyA (abs l) [11]=true)(h9:anyA (abs l) [9]=true):Calls Tryd.prog 43 [v].toArray w (Ret (.bool false) w):=by
 obtain ⟨pv,cv,rfl,_⟩:=h.cs.ln.out
 haveI:=h.old
 have SN:∀ {g:Nat} {u:Value} {ks:List Int} {b:Bool} (hb:anyA (abs l) ks=b) (hn:ks.length≤1048576) w',Ats w' (.slice pv l.length cv) l→w'.heap[g]? = some (.cells #[.slice pv l.length cv] 47)→Cs w' u ks.length (ksC ks)→Calls Tryd.prog 56 ([u]++[ptr g]).toArray w' (Ret (.bool b) w'):=fun hb hn w' h1 h2 h3=>by
  have:=snd1_c w' h1 h2 h3 hn
  rwa [hb] at this
 have S10:=fun {g:Nat} {u:Value} w' h1 h2 (h3:Cs w' u 1 [.int .i64 10])=>SN (g:=g) (u:=u) h10 (by decide) w' h1 h2 h3
 have S11:=fun {g:Nat} {u:Value} w' h1 h2 (h3:Cs w' u 1 [.int .i64 11])=>SN (g:=g) (u:=u) h11 (by decide) w' h1 h2 h3
 have S9:=fun {g:Nat} {u:Value} w' h1 h2 (h3:Cs w' u 1 [.int .i64 9])=>SN (g:=g) (u:=u) h9 (by decide) w' h1 h2 h3
 clear SN h h10 h11 h9
 refine fn_ret (N:=_) Tryd.func43 rfl Tryd.ntmps43 Tryd.results43 (by simp) ?_
 simp only [initS,Nat.reduceAdd,Nat.zero_add]
 repeat' (first|(refine wlS ?_)|(refine wlB ?_)|(refine wlMF ?_)|((with_reducible refine sel_call ?_);first|refine wl_rd rfl rfl (rd_callc rfl rfl rfl rfl (fun w hm=>by with_reducible exact S10 w (VwT.out w hm) (Has.sees hm) (Vw.out w hm))) ?_|refine wl_rd rfl rfl (rd_callc rfl rfl rfl rfl (fun w hm=>by with_reducible exact S11 w (VwT.out w hm) (Has.sees hm) (Vw.out w hm))) ?_|refine wl_rd rfl rfl (rd_callc rfl rfl rfl rfl (fun w hm=>by with_reducible exact S9 w (VwT.out w hm) (Has.sees hm) (Vw.out w hm))) ?_)|(refine wlE ?_)|(refine efSvao ?_;intro v oa ho)|(refine efBnn ?_;intro n hn)|(refine wl_skip rfl rfl ?_)|((with_reducible refine wc_seq ?_);intro K hK)|(refine auC ?_)|(refine wc_cond rfl (fun hc=>?_) (fun hc=>?_))|(refine wc_draw (by kernel_rfl) (by kernel_rfl) (by decide +kernel) ?_;intro w0 hw0 hm0;(try simp only [List.append_eq,List.cons_append,List.nil_append]))|(refine auP ?_)|((refine auR ?_);clear hK K)|(refine auR ?_)|((with_reducible refine hK _ _ ?_);clear hK K)|fail)
 first|refine end_ret (ResP.tmp rfl ResP.nil) ?_|refine end_normal (ResP.tmp rfl ResP.nil) ?_
 first|rfl|(show _=_;rfl)|(simp only [tupV, *];done)
set_option maxHeartbeats 8000000 in
theorem sound_1q1 (w:World){v:Value}{l:List Att}{b16:Bool}{b13:Bool}(h:Ats w v l)(h10:anyA (abs l) [10]=false)(h11:anyA (abs l) [11]=false)(h16:anyA (abs l) [16,17]=b16)(h13:anyA (abs l) [13,14,15]=b13):Calls Tryd.prog 43 [v].toArray w (Ret (.bool (!b16 || !b13)) w):=by
 obtain ⟨pv,cv,rfl,_⟩:=h.cs.ln.out
 haveI:=h.old
 have SN:∀ {g:Nat} {u:Value} {ks:List Int} {b:Bool} (hb:anyA (abs l) ks=b) (hn:ks.length≤1048576) w',Ats w' (.slice pv l.length cv) l→w'.heap[g]? = some (.cells #[.slice pv l.length cv] 47)→Cs w' u ks.length (ksC ks)→Calls Tryd.prog 56 ([u]++[ptr g]).toArray w' (Ret (.bool b) w'):=fun hb hn w' h1 h2 h3=>by
  have:=snd1_c w' h1 h2 h3 hn
  rwa [hb] at this
 have S10:=fun {g:Nat} {u:Value} w' h1 h2 (h3:Cs w' u 1 [.int .i64 10])=>SN (g:=g) (u:=u) h10 (by decide) w' h1 h2 h3
 have S11:=fun {g:Nat} {u:Value} w' h1 h2 (h3:Cs w' u 1 [.int .i64 11])=>SN (g:=g) (u:=u) h11 (by decide) w' h1 h2 h3
 have S16:=fun {g:Nat} {u:Value} w' h1 h2 (h3:Cs w' u 2 [.int .i64 16,.int .i64 17])=>SN (g:=g) (u:=u) h16 (by decide) w' h1 h2 h3
 have S13:=fun {g:Nat} {u:Value} w' h1 h2 (h3:Cs w' u 3 [.int .i64 13,.int .i64 14,.int .i64 15])=>SN (g:=g) (u:=u) h13 (by decide) w' h1 h2 h3
 clear SN h h10 h11 h16 h13
 cases b16 <;> cases b13
 all_goals (
  refine fn_ret (N:=_) Tryd.func43 rfl Tryd.ntmps43 Tryd.results43 (by simp) ?_
  simp only [initS,Nat.reduceAdd,Nat.zero_add])
 all_goals (
  repeat' (first|(refine wlS ?_)|(refine wlB ?_)|(refine wlMF ?_)|((with_reducible refine sel_call ?_);first|refine wl_rd rfl rfl (rd_callc rfl rfl rfl rfl (fun w hm=>by with_reducible exact S10 w (VwT.out w hm) (Has.sees hm) (Vw.out w hm))) ?_|refine wl_rd rfl rfl (rd_callc rfl rfl rfl rfl (fun w hm=>by with_reducible exact S11 w (VwT.out w hm) (Has.sees hm) (Vw.out w hm))) ?_|refine wl_rd rfl rfl (rd_callc rfl rfl rfl rfl (fun w hm=>by with_reducible exact S16 w (VwT.out w hm) (Has.sees hm) (Vw.out w hm))) ?_|refine wl_rd rfl rfl (rd_callc rfl rfl rfl rfl (fun w hm=>by with_reducible exact S13 w (VwT.out w hm) (Has.sees hm) (Vw.out w hm))) ?_)|(refine wlE ?_)|(refine efSvao ?_;intro v oa ho)|(refine efBnn ?_;intro n hn)|(refine wl_skip rfl rfl ?_)|((with_reducible refine wc_seq ?_);intro K hK)|(refine auC ?_)|(refine wc_cond rfl (fun hc=>?_) (fun hc=>?_))|(refine wc_draw (by kernel_rfl) (by kernel_rfl) (by decide +kernel) ?_;intro w0 hw0 hm0;(try simp only [List.append_eq,List.cons_append,List.nil_append]))|(refine auP ?_)|((refine auR ?_);clear hK K)|(refine auR ?_)|((with_reducible refine hK _ _ ?_);clear hK K)|fail))
 all_goals (
  first|refine end_ret (ResP.tmp rfl ResP.nil) ?_|refine end_normal (ResP.tmp rfl ResP.nil) ?_
  first|rfl|(show _=_;rfl)|(simp only [tupV, *];done))
set_option maxHeartbeats 8000000 in
theorem sound_1q3 (w:World){v:Value}{l:List Att}{b16:Bool}{b13:Bool}(h:Ats w v l)(h10:anyA (abs l) [10]=false)(h11:anyA (abs l) [11]=true)(h9:anyA (abs l) [9]=false)(h16:anyA (abs l) [16,17]=b16)(h13:anyA (abs l) [13,14,15]=b13):Calls Tryd.prog 43 [v].toArray w (Ret (.bool (!b16 || !b13)) w):=by
 obtain ⟨pv,cv,rfl,_⟩:=h.cs.ln.out
 haveI:=h.old
 have SN:∀ {g:Nat} {u:Value} {ks:List Int} {b:Bool} (hb:anyA (abs l) ks=b) (hn:ks.length≤1048576) w',Ats w' (.slice pv l.length cv) l→w'.heap[g]? = some (.cells #[.slice pv l.length cv] 47)→Cs w' u ks.length (ksC ks)→Calls Tryd.prog 56 ([u]++[ptr g]).toArray w' (Ret (.bool b) w'):=fun hb hn w' h1 h2 h3=>by
  have:=snd1_c w' h1 h2 h3 hn
  rwa [hb] at this
 have S10:=fun {g:Nat} {u:Value} w' h1 h2 (h3:Cs w' u 1 [.int .i64 10])=>SN (g:=g) (u:=u) h10 (by decide) w' h1 h2 h3
 have S11:=fun {g:Nat} {u:Value} w' h1 h2 (h3:Cs w' u 1 [.int .i64 11])=>SN (g:=g) (u:=u) h11 (by decide) w' h1 h2 h3
 have S9:=fun {g:Nat} {u:Value} w' h1 h2 (h3:Cs w' u 1 [.int .i64 9])=>SN (g:=g) (u:=u) h9 (by decide) w' h1 h2 h3
 have S16:=fun {g:Nat} {u:Value} w' h1 h2 (h3:Cs w' u 2 [.int .i64 16,.int .i64 17])=>SN (g:=g) (u:=u) h16 (by decide) w' h1 h2 h3
 have S13:=fun {g:Nat} {u:Value} w' h1 h2 (h3:Cs w' u 3 [.int .i64 13,.int .i64 14,.int .i64 15])=>SN (g:=g) (u:=u) h13 (by decide) w' h1 h2 h3
 clear SN h h10 h11 h9 h16 h13
 cases b16 <;> cases b13
 all_goals (
  refine fn_ret (N:=_) Tryd.func43 rfl Tryd.ntmps43 Tryd.results43 (by simp) ?_
  simp only [initS,Nat.reduceAdd,Nat.zero_add])
 all_goals (
  repeat' (first|(refine wlS ?_)|(refine wlB ?_)|(refine wlMF ?_)|((with_reducible refine sel_call ?_);first|refine wl_rd rfl rfl (rd_callc rfl rfl rfl rfl (fun w hm=>by with_reducible exact S10 w (VwT.out w hm) (Has.sees hm) (Vw.out w hm))) ?_|refine wl_rd rfl rfl (rd_callc rfl rfl rfl rfl (fun w hm=>by with_reducible exact S11 w (VwT.out w hm) (Has.sees hm) (Vw.out w hm))) ?_|refine wl_rd rfl rfl (rd_callc rfl rfl rfl rfl (fun w hm=>by with_reducible exact S9 w (VwT.out w hm) (Has.sees hm) (Vw.out w hm))) ?_|refine wl_rd rfl rfl (rd_callc rfl rfl rfl rfl (fun w hm=>by with_reducible exact S16 w (VwT.out w hm) (Has.sees hm) (Vw.out w hm))) ?_|refine wl_rd rfl rfl (rd_callc rfl rfl rfl rfl (fun w hm=>by with_reducible exact S13 w (VwT.out w hm) (Has.sees hm) (Vw.out w hm))) ?_)|(refine wlE ?_)|(refine efSvao ?_;intro v oa ho)|(refine efBnn ?_;intro n hn)|(refine wl_skip rfl rfl ?_)|((with_reducible refine wc_seq ?_);intro K hK)|(refine auC ?_)|(refine wc_cond rfl (fun hc=>?_) (fun hc=>?_))|(refine wc_draw (by kernel_rfl) (by kernel_rfl) (by decide +kernel) ?_;intro w0 hw0 hm0;(try simp only [List.append_eq,List.cons_append,List.nil_append]))|(refine auP ?_)|((refine auR ?_);clear hK K)|(refine auR ?_)|((with_reducible refine hK _ _ ?_);clear hK K)|fail))
 all_goals (
  first|refine end_ret (ResP.tmp rfl ResP.nil) ?_|refine end_normal (ResP.tmp rfl ResP.nil) ?_
  first|rfl|(show _=_;rfl)|(simp only [tupV, *];done))
set_option maxHeartbeats 8000000 in
theorem sound_3q2 (w:World){v:Value}{l:List Att}(h:Ats w v l)(h10:anyA (abs l) [10]=true)(h8:anyA (abs l) [8]=true)(h11:anyA (abs l) [11]=true)(h9:anyA (abs l) [9]=true):Calls Tryd.prog 43 [v].toArray w (Ret (.bool false) w):=by
 obtain ⟨pv,cv,rfl,_⟩:=h.cs.ln.out
 haveI:=h.old
 have SN:∀ {g:Nat} {u:Value} {ks:List Int} {b:Bool} (hb:anyA (abs l) ks=b) (hn:ks.length≤1048576) w',Ats w' (.slice pv l.length cv) l→w'.heap[g]? = some (.cells #[.slice pv l.length cv] 47)→Cs w' u ks.length (ksC ks)→Calls Tryd.prog 56 ([u]++[ptr g]).toArray w' (Ret (.bool b) w'):=fun hb hn w' h1 h2 h3=>by
  have:=snd1_c w' h1 h2 h3 hn
  rwa [hb] at this
 have S10:=fun {g:Nat} {u:Value} w' h1 h2 (h3:Cs w' u 1 [.int .i64 10])=>SN (g:=g) (u:=u) h10 (by decide) w' h1 h2 h3
 have S8:=fun {g:Nat} {u:Value} w' h1 h2 (h3:Cs w' u 1 [.int .i64 8])=>SN (g:=g) (u:=u) h8 (by decide) w' h1 h2 h3
 have S11:=fun {g:Nat} {u:Value} w' h1 h2 (h3:Cs w' u 1 [.int .i64 11])=>SN (g:=g) (u:=u) h11 (by decide) w' h1 h2 h3
 have S9:=fun {g:Nat} {u:Value} w' h1 h2 (h3:Cs w' u 1 [.int .i64 9])=>SN (g:=g) (u:=u) h9 (by decide) w' h1 h2 h3
 clear SN h h10 h8 h11 h9
 refine fn_ret (N:=_) Tryd.func43 rfl Tryd.ntmps43 Tryd.results43 (by simp) ?_
 simp only [initS,Nat.reduceAdd,Nat.zero_add]
 repeat' (first|(refine wlS ?_)|(refine wlB ?_)|(refine wlMF ?_)|((with_reducible refine sel_call ?_);first|refine wl_rd rfl rfl (rd_callc rfl rfl rfl rfl (fun w hm=>by with_reducible exact S10 w (VwT.out w hm) (Has.sees hm) (Vw.out w hm))) ?_|refine wl_rd rfl rfl (rd_callc rfl rfl rfl rfl (fun w hm=>by with_reducible exact S8 w (VwT.out w hm) (Has.sees hm) (Vw.out w hm))) ?_|refine wl_rd rfl rfl (rd_callc rfl rfl rfl rfl (fun w hm=>by with_reducible exact S11 w (VwT.out w hm) (Has.sees hm) (Vw.out w hm))) ?_|refine wl_rd rfl rfl (rd_callc rfl rfl rfl rfl (fun w hm=>by with_reducible exact S9 w (VwT.out w hm) (Has.sees hm) (Vw.out w hm))) ?_)|(refine wlE ?_)|(refine efSvao ?_;intro v oa ho)|(refine efBnn ?_;intro n hn)|(refine wl_skip rfl rfl ?_)|((with_reducible refine wc_seq ?_);intro K hK)|(refine auC ?_)|(refine wc_cond rfl (fun hc=>?_) (fun hc=>?_))|(refine wc_draw (by kernel_rfl) (by kernel_rfl) (by decide +kernel) ?_;intro w0 hw0 hm0;(try simp only [List.append_eq,List.cons_append,List.nil_append]))|(refine auP ?_)|((refine auR ?_);clear hK K)|(refine auR ?_)|((with_reducible refine hK _ _ ?_);clear hK K)|fail)
 first|refine end_ret (ResP.tmp rfl ResP.nil) ?_|refine end_normal (ResP.tmp rfl ResP.nil) ?_
 first|rfl|(show _=_;rfl)|(simp only [tupV, *];done)
set_option maxHeartbeats 8000000 in
theorem sound_3q1 (w:World){v:Value}{l:List Att}{b16:Bool}{b13:Bool}(h:Ats w v l)(h10:anyA (abs l) [10]=true)(h8:anyA (abs l) [8]=true)(h11:anyA (abs l) [11]=false)(h16:anyA (abs l) [16,17]=b16)(h13:anyA (abs l) [13,14,15]=b13):Calls Tryd.prog 43 [v].toArray w (Ret (.bool (!b16 || !b13)) w):=by
 obtain ⟨pv,cv,rfl,_⟩:=h.cs.ln.out
 haveI:=h.old
 have SN:∀ {g:Nat} {u:Value} {ks:List Int} {b:Bool} (hb:anyA (abs l) ks=b) (hn:ks.length≤1048576) w',Ats w' (.slice pv l.length cv) l→w'.heap[g]? = some (.cells #[.slice pv l.length cv] 47)→Cs w' u ks.length (ksC ks)→Calls Tryd.prog 56 ([u]++[ptr g]).toArray w' (Ret (.bool b) w'):=fun hb hn w' h1 h2 h3=>by
  have:=snd1_c w' h1 h2 h3 hn
  rwa [hb] at this
 have S10:=fun {g:Nat} {u:Value} w' h1 h2 (h3:Cs w' u 1 [.int .i64 10])=>SN (g:=g) (u:=u) h10 (by decide) w' h1 h2 h3
 have S8:=fun {g:Nat} {u:Value} w' h1 h2 (h3:Cs w' u 1 [.int .i64 8])=>SN (g:=g) (u:=u) h8 (by decide) w' h1 h2 h3
 have S11:=fun {g:Nat} {u:Value} w' h1 h2 (h3:Cs w' u 1 [.int .i64 11])=>SN (g:=g) (u:=u) h11 (by decide) w' h1 h2 h3
 have S16:=fun {g:Nat} {u:Value} w' h1 h2 (h3:Cs w' u 2 [.int .i64 16,.int .i64 17])=>SN (g:=g) (u:=u) h16 (by decide) w' h1 h2 h3
 have S13:=fun {g:Nat} {u:Value} w' h1 h2 (h3:Cs w' u 3 [.int .i64 13,.int .i64 14,.int .i64 15])=>SN (g:=g) (u:=u) h13 (by decide) w' h1 h2 h3
 clear SN h h10 h8 h11 h16 h13
 cases b16 <;> cases b13
 all_goals (
  refine fn_ret (N:=_) Tryd.func43 rfl Tryd.ntmps43 Tryd.results43 (by simp) ?_
  simp only [initS,Nat.reduceAdd,Nat.zero_add])
 all_goals (
  repeat' (first|(refine wlS ?_)|(refine wlB ?_)|(refine wlMF ?_)|((with_reducible refine sel_call ?_);first|refine wl_rd rfl rfl (rd_callc rfl rfl rfl rfl (fun w hm=>by with_reducible exact S10 w (VwT.out w hm) (Has.sees hm) (Vw.out w hm))) ?_|refine wl_rd rfl rfl (rd_callc rfl rfl rfl rfl (fun w hm=>by with_reducible exact S8 w (VwT.out w hm) (Has.sees hm) (Vw.out w hm))) ?_|refine wl_rd rfl rfl (rd_callc rfl rfl rfl rfl (fun w hm=>by with_reducible exact S11 w (VwT.out w hm) (Has.sees hm) (Vw.out w hm))) ?_|refine wl_rd rfl rfl (rd_callc rfl rfl rfl rfl (fun w hm=>by with_reducible exact S16 w (VwT.out w hm) (Has.sees hm) (Vw.out w hm))) ?_|refine wl_rd rfl rfl (rd_callc rfl rfl rfl rfl (fun w hm=>by with_reducible exact S13 w (VwT.out w hm) (Has.sees hm) (Vw.out w hm))) ?_)|(refine wlE ?_)|(refine efSvao ?_;intro v oa ho)|(refine efBnn ?_;intro n hn)|(refine wl_skip rfl rfl ?_)|((with_reducible refine wc_seq ?_);intro K hK)|(refine auC ?_)|(refine wc_cond rfl (fun hc=>?_) (fun hc=>?_))|(refine wc_draw (by kernel_rfl) (by kernel_rfl) (by decide +kernel) ?_;intro w0 hw0 hm0;(try simp only [List.append_eq,List.cons_append,List.nil_append]))|(refine auP ?_)|((refine auR ?_);clear hK K)|(refine auR ?_)|((with_reducible refine hK _ _ ?_);clear hK K)|fail))
 all_goals (
  first|refine end_ret (ResP.tmp rfl ResP.nil) ?_|refine end_normal (ResP.tmp rfl ResP.nil) ?_
  first|rfl|(show _=_;rfl)|(simp only [tupV, *];done))
set_option maxHeartbeats 8000000 in
theorem sound_3q3 (w:World){v:Value}{l:List Att}{b16:Bool}{b13:Bool}(h:Ats w v l)(h10:anyA (abs l) [10]=true)(h8:anyA (abs l) [8]=true)(h11:anyA (abs l) [11]=true)(h9:anyA (abs l) [9]=false)(h16:anyA (abs l) [16,17]=b16)(h13:anyA (abs l) [13,14,15]=b13):Calls Tryd.prog 43 [v].toArray w (Ret (.bool (!b16 || !b13)) w):=by
 obtain ⟨pv,cv,rfl,_⟩:=h.cs.ln.out
 haveI:=h.old
 have SN:∀ {g:Nat} {u:Value} {ks:List Int} {b:Bool} (hb:anyA (abs l) ks=b) (hn:ks.length≤1048576) w',Ats w' (.slice pv l.length cv) l→w'.heap[g]? = some (.cells #[.slice pv l.length cv] 47)→Cs w' u ks.length (ksC ks)→Calls Tryd.prog 56 ([u]++[ptr g]).toArray w' (Ret (.bool b) w'):=fun hb hn w' h1 h2 h3=>by
  have:=snd1_c w' h1 h2 h3 hn
  rwa [hb] at this
 have S10:=fun {g:Nat} {u:Value} w' h1 h2 (h3:Cs w' u 1 [.int .i64 10])=>SN (g:=g) (u:=u) h10 (by decide) w' h1 h2 h3
 have S8:=fun {g:Nat} {u:Value} w' h1 h2 (h3:Cs w' u 1 [.int .i64 8])=>SN (g:=g) (u:=u) h8 (by decide) w' h1 h2 h3
 have S11:=fun {g:Nat} {u:Value} w' h1 h2 (h3:Cs w' u 1 [.int .i64 11])=>SN (g:=g) (u:=u) h11 (by decide) w' h1 h2 h3
 have S9:=fun {g:Nat} {u:Value} w' h1 h2 (h3:Cs w' u 1 [.int .i64 9])=>SN (g:=g) (u:=u) h9 (by decide) w' h1 h2 h3
 have S16:=fun {g:Nat} {u:Value} w' h1 h2 (h3:Cs w' u 2 [.int .i64 16,.int .i64 17])=>SN (g:=g) (u:=u) h16 (by decide) w' h1 h2 h3
 have S13:=fun {g:Nat} {u:Value} w' h1 h2 (h3:Cs w' u 3 [.int .i64 13,.int .i64 14,.int .i64 15])=>SN (g:=g) (u:=u) h13 (by decide) w' h1 h2 h3
 clear SN h h10 h8 h11 h9 h16 h13
 cases b16 <;> cases b13
 all_goals (
  refine fn_ret (N:=_) Tryd.func43 rfl Tryd.ntmps43 Tryd.results43 (by simp) ?_
  simp only [initS,Nat.reduceAdd,Nat.zero_add])
 all_goals (
  repeat' (first|(refine wlS ?_)|(refine wlB ?_)|(refine wlMF ?_)|((with_reducible refine sel_call ?_);first|refine wl_rd rfl rfl (rd_callc rfl rfl rfl rfl (fun w hm=>by with_reducible exact S10 w (VwT.out w hm) (Has.sees hm) (Vw.out w hm))) ?_|refine wl_rd rfl rfl (rd_callc rfl rfl rfl rfl (fun w hm=>by with_reducible exact S8 w (VwT.out w hm) (Has.sees hm) (Vw.out w hm))) ?_|refine wl_rd rfl rfl (rd_callc rfl rfl rfl rfl (fun w hm=>by with_reducible exact S11 w (VwT.out w hm) (Has.sees hm) (Vw.out w hm))) ?_|refine wl_rd rfl rfl (rd_callc rfl rfl rfl rfl (fun w hm=>by with_reducible exact S9 w (VwT.out w hm) (Has.sees hm) (Vw.out w hm))) ?_|refine wl_rd rfl rfl (rd_callc rfl rfl rfl rfl (fun w hm=>by with_reducible exact S16 w (VwT.out w hm) (Has.sees hm) (Vw.out w hm))) ?_|refine wl_rd rfl rfl (rd_callc rfl rfl rfl rfl (fun w hm=>by with_reducible exact S13 w (VwT.out w hm) (Has.sees hm) (Vw.out w hm))) ?_)|(refine wlE ?_)|(refine efSvao ?_;intro v oa ho)|(refine efBnn ?_;intro n hn)|(refine wl_skip rfl rfl ?_)|((with_reducible refine wc_seq ?_);intro K hK)|(refine auC ?_)|(refine wc_cond rfl (fun hc=>?_) (fun hc=>?_))|(refine wc_draw (by kernel_rfl) (by kernel_rfl) (by decide +kernel) ?_;intro w0 hw0 hm0;(try simp only [List.append_eq,List.cons_append,List.nil_append]))|(refine auP ?_)|((refine auR ?_);clear hK K)|(refine auR ?_)|((with_reducible refine hK _ _ ?_);clear hK K)|fail))
 all_goals (
  first|refine end_ret (ResP.tmp rfl ResP.nil) ?_|refine end_normal (ResP.tmp rfl ResP.nil) ?_
  first|rfl|(show _=_;rfl)|(simp only [tupV, *];done))
theorem sound_c (w:World){v:Value}{l:List Att}{r:Bool}(h:Ats w v l)(hr:soundB (abs l)=r):Calls Tryd.prog 43 [v].toArray w (Ret (.bool r) w):=by
 obtain ⟨b10,h10⟩:∃ b,anyA (abs l) [10]=b:=⟨_,rfl⟩
 obtain ⟨b8,h8⟩:∃ b,anyA (abs l) [8]=b:=⟨_,rfl⟩
 obtain ⟨b11,h11⟩:∃ b,anyA (abs l) [11]=b:=⟨_,rfl⟩
 obtain ⟨b9,h9⟩:∃ b,anyA (abs l) [9]=b:=⟨_,rfl⟩
 obtain ⟨b16,h16⟩:∃ b,anyA (abs l) [16,17]=b:=⟨_,rfl⟩
 obtain ⟨b13,h13⟩:∃ b,anyA (abs l) [13,14,15]=b:=⟨_,rfl⟩
 have e:soundB (abs l)=(!(b10 && !b8) && !(b11 && b9) && (!b16 || !b13)):=by
  rw [←h10,←h8,←h11,←h9,←h16,←h13]
  simp [soundB,anyA]
 rw [e] at hr
 subst hr
 cases b10
 ·cases b11
  ·have:=sound_1q1 w h h10 h11 h16 h13
   simpa using this
  ·cases b9
   ·have:=sound_1q3 w h h10 h11 h9 h16 h13
    simpa using this
   ·exact sound_1q2 w h h10 h11 h9
 ·cases b8
  ·exact sound_p2 w h h10 h8
  ·cases b11
   ·have:=sound_3q1 w h h10 h8 h11 h16 h13
    simpa using this
   ·cases b9
    ·have:=sound_3q3 w h h10 h8 h11 h9 h16 h13
     simpa using this
    ·exact sound_3q2 w h h10 h8 h11 h9
end Go.Proofs.YthigacbelefadaaDoor
