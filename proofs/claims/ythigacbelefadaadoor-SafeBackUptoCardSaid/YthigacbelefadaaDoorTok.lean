/- token.Restore,walked: no token. -/
import Derived.Test.YthigacbelefadaaDoorJnAC
import Derived.Test.YthigacbelefadaaDoorStoC
import Derived.Test.YthigacbelefadaaDoorJnAG
namespace Go.Proofs.YthigacbelefadaaDoor
open Go.RowKit
attribute [local irreducible] rwA bys iw blkD byteD MS.sum MS.write
set_option linter.unusedVariables false
set_option linter.unusedSimpArgs false
set_option maxRecDepth 100000
abbrev kpG (pl:Nat)(m1:List Nat)(z1:Int)(m2:List Nat)(z2 nx:Int)(hv:Value):Sg:=
 [(1,#[.int .u64 (pl:Int)]),(33,rwA [(32,bys m1),(1,#[.int .i64 z1])]),(33,rwA [(32,bys m2),(1,#[.int .i64 z2])]),(1,#[.int .i64 nx]),(1,#[hv])]
abbrev kpV' (pl:Nat)(m1:List Nat)(z1:Int)(m2:List Nat)(z2 nx:Int)(hv:Value):Value:=.agg (rwA (kpG pl m1 z1 m2 z2 nx hv))
set_option maxHeartbeats 4000000 in
theorem rest_lock (w:World)(hT:Tab w){v0:Value}{n0:Nat}{key:List Nat}(hq:Cb w v0 n0 key){pl:Nat}{m1 m2:List Nat}{z1 z2 nx:Int}{hv:Value}[NBy m1 32][ByL m1][NBy m2 32][ByL m2][One hv]
  (h:lkE z1≠0∨lkE z2≠0):Calls Tryd.prog 9 [v0,kpV' pl m1 z1 m2 z2 nx hv].toArray w (RetO (fun _:Unit=>.tuple #[.pointer none,.int .i64 1]) (fun _ oa=>oa=[]) w):=by
 have i1:=hq.old
 haveI:ByL key:=⟨hq.ok.by'⟩
 have NW:=new_k w hT
 have BQ:=@bytes_k w hT
 have P1:=fun w' {u:Value} {salt:List Nat} (h:Cb w' u 16 salt)=>restore_p w' (z:=z1) (mk:=m1) h (by decide)
 have P2:=fun w' {u:Value} {salt:List Nat} (h:Cb w' u 16 salt)=>restore_p w' (z:=z2) (mk:=m2) h (by decide)
 generalize lkE z1=e1 at *
 generalize lkE z2=e2 at *
 clear hT hq
 refine fn_own (N:=_) Tryd.func9 rfl Tryd.ntmps9 Tryd.results9 (by simp) ?_
 simp only [initS,Nat.reduceAdd,Nat.zero_add]
 repeat' (first|(refine wlS ?_)|(refine wlG ?_)|(refine wlB ?_)|(refine wlE ?_)|(refine efSvao ?_;intro v oa ho)|(refine efG ?_)|(refine efGnn ?_;intro n hn)|((with_reducible refine sel_call ?_);first|(refine wl_newO rfl rfl rfl rfl rfl (fun w hm=>by with_reducible exact NW w (hm.below rfl) (VwB.out w hm)) ?_;intro x oa hx))|(refine efBnn ?_;intro n hn)|(refine efB ?_)|(refine efBS ?_)|(refine wl_skip rfl rfl ?_)|((with_reducible refine wc_seq ?_);intro K hK)|(refine auC ?_)|(refine wc_cond rfl (fun hc=>?_) (fun hc=>?_))|(refine wc_draw (by kernel_rfl) (by kernel_rfl) (by decide +kernel) ?_;intro w0 hw0 hm0;(try simp only [List.append_eq,List.cons_append,List.nil_append]))|(refine auP ?_)|((refine auR ?_);clear hK K)|(refine auR ?_)|((with_reducible refine hK _ _ ?_);clear hK K)|fail)
 obtain ⟨s,hs,hk,hl,rfl⟩:=hx
 obtain ⟨g,rfl⟩:∃ g,g=x:=⟨x,rfl⟩
 have BY:=BQ (g:=g) (n:=16) hs hk hl (by omega) (by omega)
 repeat' (first|(refine wlS ?_)|(refine wlB ?_)|(refine wlE ?_)|(refine efSvao ?_;intro v oa ho)|((with_reducible refine sel_call ?_);first|(refine wl_updPO rfl rfl rfl rfl rfl (fun w hm hw=>by with_reducible exact BY w (hm.below rfl) (Mem.freshK hm) hw) (by intro _;repeat (first|exact At.here|apply At.there|apply At.skipA)) ?_;intro x c oa hx))|(refine efBnn ?_;intro n hn)|(refine efB ?_)|(refine efBS ?_)|(refine wl_skip rfl rfl ?_)|((with_reducible refine wc_seq ?_);intro K hK)|(refine auC ?_)|(refine wc_cond rfl (fun hc=>?_) (fun hc=>?_))|(refine wc_draw (by kernel_rfl) (by kernel_rfl) (by decide +kernel) ?_;intro w0 hw0 hm0;(try simp only [List.append_eq,List.cons_append,List.nil_append]))|(refine auP ?_)|((refine auR ?_);clear hK K)|(refine auR ?_)|((with_reducible refine hK _ _ ?_);clear hK K)|fail)
 refine wl_updPO rfl rfl rfl rfl rfl (fun w hm hw=>BY w (hm.below rfl) (Mem.freshK hm) hw) (by intro _;repeat (first|exact At.here|apply At.there|apply At.skipA)) ?_;intro xa c oa hx
 obtain ⟨ho1,s2,h1,h2,h3,rfl⟩:=hx
 have BY2:=BQ (g:=g) (n:=16) h1 h2 h3 (by omega) (by omega)
 repeat' (first|(refine wlS ?_)|(refine wlB ?_)|(refine wlE ?_)|(refine efSvao ?_;intro v oa ho)|((with_reducible refine sel_call ?_);first|(refine wl_updPO rfl rfl rfl rfl rfl (fun w hm hw=>by with_reducible exact BY2 w (hm.below rfl) (Mem.freshK hm) hw) (by intro _;repeat (first|exact At.here|apply At.there|apply At.skipA)) ?_;intro x c oa hx))|(refine efBnn ?_;intro n hn)|(refine efB ?_)|(refine efBS ?_)|(refine wl_skip rfl rfl ?_)|((with_reducible refine wc_seq ?_);intro K hK)|(refine auC ?_)|(refine wc_cond rfl (fun hc=>?_) (fun hc=>?_))|(refine wc_draw (by kernel_rfl) (by kernel_rfl) (by decide +kernel) ?_;intro w0 hw0 hm0;(try simp only [List.append_eq,List.cons_append,List.nil_append]))|(refine auP ?_)|((refine auR ?_);clear hK K)|(refine auR ?_)|((with_reducible refine hK _ _ ?_);clear hK K)|fail)
 refine wl_updPO rfl rfl rfl rfl rfl (fun w hm hw=>BY2 w (hm.below rfl) (Mem.freshK hm) hw) (by intro _;repeat (first|exact At.here|apply At.there|apply At.skipA)) ?_;intro xb c ob hx
 obtain ⟨ho2,s3,h4,h5,h6,rfl⟩:=hx
 clear NW BQ BY BY2 hs hk hl h1 h2 h3
 by_cases hz:e1=0
 ·subst hz
  have hz2:e2≠0:=by rcases h with h|h;exact absurd rfl h;exact h
  have t1:((0:Int) != 0)=false:=rfl
  have t2:(e2 != 0)=true:=by rw [bne_iff_ne];exact hz2
  clear h
  repeat' (first|(refine wlS ?_)|(refine wlG ?_)|(refine wlB ?_)|(refine wlE ?_)|(refine efSvao ?_;intro v oa ho)|(refine efG ?_)|(refine efGnn ?_;intro n hn)|((with_reducible refine sel_call ?_);first|(refine wl_newO rfl rfl rfl rfl rfl (fun w hm=>by with_reducible exact P1 w (VwB.out w hm)) ?_;intro x oa hx)|(refine wl_newO rfl rfl rfl rfl rfl (fun w hm=>by with_reducible exact P2 w (VwB.out w hm)) ?_;intro x oa hx))|(refine efBnn ?_;intro n hn)|(refine efB ?_)|(refine efBS ?_)|(refine wl_skip rfl rfl ?_)|((with_reducible refine wc_seq ?_);intro K hK)|(refine auC ?_)|(refine wc_cond rfl (fun hc=>?_) (fun hc=>?_))|(refine wc_draw (by kernel_rfl) (by kernel_rfl) (by decide +kernel) ?_;intro w0 hw0 hm0;(try simp only [List.append_eq,List.cons_append,List.nil_append]))|(refine auP ?_)|((refine auR ?_);clear hK K)|(refine auR ?_)|((with_reducible refine hK _ _ ?_);clear hK K)|fail)
  first|refine end_ret (ResP.tmp rfl (ResP.tmp rfl ResP.nil)) ?_|refine end_normal (ResP.tmp rfl (ResP.tmp rfl ResP.nil)) ?_
  (try dsimp only [tupV])
  exact ⟨(),[],rfl,rfl,.nil⟩
 ·have t1:(e1 != 0)=true:=by rw [bne_iff_ne];exact hz
  clear h
  repeat' (first|(refine wlS ?_)|(refine wlG ?_)|(refine wlB ?_)|(refine wlE ?_)|(refine efSvao ?_;intro v oa ho)|(refine efG ?_)|(refine efGnn ?_;intro n hn)|((with_reducible refine sel_call ?_);first|(refine wl_newO rfl rfl rfl rfl rfl (fun w hm=>by with_reducible exact P1 w (VwB.out w hm)) ?_;intro x oa hx)|(refine wl_newO rfl rfl rfl rfl rfl (fun w hm=>by with_reducible exact P2 w (VwB.out w hm)) ?_;intro x oa hx))|(refine efBnn ?_;intro n hn)|(refine efB ?_)|(refine efBS ?_)|(refine wl_skip rfl rfl ?_)|((with_reducible refine wc_seq ?_);intro K hK)|(refine auC ?_)|(refine wc_cond rfl (fun hc=>?_) (fun hc=>?_))|(refine wc_draw (by kernel_rfl) (by kernel_rfl) (by decide +kernel) ?_;intro w0 hw0 hm0;(try simp only [List.append_eq,List.cons_append,List.nil_append]))|(refine auP ?_)|((refine auR ?_);clear hK K)|(refine auR ?_)|((with_reducible refine hK _ _ ?_);clear hK K)|fail)
  first|refine end_ret (ResP.tmp rfl (ResP.tmp rfl ResP.nil)) ?_|refine end_normal (ResP.tmp rfl (ResP.tmp rfl ResP.nil)) ?_
  (try dsimp only [tupV])
  exact ⟨(),[],rfl,rfl,.nil⟩
structure StoL (nx:Int)(l:List He):Prop where
 num:1≤nx∧nx≤1073741824
 rise:RiseH l nx
 few:l.length≤16
theorem Hes.below {w w':World}{v:Value}{l:List He}(h:Hes w v l)(hb:Below w.heap.size w w'):Hes w' v l:=⟨h.cs.below hb,fun x hx=>(h.body x hx).below hb⟩
theorem sto_err {l:List He}(hsm:∀ x∈l,Small x.2.2.2)(hlen:l.length≤1048576){nx:Int}(h:¬StoL nx l) :
  ∃ e:Int,e≠0∧∀ w' {hv:Value},Hes w' hv l→Calls Tryd.prog 22 [.int .i64 16,.int .i64 nx,hv].toArray w' (RetO (fun _:Unit=>.tuple #[.pointer none,.int .i64 e]) (fun _ oa=>oa=[]) w'):=by
 by_cases hb:resBad 16 nx
 ·exact ⟨1,by decide,fun w' hv hl=>by
   haveI:One hv:=⟨by obtain ⟨_,_,rfl,_⟩:=hl.cs.ln.out;rfl⟩
   exact (restore_bad w' (v:=hv) hb).mono fun e w2 ⟨h1,h2⟩=>⟨(),[],h1,rfl,Upd.of_below h2 (by simp [keys]) (by simp [keys]) (fun p hp=>by cases hp)⟩⟩
 ·obtain ⟨e,he,hc⟩:=restore_no' (most:=16) hb hsm hlen (fun ⟨h1,h2⟩=>h ⟨by unfold resBad at hb;omega,h1,by omega⟩)
  exact ⟨e,by omega,fun w' hv hl=>hc w' hl⟩
set_option maxHeartbeats 4000000 in
theorem rest_sto (w:World)(hT:Tab w){v0:Value}{n0:Nat}{key:List Nat}(hq:Cb w v0 n0 key){pl:Nat}{m1 m2:List Nat}{z1 z2 nx:Int}{hv:Value}[NBy m1 32][ByL m1][NBy m2 32][ByL m2]{l:List He}(hl:Hes w hv l)(h1:lkE z1=0)(h2:lkE z2=0){er:Int}(he:er≠0)
  (SR:∀ w',Below w.heap.size w w'→Calls Tryd.prog 22 [.int .i64 16,.int .i64 nx,hv].toArray w' (RetO (fun _:Unit=>.tuple #[.pointer none,.int .i64 er]) (fun _ oa=>oa=[]) w')) :
  Calls Tryd.prog 9 [v0,kpV' pl m1 z1 m2 z2 nx hv].toArray w (RetO (fun _:Unit=>.tuple #[.pointer none,.int .i64 er]) (fun _ oa=>oa=[]) w):=by
 have i1:=hq.old
 haveI i2:=hl.cs.old
 haveI:One hv:=⟨by obtain ⟨_,_,rfl,_⟩:=hl.cs.ln.out;rfl⟩
 haveI:ByL key:=⟨hq.ok.by'⟩
 have NW:=new_k w hT
 have BQ:=@bytes_k w hT
 have P1:=fun w' {u:Value} {salt:List Nat} (h:Cb w' u 16 salt)=>restore_p w' (z:=z1) (mk:=m1) h (by decide)
 have P2:=fun w' {u:Value} {salt:List Nat} (h:Cb w' u 16 salt)=>restore_p w' (z:=z2) (mk:=m2) h (by decide)
 rw [h1] at P1
 rw [h2] at P2
 have t1:((0:Int) != 0)=false:=rfl
 have t2:(er != 0)=true:=by rw [bne_iff_ne];exact he
 clear hT hq hl
 refine fn_own (N:=_) Tryd.func9 rfl Tryd.ntmps9 Tryd.results9 (by simp) ?_
 simp only [initS,Nat.reduceAdd,Nat.zero_add]
 repeat' (first|(refine wlS ?_)|(refine wlG ?_)|(refine wlB ?_)|(refine wlE ?_)|(refine efSvao ?_;intro v oa ho)|(refine efG ?_)|(refine efGnn ?_;intro n hn)|((with_reducible refine sel_call ?_);first|(refine wl_newO rfl rfl rfl rfl rfl (fun w hm=>by with_reducible exact NW w (hm.below rfl) (VwB.out w hm)) ?_;intro x oa hx))|(refine efBnn ?_;intro n hn)|(refine efB ?_)|(refine efBS ?_)|(refine wl_skip rfl rfl ?_)|((with_reducible refine wc_seq ?_);intro K hK)|(refine auC ?_)|(refine wc_cond rfl (fun hc=>?_) (fun hc=>?_))|(refine wc_draw (by kernel_rfl) (by kernel_rfl) (by decide +kernel) ?_;intro w0 hw0 hm0;(try simp only [List.append_eq,List.cons_append,List.nil_append]))|(refine auP ?_)|((refine auR ?_);clear hK K)|(refine auR ?_)|((with_reducible refine hK _ _ ?_);clear hK K)|fail)
 obtain ⟨s,hs,hk,hls,rfl⟩:=hx
 obtain ⟨g,rfl⟩:∃ g,g=x:=⟨x,rfl⟩
 have BY:=BQ (g:=g) (n:=16) hs hk hls (by omega) (by omega)
 repeat' (first|(refine wlS ?_)|(refine wlB ?_)|(refine wlE ?_)|(refine efSvao ?_;intro v oa ho)|((with_reducible refine sel_call ?_);first|(refine wl_updPO rfl rfl rfl rfl rfl (fun w hm hw=>by with_reducible exact BY w (hm.below rfl) (Mem.freshK hm) hw) (by intro _;repeat (first|exact At.here|apply At.there|apply At.skipA)) ?_;intro x c oa hx))|(refine efBnn ?_;intro n hn)|(refine efB ?_)|(refine efBS ?_)|(refine wl_skip rfl rfl ?_)|((with_reducible refine wc_seq ?_);intro K hK)|(refine auC ?_)|(refine wc_cond rfl (fun hc=>?_) (fun hc=>?_))|(refine wc_draw (by kernel_rfl) (by kernel_rfl) (by decide +kernel) ?_;intro w0 hw0 hm0;(try simp only [List.append_eq,List.cons_append,List.nil_append]))|(refine auP ?_)|((refine auR ?_);clear hK K)|(refine auR ?_)|((with_reducible refine hK _ _ ?_);clear hK K)|fail)
 refine wl_updPO rfl rfl rfl rfl rfl (fun w hm hw=>BY w (hm.below rfl) (Mem.freshK hm) hw) (by intro _;repeat (first|exact At.here|apply At.there|apply At.skipA)) ?_;intro xa c oa hx
 obtain ⟨ho1,s2,h1,h2,h3,rfl⟩:=hx
 have BY2:=BQ (g:=g) (n:=16) h1 h2 h3 (by omega) (by omega)
 repeat' (first|(refine wlS ?_)|(refine wlB ?_)|(refine wlE ?_)|(refine efSvao ?_;intro v oa ho)|((with_reducible refine sel_call ?_);first|(refine wl_updPO rfl rfl rfl rfl rfl (fun w hm hw=>by with_reducible exact BY2 w (hm.below rfl) (Mem.freshK hm) hw) (by intro _;repeat (first|exact At.here|apply At.there|apply At.skipA)) ?_;intro x c oa hx))|(refine efBnn ?_;intro n hn)|(refine efB ?_)|(refine efBS ?_)|(refine wl_skip rfl rfl ?_)|((with_reducible refine wc_seq ?_);intro K hK)|(refine auC ?_)|(refine wc_cond rfl (fun hc=>?_) (fun hc=>?_))|(refine wc_draw (by kernel_rfl) (by kernel_rfl) (by decide +kernel) ?_;intro w0 hw0 hm0;(try simp only [List.append_eq,List.cons_append,List.nil_append]))|(refine auP ?_)|((refine auR ?_);clear hK K)|(refine auR ?_)|((with_reducible refine hK _ _ ?_);clear hK K)|fail)
 refine wl_updPO rfl rfl rfl rfl rfl (fun w hm hw=>BY2 w (hm.below rfl) (Mem.freshK hm) hw) (by intro _;repeat (first|exact At.here|apply At.there|apply At.skipA)) ?_;intro xb c ob hx
 obtain ⟨ho2,s3,h4,h5,h6,rfl⟩:=hx
 clear NW BQ BY BY2 hs hk hls h1 h2 h3
 repeat' (first|(refine wlS ?_)|(refine wlG ?_)|(refine wlB ?_)|(refine wlE ?_)|(refine efSvao ?_;intro v oa ho)|(refine efG ?_)|(refine efGnn ?_;intro n hn)|((with_reducible refine sel_call ?_);first|(refine wl_newO rfl rfl rfl rfl rfl (fun w hm=>by with_reducible exact P1 w (VwB.out w hm)) ?_;intro x oa hx)|(refine wl_newO rfl rfl rfl rfl rfl (fun w hm=>by with_reducible exact P2 w (VwB.out w hm)) ?_;intro x oa hx)|(refine wl_newO rfl rfl rfl rfl rfl (fun w hm=>by with_reducible exact SR w (hm.below rfl)) ?_;intro x oa hx))|(refine efBnn ?_;intro n hn)|(refine efB ?_)|(refine efBS ?_)|(refine wl_skip rfl rfl ?_)|((with_reducible refine wc_seq ?_);intro K hK)|(refine auC ?_)|(refine wc_cond rfl (fun hc=>?_) (fun hc=>?_))|(refine wc_draw (by kernel_rfl) (by kernel_rfl) (by decide +kernel) ?_;intro w0 hw0 hm0;(try simp only [List.append_eq,List.cons_append,List.nil_append]))|(refine auP ?_)|((refine auR ?_);clear hK K)|(refine auR ?_)|((with_reducible refine hK _ _ ?_);clear hK K)|fail)
 first|refine end_ret (ResP.tmp rfl (ResP.tmp rfl ResP.nil)) ?_|refine end_normal (ResP.tmp rfl (ResP.tmp rfl ResP.nil)) ?_
 (try dsimp only [tupV])
 exact ⟨(),[],rfl,rfl,.nil⟩
structure HeOk (x:He):Prop where
 ok:AbOk (abs x.2.2.2)
 valid:validB (abs x.2.2.2)=true
 own:x.2.1=0
 tok:isA (abs x.2.2.2) 5=true
set_option maxHeartbeats 4000000 in
theorem at_p (w:World)(hT:Tab w)(w':World)(hb:Below w.heap.size w w'){v:Value}{n:Nat}{key:List Nat}{a:Nat}(hq:Cb w' v n key) :
  Calls Tryd.prog 26 [v,.int .u64 (a:Int)].toArray w' (RetO (fun n=>ptr n) (fun n oa=>oa=[(n,(rwA (sgS ⟨newM key,a,List.replicate 32 0,false⟩),123))]) w'):=by
 have NG:=mnew_g w' (hT.below hb)
 have i1:=hq.old
 haveI:ByL key:=⟨hq.ok.by'⟩
 clear hT hb hq
 refine fn_own (N:=_) Tryd.func26 rfl Tryd.ntmps26 Tryd.results26 (by simp) ?_
 simp only [initS,Nat.reduceAdd,Nat.zero_add]
 repeat' (first|(refine wlS ?_)|(refine wlG ?_)|(refine wlB ?_)|((with_reducible refine sel_call ?_);refine wl_rd rfl rfl (rd_call rfl rfl rfl (fun w hm=>by with_reducible exact NG w (hm.below rfl) (VwB.out w hm))) ?_)|(refine wlE ?_)|(refine efSvao ?_;intro v oa ho)|(refine efBnn ?_;intro n hn)|(refine wl_skip rfl rfl ?_)|((with_reducible refine wc_seq ?_);intro K hK)|(refine auC ?_)|(refine wc_cond rfl (fun hc=>?_) (fun hc=>?_))|(refine wc_draw (by kernel_rfl) (by kernel_rfl) (by decide +kernel) ?_;intro w0 hw0 hm0;(try simp only [List.append_eq,List.cons_append,List.nil_append]))|(refine auP ?_)|((refine auR ?_);clear hK K)|(refine auR ?_)|((with_reducible refine hK _ _ ?_);clear hK K)|fail)
 first|refine end_ret (ResP.tmp rfl ResP.nil) ?_|refine end_normal (ResP.tmp rfl ResP.nil) ?_
 (try dsimp only [tupV])
 exact ⟨_,_,rfl,rfl,SubL.refl _⟩
set_option maxHeartbeats 8000000 in
theorem rest_c0 (w:World)(hT:Tab w){v0:Value}{n0:Nat}{key:List Nat}(hq:Cb w v0 n0 key){pl:Nat}{m1 m2:List Nat}{z1 z2 nx:Int}{hv:Value}[NBy m1 32][ByL m1][NBy m2 32][ByL m2]{l:List He}(hl:Hes w hv l)(hsm:∀ x∈l,Small x.2.2.2)(h1:lkE z1=0)(h2:lkE z2=0)(hS:StoL nx l) :
  Calls Tryd.prog 9 [v0,kpV' pl m1 z1 m2 z2 nx hv].toArray w (RetO (fun y:Option Nat×Int=>.tuple #[.pointer (y.1.map fun b=>⟨b,0,none⟩),.int .i64 y.2])
   (fun y _=>(y=(none,1)∧¬∀ x∈l,HeOk x)∨(∃ b,y=(some b,0))∧∀ x∈l,HeOk x) w):=by
 have i1:=hq.old
 haveI i2:=hl.cs.old
 haveI:One hv:=⟨by obtain ⟨_,_,rfl,_⟩:=hl.cs.ln.out;rfl⟩
 haveI:ByL key:=⟨hq.ok.by'⟩
 have NW:=new_k w hT
 have BQ:=@bytes_k w hT
 have P1:=fun w' {u:Value} {salt:List Nat} (h:Cb w' u 16 salt)=>restore_p w' (z:=z1) (mk:=m1) h (by decide)
 have P2:=fun w' {u:Value} {salt:List Nat} (h:Cb w' u 16 salt)=>restore_p w' (z:=z2) (mk:=m2) h (by decide)
 rw [h1] at P1
 rw [h2] at P2
 have SR:=fun w' (hb:Below w.heap.size w w')=>restore_ok w' (most:=16) (next:=nx) (by unfold resBad;have:=hS.num;omega) (hl.below hb) hsm (by have:=hS.few;omega) hS.rise (by have:=hS.few;omega)
 have t1:((0:Int) != 0)=false:=rfl
 have hbody:=hl.body
 have h16:=hS.few
 have AT:=fun w'' (h:Below w.heap.size w w'') (hc:Cb w'' v0 n0 key)=>at_p w hT w'' h hc (a:=pl)
 clear hT hq hl hS
 refine fn_own (N:=_) Tryd.func9 rfl Tryd.ntmps9 Tryd.results9 (by simp) ?_
 simp only [initS,Nat.reduceAdd,Nat.zero_add]
 repeat' (first|(refine wlS ?_)|(refine wlG ?_)|(refine wlB ?_)|(refine wlE ?_)|(refine efSvao ?_;intro v oa ho)|(refine efG ?_)|(refine efGnn ?_;intro n hn)|((with_reducible refine sel_call ?_);first|(refine wl_newO rfl rfl rfl rfl rfl (fun w hm=>by with_reducible exact NW w (hm.below rfl) (VwB.out w hm)) ?_;intro x oa hx))|(refine efBnn ?_;intro n hn)|(refine efB ?_)|(refine efBS ?_)|(refine wl_skip rfl rfl ?_)|((with_reducible refine wc_seq ?_);intro K hK)|(refine auC ?_)|(refine wc_cond rfl (fun hc=>?_) (fun hc=>?_))|(refine wc_draw (by kernel_rfl) (by kernel_rfl) (by decide +kernel) ?_;intro w0 hw0 hm0;(try simp only [List.append_eq,List.cons_append,List.nil_append]))|(refine auP ?_)|((refine auR ?_);clear hK K)|(refine auR ?_)|((with_reducible refine hK _ _ ?_);clear hK K)|fail)
 obtain ⟨s,hs,hk,hls,rfl⟩:=hx
 obtain ⟨g,rfl⟩:∃ g,g=x:=⟨x,rfl⟩
 have BY:=BQ (g:=g) (n:=16) hs hk hls (by omega) (by omega)
 repeat' (first|(refine wlS ?_)|(refine wlB ?_)|(refine wlE ?_)|(refine efSvao ?_;intro v oa ho)|((with_reducible refine sel_call ?_);first|(refine wl_updPO rfl rfl rfl rfl rfl (fun w hm hw=>by with_reducible exact BY w (hm.below rfl) (Mem.freshK hm) hw) (by intro _;repeat (first|exact At.here|apply At.there|apply At.skipA)) ?_;intro x c oa hx))|(refine efBnn ?_;intro n hn)|(refine efB ?_)|(refine efBS ?_)|(refine wl_skip rfl rfl ?_)|((with_reducible refine wc_seq ?_);intro K hK)|(refine auC ?_)|(refine wc_cond rfl (fun hc=>?_) (fun hc=>?_))|(refine wc_draw (by kernel_rfl) (by kernel_rfl) (by decide +kernel) ?_;intro w0 hw0 hm0;(try simp only [List.append_eq,List.cons_append,List.nil_append]))|(refine auP ?_)|((refine auR ?_);clear hK K)|(refine auR ?_)|((with_reducible refine hK _ _ ?_);clear hK K)|fail)
 refine wl_updPO rfl rfl rfl rfl rfl (fun w hm hw=>BY w (hm.below rfl) (Mem.freshK hm) hw) (by intro _;repeat (first|exact At.here|apply At.there|apply At.skipA)) ?_;intro xa c oa hx
 obtain ⟨ho1,s2,h1,h2,h3,rfl⟩:=hx
 have BY2:=BQ (g:=g) (n:=16) h1 h2 h3 (by omega) (by omega)
 repeat' (first|(refine wlS ?_)|(refine wlB ?_)|(refine wlE ?_)|(refine efSvao ?_;intro v oa ho)|((with_reducible refine sel_call ?_);first|(refine wl_updPO rfl rfl rfl rfl rfl (fun w hm hw=>by with_reducible exact BY2 w (hm.below rfl) (Mem.freshK hm) hw) (by intro _;repeat (first|exact At.here|apply At.there|apply At.skipA)) ?_;intro x c oa hx))|(refine efBnn ?_;intro n hn)|(refine efB ?_)|(refine efBS ?_)|(refine wl_skip rfl rfl ?_)|((with_reducible refine wc_seq ?_);intro K hK)|(refine auC ?_)|(refine wc_cond rfl (fun hc=>?_) (fun hc=>?_))|(refine wc_draw (by kernel_rfl) (by kernel_rfl) (by decide +kernel) ?_;intro w0 hw0 hm0;(try simp only [List.append_eq,List.cons_append,List.nil_append]))|(refine auP ?_)|((refine auR ?_);clear hK K)|(refine auR ?_)|((with_reducible refine hK _ _ ?_);clear hK K)|fail)
 refine wl_updPO rfl rfl rfl rfl rfl (fun w hm hw=>BY2 w (hm.below rfl) (Mem.freshK hm) hw) (by intro _;repeat (first|exact At.here|apply At.there|apply At.skipA)) ?_;intro xb c ob hx
 obtain ⟨ho2,s3,h4,h5,h6,rfl⟩:=hx
 clear NW BQ BY BY2 hs hk hls h1 h2 h3
 repeat' (first|(refine wlS ?_)|(refine wlG ?_)|(refine wlB ?_)|(refine wlE ?_)|(refine efSvao ?_;intro v oa ho)|(refine efG ?_)|(refine efGnn ?_;intro n hn)|((with_reducible refine sel_call ?_);first|(refine wl_newO rfl rfl rfl rfl rfl (fun w hm=>by with_reducible exact P1 w (VwB.out w hm)) ?_;intro x oa hx))|(refine efBnn ?_;intro n hn)|(refine efB ?_)|(refine efBS ?_)|(refine wl_skip rfl rfl ?_)|((with_reducible refine wc_seq ?_);intro K hK)|(refine auC ?_)|(refine wc_cond rfl (fun hc=>?_) (fun hc=>?_))|(refine wc_draw (by kernel_rfl) (by kernel_rfl) (by decide +kernel) ?_;intro w0 hw0 hm0;(try simp only [List.append_eq,List.cons_append,List.nil_append]))|(refine auP ?_)|((refine auR ?_);clear hK K)|(refine auR ?_)|((with_reducible refine hK _ _ ?_);clear hK K)|fail)
 obtain ⟨p1,rfl⟩:∃ p,p=x:=⟨x,rfl⟩
 repeat' (first|(refine wlS ?_)|(refine wlG ?_)|(refine wlB ?_)|(refine wlE ?_)|(refine efSvao ?_;intro v oa ho)|(refine efG ?_)|(refine efGnn ?_;intro n hn)|((with_reducible refine sel_call ?_);first|(refine wl_newO rfl rfl rfl rfl rfl (fun w hm=>by with_reducible exact P2 w (VwB.out w hm)) ?_;intro x oa hx))|(refine efBnn ?_;intro n hn)|(refine efB ?_)|(refine efBS ?_)|(refine wl_skip rfl rfl ?_)|((with_reducible refine wc_seq ?_);intro K hK)|(refine auC ?_)|(refine wc_cond rfl (fun hc=>?_) (fun hc=>?_))|(refine wc_draw (by kernel_rfl) (by kernel_rfl) (by decide +kernel) ?_;intro w0 hw0 hm0;(try simp only [List.append_eq,List.cons_append,List.nil_append]))|(refine auP ?_)|((refine auR ?_);clear hK K)|(refine auR ?_)|((with_reducible refine hK _ _ ?_);clear hK K)|fail)
 obtain ⟨p2,rfl⟩:∃ p,p=x:=⟨x,rfl⟩
 repeat' (first|(refine wlS ?_)|(refine wlG ?_)|(refine wlB ?_)|(refine wlE ?_)|(refine efSvao ?_;intro v oa ho)|(refine efG ?_)|(refine efGnn ?_;intro n hn)|((with_reducible refine sel_call ?_);first|(refine wl_newO rfl rfl rfl rfl rfl (fun w hm=>by with_reducible exact SR w (hm.below rfl)) ?_;intro x oa hx))|(refine efBnn ?_;intro n hn)|(refine efB ?_)|(refine efBS ?_)|(refine wl_skip rfl rfl ?_)|((with_reducible refine wc_seq ?_);intro K hK)|(refine auC ?_)|(refine wc_cond rfl (fun hc=>?_) (fun hc=>?_))|(refine wc_draw (by kernel_rfl) (by kernel_rfl) (by decide +kernel) ?_;intro w0 hw0 hm0;(try simp only [List.append_eq,List.cons_append,List.nil_append]))|(refine auP ?_)|((refine auR ?_);clear hK K)|(refine auR ?_)|((with_reducible refine hK _ _ ?_);clear hK K)|fail)
 obtain ⟨b,rfl⟩:∃ b,b=x:=⟨x,rfl⟩
 refine wc_loop (σ:=Nat) (fun i=>[(0,v0),(3,ptr n),(11,.pointer p1),(13,.pointer p2),(15,ptr b),(65,hv),(66,.int .i64 (l.length:Int)),(67,.int .i64 (i:Int))]) (fun i=>[(n,(rwA (kpG pl m1 z1 m2 z2 nx hv),28))])
  (fun i=>i≤l.length∧∀ x∈l.take i,HeOk x) (fun i=>l.length - i) 0 ⟨Nat.zero_le _,by simp⟩ (Fits.of ⟨rfl,rfl,rfl,rfl,rfl,rfl,rfl,rfl,trivial⟩ (.keep .nil) rfl) ?_
 rintro i ⟨hi,hgood⟩
 clear ho1 ho2 h4 h5 h6 hx P1 P2 SR
 by_cases hlt:i<l.length
 ·obtain ⟨⟨hh,ow,vx,its⟩,hx⟩:∃ x,l[i]? = some x:=⟨l[i]'hlt,List.getElem?_eq_getElem _⟩
  have hget:=hesC_get hx
  have hmem:=List.mem_of_getElem? hx
  have hat:=hbody _ hmem
  have hsx:=hsm _ hmem
  have hno:¬HeOk (hh,ow,vx,its)→¬∀ x∈l,HeOk x:=fun h h'=>h (h' _ hmem)
  have hyes:HeOk (hh,ow,vx,its)→∀ x∈l.take (i+1),HeOk x:=fun h y hy=>by
   rw [List.take_add_one,hx] at hy
   rcases List.mem_append.1 hy with hy|hy
   ·exact hgood y hy
   ·simp only [Option.toList,List.mem_singleton] at hy
    subst hy;exact h
  obtain ⟨pv,cv,hv',_⟩:=hat.cs.ln.out
  dsimp only at hv' hat hsx
  subst hv'
  have hget2:((hesC l).drop (i * 3)).take 3=[.int .i64 hh,.int .i64 ow,.slice pv its.length cv]:=hget
  haveI i3:=hat.old
  have u1:decide ((i:Int)<(l.length:Int))=true:=decide_eq_true (by omega)
  have u2:IntKind.i64.wrap ((i:Int)+1)=((i+1:Nat):Int):=by rw [wrap_i64 _ (by omega) (by omega)];omega
  have j1:(i:Int)<(l.length:Int):=by omega
  have f1:(!true)=false:=rfl
  have f2:(!false)=true:=rfl
  clear hget hgood hmem hbody hsm hx
  by_cases hV:AbOk (abs its)∧validB (abs its)=true
  ·have VC:=fun w' (h:Ats w' (.slice pv its.length cv) its)=>valid_c w' h hV.1 hV.2
   obtain ⟨z,hz⟩:∃ z,isA (abs its) 5=z:=⟨_,rfl⟩
   have IS:=fun w' (h:Ats w' (.slice pv its.length cv) its)=>is_c w' h hz
   clear hat
   by_cases hw0:ow=0
   ·subst hw0
    cases z
    ·have hres:=hno fun h=>by have:=h.tok;rw [hz] at this;cases this
     clear hno hyes hz hV hsx
     repeat' (first|(refine wlS ?_)|(refine wlB ?_)|((with_reducible refine sel_call ?_);refine wl_rd rfl rfl (rd_call rfl rfl rfl (fun w hm=>by with_reducible first|exact VC w (VwT.out w hm)|exact IS w (VwT.out w hm))) ?_)|(refine wlE ?_)|(refine efSvao ?_;intro v oa ho)|(refine efZCnn ?_;intro n hn)|(refine efBnn ?_;intro n hn)|(refine efB ?_)|(refine efBS ?_)|(refine wl_skip rfl rfl ?_)|((with_reducible refine wc_seq ?_);intro K hK)|(refine auC ?_)|(refine wc_cond rfl (fun hc=>?_) (fun hc=>?_))|(refine wc_draw (by kernel_rfl) (by kernel_rfl) (by decide +kernel) ?_;intro w0 hw0 hm0;(try simp only [List.append_eq,List.cons_append,List.nil_append]))|(refine auP ?_)|((refine auR ?_);clear hK K)|(refine auR ?_)|((with_reducible refine hK _ _ ?_);clear hK K)|fail)
     first|refine end_ret (ResP.tmp rfl (ResP.tmp rfl ResP.nil)) ?_|refine end_normal (ResP.tmp rfl (ResP.tmp rfl ResP.nil)) ?_
     (try dsimp only [tupV])
     exact ⟨(none,1),[],rfl,.inl ⟨rfl,hres⟩,.nil⟩
    ·have hres:=hyes ⟨hV.1,hV.2,rfl,hz⟩
     clear hno hyes hz hV hsx
     repeat' (first|(refine wlS ?_)|(refine wlB ?_)|((with_reducible refine sel_call ?_);refine wl_rd rfl rfl (rd_call rfl rfl rfl (fun w hm=>by with_reducible first|exact VC w (VwT.out w hm)|exact IS w (VwT.out w hm))) ?_)|(refine wlE ?_)|(refine efSvao ?_;intro v oa ho)|(refine efZCnn ?_;intro n hn)|(refine efBnn ?_;intro n hn)|(refine efB ?_)|(refine efBS ?_)|(refine wl_skip rfl rfl ?_)|((with_reducible refine wc_seq ?_);intro K hK)|(refine auC ?_)|(refine wc_cond rfl (fun hc=>?_) (fun hc=>?_))|(refine wc_draw (by kernel_rfl) (by kernel_rfl) (by decide +kernel) ?_;intro w0 hw0 hm0;(try simp only [List.append_eq,List.cons_append,List.nil_append]))|(refine auP ?_)|((refine auR ?_);clear hK K)|(refine auR ?_)|((with_reducible refine hK _ _ ?_);clear hK K)|fail)
     exact ⟨i+1,⟨hlt,hres⟩,by omega,Fits.of ⟨rfl,rfl,rfl,rfl,rfl,rfl,rfl,rfl,trivial⟩ (.skip (.keep .nil)) rfl⟩
   ·have t3:(ow != 0)=true:=by rw [bne_iff_ne];exact hw0
    have hres:=hno fun h=>hw0 h.own
    clear hno hyes hz hV hsx
    repeat' (first|(refine wlS ?_)|(refine wlB ?_)|((with_reducible refine sel_call ?_);refine wl_rd rfl rfl (rd_call rfl rfl rfl (fun w hm=>by with_reducible exact VC w (VwT.out w hm))) ?_)|(refine wlE ?_)|(refine efSvao ?_;intro v oa ho)|(refine efZCnn ?_;intro n hn)|(refine efBnn ?_;intro n hn)|(refine efB ?_)|(refine efBS ?_)|(refine wl_skip rfl rfl ?_)|((with_reducible refine wc_seq ?_);intro K hK)|(refine auC ?_)|(refine wc_cond rfl (fun hc=>?_) (fun hc=>?_))|(refine wc_draw (by kernel_rfl) (by kernel_rfl) (by decide +kernel) ?_;intro w0 hw0 hm0;(try simp only [List.append_eq,List.cons_append,List.nil_append]))|(refine auP ?_)|((refine auR ?_);clear hK K)|(refine auR ?_)|((with_reducible refine hK _ _ ?_);clear hK K)|fail)
    first|refine end_ret (ResP.tmp rfl (ResP.tmp rfl ResP.nil)) ?_|refine end_normal (ResP.tmp rfl (ResP.tmp rfl ResP.nil)) ?_
    (try dsimp only [tupV])
    exact ⟨(none,1),[],rfl,.inl ⟨rfl,hres⟩,.nil⟩
  ·have VC:∀ w',Ats w' (.slice pv its.length cv) its→Calls Tryd.prog 23 [.slice pv its.length cv].toArray w' (Ret (.bool false) w'):=fun w' h=>by
    by_cases hk:AbOk (abs its)
    ·exact valid_c w' h hk (by cases hv:validB (abs its);rfl;exact absurd ⟨hk,hv⟩ hV)
    ·exact valid_no w' h hsx hk
   have hres:=hno fun h=>hV ⟨h.ok,h.valid⟩
   clear hno hyes hV hsx hat
   repeat' (first|(refine wlS ?_)|(refine wlB ?_)|((with_reducible refine sel_call ?_);refine wl_rd rfl rfl (rd_call rfl rfl rfl (fun w hm=>by with_reducible exact VC w (VwT.out w hm))) ?_)|(refine wlE ?_)|(refine efSvao ?_;intro v oa ho)|(refine efZCnn ?_;intro n hn)|(refine efBnn ?_;intro n hn)|(refine efB ?_)|(refine efBS ?_)|(refine wl_skip rfl rfl ?_)|((with_reducible refine wc_seq ?_);intro K hK)|(refine auC ?_)|(refine wc_cond rfl (fun hc=>?_) (fun hc=>?_))|(refine wc_draw (by kernel_rfl) (by kernel_rfl) (by decide +kernel) ?_;intro w0 hw0 hm0;(try simp only [List.append_eq,List.cons_append,List.nil_append]))|(refine auP ?_)|((refine auR ?_);clear hK K)|(refine auR ?_)|((with_reducible refine hK _ _ ?_);clear hK K)|fail)
   first|refine end_ret (ResP.tmp rfl (ResP.tmp rfl ResP.nil)) ?_|refine end_normal (ResP.tmp rfl (ResP.tmp rfl ResP.nil)) ?_
   (try dsimp only [tupV])
   exact ⟨(none,1),[],rfl,.inl ⟨rfl,hres⟩,.nil⟩
 ·obtain rfl:i=l.length:=by omega
  have u1:decide ((l.length:Int)<(l.length:Int))=false:=decide_eq_false (by omega)
  rw [List.take_length] at hgood
  have ND:=fun w'=>newD_c w' (most:=16) (by decide)
  clear hbody hsm
  repeat' (first|(refine wlS ?_)|(refine wlG ?_)|(refine wlB ?_)|(refine wlE ?_)|(refine efSvao ?_;intro v oa ho)|(refine efG ?_)|(refine efGnn ?_;intro n hn)|((with_reducible refine sel_call ?_);first|(refine wl_newO rfl rfl rfl rfl rfl (fun w hm=>by with_reducible exact ND w) ?_;intro x oa hx)|(refine wl_newO rfl rfl rfl rfl rfl (fun w hm=>by with_reducible exact AT w (hm.below rfl) (VwB.out w hm)) ?_;intro x oa hx))|(refine efBnn ?_;intro n hn)|(refine efB ?_)|(refine efBS ?_)|(refine wl_skip rfl rfl ?_)|((with_reducible refine wc_seq ?_);intro K hK)|(refine auC ?_)|(refine wc_cond rfl (fun hc=>?_) (fun hc=>?_))|(refine wc_draw (by kernel_rfl) (by kernel_rfl) (by decide +kernel) ?_;intro w0 hw0 hm0;(try simp only [List.append_eq,List.cons_append,List.nil_append]))|(refine auP ?_)|((refine auR ?_);clear hK K)|(refine auR ?_)|((with_reducible refine hK _ _ ?_);clear hK K)|fail)
  repeat' (first|(refine wlB ?_)|(refine wlE ?_)|((with_reducible refine sel_makeMap ?_);first|(refine wl_mmap rfl rfl rfl ?_;intro g2 hg2))|(refine efBnn ?_;intro n hn)|(refine efB ?_)|(refine wl_skip rfl rfl ?_)|((with_reducible refine wc_seq ?_);intro K hK)|(refine auC ?_)|(refine wc_cond rfl (fun hc=>?_) (fun hc=>?_))|(refine wc_draw (by kernel_rfl) (by kernel_rfl) (by decide +kernel) ?_;intro w0 hw0 hm0;(try simp only [List.append_eq,List.cons_append,List.nil_append]))|(refine auP ?_)|((refine auR ?_);clear hK K)|(refine auR ?_)|((with_reducible refine hK _ _ ?_);clear hK K)|fail)
  repeat' (first|(refine wlS ?_)|(refine wlB ?_)|(refine wlE ?_)|(refine efSvao ?_;intro v oa ho)|(refine efBnn ?_;intro n hn)|(refine efB ?_)|(refine efBS ?_)|(refine wl_skip rfl rfl ?_)|((with_reducible refine wc_seq ?_);intro K hK)|(refine auC ?_)|(refine wc_cond rfl (fun hc=>?_) (fun hc=>?_))|(refine wc_draw (by kernel_rfl) (by kernel_rfl) (by decide +kernel) ?_;intro w0 hw0 hm0;(try simp only [List.append_eq,List.cons_append,List.nil_append]))|(refine auP ?_)|((refine auR ?_);clear hK K)|(refine auR ?_)|((with_reducible refine hK _ _ ?_);clear hK K)|fail)
  first|refine end_ret (ResP.tmp rfl (ResP.tmp rfl ResP.nil)) ?_|refine end_normal (ResP.tmp rfl (ResP.tmp rfl ResP.nil)) ?_
  (try dsimp only [tupV])
  exact ⟨(some _,0),[],rfl,.inr ⟨⟨_,rfl⟩,hgood⟩,.nil⟩
structure KOk (z1 z2 nx:Int)(l:List He):Prop where
 l1:lkE z1=0
 l2:lkE z2=0
 sto:StoL nx l
 each:∀ x∈l,HeOk x
theorem rest_yes {pl:Nat}{m1 m2:List Nat}{z1 z2 nx:Int}{l:List He}(hk:KOk z1 z2 nx l)(hsm:∀ x∈l,Small x.2.2.2)(w:World)(hT:Tab w){v0:Value}{n0:Nat}{key:List Nat}(hq:Cb w v0 n0 key){hv:Value}(hl:Hes w hv l)[NBy m1 32][ByL m1][NBy m2 32][ByL m2] :
  Calls Tryd.prog 9 [v0,kpV' pl m1 z1 m2 z2 nx hv].toArray w (RetO (fun b:Nat=>.tuple #[ptr b,.int .i64 0]) (fun _ _=>True) w):=
 (rest_c0 w hT hq hl hsm hk.l1 hk.l2 hk.sto).mono fun e w2 ⟨y,oa,h1,h2,h3⟩=>by
  rcases h2 with ⟨_,h⟩ | ⟨⟨b,rfl⟩,_⟩
  ·exact absurd hk.each h
  ·exact ⟨b,oa,h1,trivial,h3⟩
theorem rest_none {z1 z2 nx:Int}{l:List He}(hk:¬KOk z1 z2 nx l)(hsm:∀ x∈l,Small x.2.2.2)(hlen:l.length≤1048576):∃ e:Int,e≠0∧∀ {pl:Nat} {m1 m2:List Nat} [NBy m1 32] [ByL m1] [NBy m2 32] [ByL m2] (w:World),Tab w→∀ {v0:Value} {n0:Nat} {key:List Nat},Cb w v0 n0 key→∀ {hv:Value},Hes w hv l→
  Calls Tryd.prog 9 [v0,kpV' pl m1 z1 m2 z2 nx hv].toArray w (RetO (fun _:Unit=>.tuple #[.pointer none,.int .i64 e]) (fun _ _=>True) w):=by
 by_cases h1:lkE z1≠0∨lkE z2≠0
 ·refine ⟨1,by decide,fun w hT v0 n0 key hq hv hl=>?_⟩
  haveI:One hv:=⟨by obtain ⟨_,_,rfl,_⟩:=hl.cs.ln.out;rfl⟩
  exact (rest_lock w hT hq h1).mono fun e w2 ⟨y,oa,h1,h2,h3⟩=>⟨y,oa,h1,trivial,h3⟩
 have e1:lkE z1=0:=Decidable.of_not_not fun h=>h1 (.inl h)
 have e2:lkE z2=0:=Decidable.of_not_not fun h=>h1 (.inr h)
 by_cases h2:StoL nx l
 ·refine ⟨1,by decide,fun w hT v0 n0 key hq hv hl=>?_⟩
  refine (rest_c0 w hT hq hl hsm e1 e2 h2).mono fun e w2 ⟨y,oa,h3,h4,h5⟩=>?_
  rcases h4 with ⟨rfl,_⟩ | ⟨_,h⟩
  ·exact ⟨(),oa,h3,trivial,h5⟩
  ·exact absurd ⟨e1,e2,h2,h⟩ hk
 obtain ⟨er,her,hc⟩:=sto_err (nx:=nx) hsm hlen h2
 exact ⟨er,her,fun w hT v0 n0 key hq hv hl=>(rest_sto w hT hq hl e1 e2 her (fun w' hb=>hc w' (hl.below hb))).mono fun e w2 ⟨y,oa,h1,h2,h3⟩=>⟨y,oa,h1,trivial,h3⟩⟩
end Go.Proofs.YthigacbelefadaaDoor
