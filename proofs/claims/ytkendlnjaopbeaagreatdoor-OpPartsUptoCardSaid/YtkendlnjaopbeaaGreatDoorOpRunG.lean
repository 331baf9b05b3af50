/- The package op: Run over whatever way. -/
import Derived.Test.YtkendlnjaopbeaaGreatDoorJnAR
import Derived.Test.YtkendlnjaopbeaaGreatDoorJnAI
namespace Go.Proofs.YtkendlnjaopbeaaGreatDoor
open Go.RowKit
attribute [local irreducible] rwA bys
set_option linter.unusedVariables false
set_option linter.unusedSimpArgs false
set_option maxRecDepth 100000
theorem bel_on {a b c:World}(h:Below a.heap.size a b)(k:Below b.heap.size b c):Below a.heap.size a c:=h.trans (k.mono h.size)
set_option maxHeartbeats 4000000 in
theorem run_no (w:World){kind e:Int}(he:(e != 0)=true){kz u:Value}{m:Nat}{iv p:List Nat}(h0:Cb w kz m p)(hi:B16 iv)(NW:NewNo kind kz m p iv e) :
  Calls Tryz.prog 14 [.int .i64 kind,kz,.agg (bys iv),u].toArray w (Ret (.tuple #[.slice none 0 0,.int .i64 e]) w):=by
 have i0:=h0.old
 haveI:NBy iv 16:=⟨hi.len⟩
 unfold NewNo at NW
 clear h0
 refine fn_ret (N:=_) Tryz.func14 rfl Tryz.ntmps14 Tryz.results14 (by simp) ?_
 simp only [initS,Nat.reduceAdd,Nat.zero_add]
 repeat' (first|(refine wlS ?_)|(refine wlG ?_)|(refine wlB ?_)|((with_reducible refine sel_call ?_);refine wl_rd rfl rfl (rd_call rfl rfl rfl (fun w hm=>by with_reducible exact NW w (VwB.out w hm))) ?_)|(refine wlE ?_)|(refine efSvao ?_;intro v oa ho)|(refine efBnn ?_;intro n hn)|(refine wl_skip rfl rfl ?_)|((with_reducible refine wc_seq ?_);intro K hK)|(refine auC ?_)|(refine wc_cond rfl (fun hc=>?_) (fun hc=>?_))|(refine wc_draw (by kernel_rfl) (by kernel_rfl) (by decide +kernel) ?_;intro w0 hw0 hm0;(try simp only [List.append_eq,List.cons_append,List.nil_append]))|(refine auP ?_)|((refine auR ?_);clear hK K)|(refine auR ?_)|((with_reducible refine hK _ _ ?_);clear hK K)|fail)
 first|refine end_ret (ResP.tmp rfl (ResP.tmp rfl ResP.nil)) ?_|refine end_normal (ResP.tmp rfl (ResP.tmp rfl ResP.nil)) ?_
 first|rfl|(show _=_;rfl)|(simp only [tupV, *];done)
section
variable {t:TypeId}{St:Type}{one:Option St}{Ok:Nat→Nat→St→Blks→Prop}{up:St→List Nat→St}{out:St→List Nat→List Nat}{fin:St→List Nat×Int}{chk:St→List Nat→Int}{w0:World}
set_option maxHeartbeats 8000000 in
theorem runG_large {jd:Bool}(w:World)(hb:Below w0.heap.size w0 w){s0:St}{kind:Int}{kz v2:Value}{m nn:Nat}{iv p q:List Nat}(h0:Cb w kz m p)(hi:B16 iv)(h2:Cb w0 v2 nn q)(hn:2048<nn)(NW:NewOk w0 kind kz m p iv t Ok s0) :
  Calls Tryz.prog 14 [.int .i64 kind,kz,.agg (bys iv),v2].toArray w (Ret (.tuple #[.slice none 0 0,.int .i64 2]) w):=by
 have i0:=h0.old
 have i2:=(h2.below hb).old
 haveI:NBy iv 16:=⟨hi.len⟩
 have NW:∀ w',Below w.heap.size w w'→Cb w' kz m p→Calls Tryz.prog 9 [.int .i64 kind,kz,.agg (bys iv)].toArray w' (RetO (fun b:Nat=>.tuple #[ptr b,.int .i64 0]) (fun b oa=>∃ g oW,oa=opB b t g 0 false::oW∧Ok g 0 s0 oW) w'):=fun w' h=>NW w' (bel_on hb h)
 clear h0
 refine fn_ret (N:=_) Tryz.func14 rfl Tryz.ntmps14 Tryz.results14 (by simp) ?_
 simp only [initS,Nat.reduceAdd,Nat.zero_add]
 repeat' (first|(refine wlS ?_)|(refine wlG ?_)|(refine wlB ?_)|(refine wlE ?_)|(refine efSvao ?_;intro v oa ho)|((with_reducible refine sel_call ?_);first|(refine wl_newO rfl rfl rfl rfl rfl (fun w hm=>by with_reducible exact NW w (hm.below rfl) (VwB.out w hm)) ?_;intro x oa hx))|(refine efBnn ?_;intro n hn)|(refine wl_skip rfl rfl ?_)|((with_reducible refine wc_seq ?_);intro K hK)|(refine auC ?_)|(refine wc_cond rfl (fun hc=>?_) (fun hc=>?_))|(refine wc_draw (by kernel_rfl) (by kernel_rfl) (by decide +kernel) ?_;intro w0 hw0 hm0;(try simp only [List.append_eq,List.cons_append,List.nil_append]))|(refine auP ?_)|((refine auR ?_);clear hK K)|(refine auR ?_)|((with_reducible refine hK _ _ ?_);clear hK K)|fail)
 obtain ⟨g,oW,rfl,hok⟩:=hx
 refine wl_updO rfl rfl rfl rfl rfl (fun w' hm' hw=>upd_large (b:=x) (t:=t) (g:=g) (many:=0) w0 w' (bel_on hb (hm'.below rfl)) hw (fun k hk=>Nat.le_trans hb.size (Mem.freshS hm' k hk)) h2 (by omega) (by omega)) ?_
 rintro _ oa rfl
 simp only [List.cons_append,List.nil_append]
 clear h2 NW
 repeat' (first|(refine wlS ?_)|(refine wlG ?_)|(refine wlB ?_)|(refine wlE ?_)|(refine efSvao ?_;intro v oa ho)|(refine efBnn ?_;intro n hn)|(refine wl_skip rfl rfl ?_)|((with_reducible refine wc_seq ?_);intro K hK)|(refine auC ?_)|(refine wc_cond rfl (fun hc=>?_) (fun hc=>?_))|(refine wc_draw (by kernel_rfl) (by kernel_rfl) (by decide +kernel) ?_;intro w0 hw0 hm0;(try simp only [List.append_eq,List.cons_append,List.nil_append]))|(refine auP ?_)|((refine auR ?_);clear hK K)|(refine auR ?_)|((with_reducible refine hK _ _ ?_);clear hK K)|fail)
 first|refine end_ret (ResP.tmp rfl (ResP.tmp rfl ResP.nil)) ?_|refine end_normal (ResP.tmp rfl (ResP.tmp rfl ResP.nil)) ?_
 first|rfl|(show _=_;rfl)|(simp only [tupV, *];done)
set_option maxHeartbeats 8000000 in
theorem runG_judge (WC:WayC w0 t true St one Ok up out fin chk)(w:World)(hb:Below w0.heap.size w0 w){s0:St}{kind:Int}{kz v2:Value}{m nn:Nat}{iv p q:List Nat}(h0:Cb w kz m p)(hi:B16 iv)(h2:Cb w0 v2 nn q)(hn:nn≤2048)(hone:∀ x,one=some x→s0=x)(NW:NewOk w0 kind kz m p iv t Ok s0) :
  Calls Tryz.prog 14 [.int .i64 kind,kz,.agg (bys iv),v2].toArray w (Ret (.tuple #[.slice none 0 0,.int .i64 13]) w):=by
 have i0:=h0.old
 have i2:=(h2.below hb).old
 haveI:NBy iv 16:=⟨hi.len⟩
 have NW:∀ w',Below w.heap.size w w'→Cb w' kz m p→Calls Tryz.prog 9 [.int .i64 kind,kz,.agg (bys iv)].toArray w' (RetO (fun b:Nat=>.tuple #[ptr b,.int .i64 0]) (fun b oa=>∃ g oW,oa=opB b t g 0 false::oW∧Ok g 0 s0 oW) w'):=fun w' h=>NW w' (bel_on hb h)
 clear h0
 refine fn_ret (N:=_) Tryz.func14 rfl Tryz.ntmps14 Tryz.results14 (by simp) ?_
 simp only [initS,Nat.reduceAdd,Nat.zero_add]
 repeat' (first|(refine wlS ?_)|(refine wlG ?_)|(refine wlB ?_)|(refine wlE ?_)|(refine efSvao ?_;intro v oa ho)|((with_reducible refine sel_call ?_);first|(refine wl_newO rfl rfl rfl rfl rfl (fun w hm=>by with_reducible exact NW w (hm.below rfl) (VwB.out w hm)) ?_;intro x oa hx))|(refine efBnn ?_;intro n hn)|(refine wl_skip rfl rfl ?_)|((with_reducible refine wc_seq ?_);intro K hK)|(refine auC ?_)|(refine wc_cond rfl (fun hc=>?_) (fun hc=>?_))|(refine wc_draw (by kernel_rfl) (by kernel_rfl) (by decide +kernel) ?_;intro w0 hw0 hm0;(try simp only [List.append_eq,List.cons_append,List.nil_append]))|(refine auP ?_)|((refine auR ?_);clear hK K)|(refine auR ?_)|((with_reducible refine hK _ _ ?_);clear hK K)|fail)
 obtain ⟨g,oW,rfl,hok⟩:=hx
 refine wl_updO rfl rfl rfl rfl rfl (fun w' hm' hw=>WC.upd w' (bel_on hb (hm'.below rfl)) (Mem.ndS hm') hw (fun k hk=>Nat.le_trans hb.size (Mem.freshS hm' k hk)) hok hone h2 (by omega)) ?_
 rintro v1 oa ⟨oW2,oX,rfl,hok2,hG⟩
 rw [Nat.zero_add] at hok2 ⊢
 have FJ:=fun w' hd (r:Int)=>fin_judge (b:=x) (many:=nn) (WC.asr g) w' hd r
 clear h2 NW
 repeat' (first|(refine wlS ?_)|(refine wlG ?_)|(refine wlB ?_)|((with_reducible refine sel_call ?_);refine wl_rd rfl rfl (rd_call rfl rfl rfl (fun w hm=>by with_reducible exact FJ w (Mem.hd hm) _)) ?_)|(refine wlE ?_)|(refine efSvao ?_;intro v oa ho)|(refine efBnn ?_;intro n hn)|(refine wl_skip rfl rfl ?_)|((with_reducible refine wc_seq ?_);intro K hK)|(refine auC ?_)|(refine wc_cond rfl (fun hc=>?_) (fun hc=>?_))|(refine wc_draw (by kernel_rfl) (by kernel_rfl) (by decide +kernel) ?_;intro w0 hw0 hm0;(try simp only [List.append_eq,List.cons_append,List.nil_append]))|(refine auP ?_)|((refine auR ?_);clear hK K)|(refine auR ?_)|((with_reducible refine hK _ _ ?_);clear hK K)|fail)
 first|refine end_ret (ResP.tmp rfl (ResP.tmp rfl ResP.nil)) ?_|refine end_normal (ResP.tmp rfl (ResP.tmp rfl ResP.nil)) ?_
 first|rfl|(show _=_;rfl)|(simp only [tupV, *];done)
set_option maxHeartbeats 8000000 in
theorem runG_err (WC:WayC w0 t false St one Ok up out fin chk)(w:World)(hb:Below w0.heap.size w0 w){s0:St}{kind:Int}{kz v2:Value}{m nn:Nat}{iv p q:List Nat}(h0:Cb w kz m p)(hi:B16 iv)(h2:Cb w0 v2 nn q)(hn:nn≤2048)(hone:∀ x,one=some x→s0=x)(he:((fin (up s0 q)).2 != 0)=true)(NW:NewOk w0 kind kz m p iv t Ok s0) :
  Calls Tryz.prog 14 [.int .i64 kind,kz,.agg (bys iv),v2].toArray w (Ret (.tuple #[.slice none 0 0,.int .i64 (fin (up s0 q)).2]) w):=by
 have i0:=h0.old
 have i2:=(h2.below hb).old
 haveI:NBy iv 16:=⟨hi.len⟩
 have NW:∀ w',Below w.heap.size w w'→Cb w' kz m p→Calls Tryz.prog 9 [.int .i64 kind,kz,.agg (bys iv)].toArray w' (RetO (fun b:Nat=>.tuple #[ptr b,.int .i64 0]) (fun b oa=>∃ g oW,oa=opB b t g 0 false::oW∧Ok g 0 s0 oW) w'):=fun w' h=>NW w' (bel_on hb h)
 clear h0
 refine fn_ret (N:=_) Tryz.func14 rfl Tryz.ntmps14 Tryz.results14 (by simp) ?_
 simp only [initS,Nat.reduceAdd,Nat.zero_add]
 repeat' (first|(refine wlS ?_)|(refine wlG ?_)|(refine wlB ?_)|(refine wlE ?_)|(refine efSvao ?_;intro v oa ho)|((with_reducible refine sel_call ?_);first|(refine wl_newO rfl rfl rfl rfl rfl (fun w hm=>by with_reducible exact NW w (hm.below rfl) (VwB.out w hm)) ?_;intro x oa hx))|(refine efBnn ?_;intro n hn)|(refine wl_skip rfl rfl ?_)|((with_reducible refine wc_seq ?_);intro K hK)|(refine auC ?_)|(refine wc_cond rfl (fun hc=>?_) (fun hc=>?_))|(refine wc_draw (by kernel_rfl) (by kernel_rfl) (by decide +kernel) ?_;intro w0 hw0 hm0;(try simp only [List.append_eq,List.cons_append,List.nil_append]))|(refine auP ?_)|((refine auR ?_);clear hK K)|(refine auR ?_)|((with_reducible refine hK _ _ ?_);clear hK K)|fail)
 obtain ⟨g,oW,rfl,hok⟩:=hx
 refine wl_updO rfl rfl rfl rfl rfl (fun w' hm' hw=>WC.upd w' (bel_on hb (hm'.below rfl)) (Mem.ndS hm') hw (fun k hk=>Nat.le_trans hb.size (Mem.freshS hm' k hk)) hok hone h2 (by omega)) ?_
 rintro v1 oa ⟨oW2,oX,rfl,hok2,hG⟩
 rw [Nat.zero_add] at hok2 ⊢
 clear h2 NW
 repeat' (first|(refine wlS ?_)|(refine wlG ?_)|(refine wlB ?_)|(refine wlE ?_)|(refine efSvao ?_;intro v oa ho)|(refine efBnn ?_;intro n hn)|(refine wl_skip rfl rfl ?_)|((with_reducible refine wc_seq ?_);intro K hK)|(refine auC ?_)|(refine wc_cond rfl (fun hc=>?_) (fun hc=>?_))|(refine wc_draw (by kernel_rfl) (by kernel_rfl) (by decide +kernel) ?_;intro w0 hw0 hm0;(try simp only [List.append_eq,List.cons_append,List.nil_append]))|(refine auP ?_)|((refine auR ?_);clear hK K)|(refine auR ?_)|((with_reducible refine hK _ _ ?_);clear hK K)|fail)
 refine wl_updO rfl rfl rfl rfl rfl (fun w' hm' hw=>WC.finE w' (bel_on hb (hm'.below rfl)) (Mem.ndS hm') hw (fun k hk=>Nat.le_trans hb.size (Mem.freshS hm' k hk)) hok2 he) ?_
 rintro _ oa rfl
 generalize (fin (up s0 q)).2=e at *
 repeat' (first|(refine wlS ?_)|(refine wlG ?_)|(refine wlB ?_)|(refine wlE ?_)|(refine efSvao ?_;intro v oa ho)|(refine efBnn ?_;intro n hn)|(refine wl_skip rfl rfl ?_)|((with_reducible refine wc_seq ?_);intro K hK)|(refine auC ?_)|(refine wc_cond rfl (fun hc=>?_) (fun hc=>?_))|(refine wc_draw (by kernel_rfl) (by kernel_rfl) (by decide +kernel) ?_;intro w0 hw0 hm0;(try simp only [List.append_eq,List.cons_append,List.nil_append]))|(refine auP ?_)|((refine auR ?_);clear hK K)|(refine auR ?_)|((with_reducible refine hK _ _ ?_);clear hK K)|fail)
 first|refine end_ret (ResP.tmp rfl (ResP.tmp rfl ResP.nil)) ?_|refine end_normal (ResP.tmp rfl (ResP.tmp rfl ResP.nil)) ?_
 first|rfl|(show _=_;rfl)|(simp only [tupV, *];done)
set_option maxHeartbeats 8000000 in
theorem runG_ok (WC:WayC w0 t false St one Ok up out fin chk)(w:World)(hb:Below w0.heap.size w0 w){s0:St}{kind:Int}{kz v2:Value}{m nn:Nat}{iv p q:List Nat}(h0:Cb w kz m p)(hi:B16 iv)(h2:Cb w0 v2 nn q)(hn:nn≤2048)(hone:∀ x,one=some x→s0=x)(he:(fin (up s0 q)).2=0)(hl:(fin (up s0 q)).1.length≤64)(hl1:(out s0 q).length≤4096)(NW:NewOk w0 kind kz m p iv t Ok s0) :
  Calls Tryz.prog 14 [.int .i64 kind,kz,.agg (bys iv),v2].toArray w (RetO (fun v:Value=>.tuple #[v,.int .i64 0]) (fun v oa=>CsB (Hd oa) v (out s0 q++(fin (up s0 q)).1).length (out s0 q++(fin (up s0 q)).1)) w):=by
 have i0:=h0.old
 have i2:=(h2.below hb).old
 haveI:NBy iv 16:=⟨hi.len⟩
 have NW:∀ w',Below w.heap.size w w'→Cb w' kz m p→Calls Tryz.prog 9 [.int .i64 kind,kz,.agg (bys iv)].toArray w' (RetO (fun b:Nat=>.tuple #[ptr b,.int .i64 0]) (fun b oa=>∃ g oW,oa=opB b t g 0 false::oW∧Ok g 0 s0 oW) w'):=fun w' h=>NW w' (bel_on hb h)
 clear h0
 rw [List.length_append]
 refine fn_own (N:=_) Tryz.func14 rfl Tryz.ntmps14 Tryz.results14 (by simp) ?_
 simp only [initS,Nat.reduceAdd,Nat.zero_add]
 repeat' (first|(refine wlS ?_)|(refine wlG ?_)|(refine wlB ?_)|(refine wlE ?_)|(refine efSvao ?_;intro v oa ho)|((with_reducible refine sel_call ?_);first|(refine wl_newO rfl rfl rfl rfl rfl (fun w hm=>by with_reducible exact NW w (hm.below rfl) (VwB.out w hm)) ?_;intro x oa hx))|(refine efBnn ?_;intro n hn)|(refine wl_skip rfl rfl ?_)|((with_reducible refine wc_seq ?_);intro K hK)|(refine auC ?_)|(refine wc_cond rfl (fun hc=>?_) (fun hc=>?_))|(refine wc_draw (by kernel_rfl) (by kernel_rfl) (by decide +kernel) ?_;intro w0 hw0 hm0;(try simp only [List.append_eq,List.cons_append,List.nil_append]))|(refine auP ?_)|((refine auR ?_);clear hK K)|(refine auR ?_)|((with_reducible refine hK _ _ ?_);clear hK K)|fail)
 obtain ⟨g,oW,rfl,hok⟩:=hx
 refine wl_updO rfl rfl rfl rfl rfl (fun w' hm' hw=>WC.upd w' (bel_on hb (hm'.below rfl)) (Mem.ndS hm') hw (fun k hk=>Nat.le_trans hb.size (Mem.freshS hm' k hk)) hok hone h2 (by omega)) ?_
 rintro v1 oa ⟨oW2,oX,rfl,hok2,hG⟩
 rw [Nat.zero_add] at hok2 ⊢
 clear h2 NW
 repeat' (first|(refine wlS ?_)|(refine wlG ?_)|(refine wlB ?_)|(refine wlE ?_)|(refine efSvao ?_;intro v oa ho)|(refine efBnn ?_;intro n hn)|(refine wl_skip rfl rfl ?_)|((with_reducible refine wc_seq ?_);intro K hK)|(refine auC ?_)|(refine wc_cond rfl (fun hc=>?_) (fun hc=>?_))|(refine wc_draw (by kernel_rfl) (by kernel_rfl) (by decide +kernel) ?_;intro w0 hw0 hm0;(try simp only [List.append_eq,List.cons_append,List.nil_append]))|(refine auP ?_)|((refine auR ?_);clear hK K)|(refine auR ?_)|((with_reducible refine hK _ _ ?_);clear hK K)|fail)
 refine wl_updO rfl rfl rfl rfl rfl (fun w' hm' hw=>WC.finO w' (bel_on hb (hm'.below rfl)) (Mem.ndS hm') hw (fun k hk=>Nat.le_trans hb.size (Mem.freshS hm' k hk)) hok2 he (by decide) (by omega)) ?_
 rintro v2 oa ⟨oF,rfl,hv2⟩
 simp only [List.cons_append,List.append_assoc]
 generalize (fin (up s0 q)).1=C2 at *
 generalize out s0 q=C1 at *
 haveI:=hv2
 rcases hG with hv1 | ⟨hc,⟨h0,rfl⟩ | ⟨b1,off1,rfl⟩⟩
 ·haveI:=hv1
  repeat' (first|(refine wlS ?_)|(refine wlG ?_)|(refine wlB ?_)|(refine wlE ?_)|(refine efSvao ?_;intro v oa ho)|(refine efM ?_)|(refine efMvao ?_;intro v oa ho)|(refine efBnn ?_;intro n hn)|(refine wl_skip rfl rfl ?_)|((with_reducible refine wc_seq ?_);intro K hK)|(refine auC ?_)|(refine wc_cond rfl (fun hc=>?_) (fun hc=>?_))|(refine wc_draw (by kernel_rfl) (by kernel_rfl) (by decide +kernel) ?_;intro w0 hw0 hm0;(try simp only [List.append_eq,List.cons_append,List.nil_append]))|(refine auP ?_)|((refine auR ?_);clear hK K)|(refine auR ?_)|((with_reducible refine hK _ _ ?_);clear hK K)|fail)
  first|refine end_ret (ResP.tmp rfl (ResP.tmp rfl ResP.nil)) ?_|refine end_normal (ResP.tmp rfl (ResP.tmp rfl ResP.nil)) ?_
  (try dsimp only [tupV])
  refine ⟨_,_,rfl,inferInstance,?_⟩
  repeat (first|exact SubL.nil|exact SubL.refl _|refine SubL.keep ?_|exact SubL.headA _ _|refine SubL.keepA ?_ _|refine SubL.skip ?_|refine SubL.skipA ?_ _)
 ·have hC1:C1=[]:=List.eq_nil_of_length_eq_zero h0
  subst hC1
  clear hc
  repeat' (first|(refine wlS ?_)|(refine wlG ?_)|(refine wlB ?_)|(refine wlE ?_)|(refine efSvao ?_;intro v oa ho)|(refine efM ?_)|(refine efMvao ?_;intro v oa ho)|(refine efBnn ?_;intro n hn)|(refine wl_skip rfl rfl ?_)|((with_reducible refine wc_seq ?_);intro K hK)|(refine auC ?_)|(refine wc_cond rfl (fun hc=>?_) (fun hc=>?_))|(refine wc_draw (by kernel_rfl) (by kernel_rfl) (by decide +kernel) ?_;intro w0 hw0 hm0;(try simp only [List.append_eq,List.cons_append,List.nil_append]))|(refine auP ?_)|((refine auR ?_);clear hK K)|(refine auR ?_)|((with_reducible refine hK _ _ ?_);clear hK K)|fail)
  first|refine end_ret (ResP.tmp rfl (ResP.tmp rfl ResP.nil)) ?_|refine end_normal (ResP.tmp rfl (ResP.tmp rfl ResP.nil)) ?_
  (try dsimp only [tupV])
  refine ⟨_,_,rfl,inferInstance,?_⟩
  repeat (first|exact SubL.nil|exact SubL.refl _|refine SubL.keep ?_|exact SubL.headA _ _|refine SubL.keepA ?_ _|refine SubL.skip ?_|refine SubL.skipA ?_ _)
 ·haveI:=hc
  by_cases h0:C2.length=0
  ·have hC2:C2=[]:=List.eq_nil_of_length_eq_zero h0
   subst hC2
   haveI:Ln v2 0:=hv2.cs.ln
   repeat' (first|(refine wlS ?_)|(refine wlG ?_)|(refine wlB ?_)|((with_reducible refine sel_call ?_);refine wv rfl rfl (rd_appendN rfl rfl rfl) ?_)|(refine wlE ?_)|(refine efSvao ?_;intro v oa ho)|(refine efBnn ?_;intro n hn)|(refine wl_skip rfl rfl ?_)|((with_reducible refine wc_seq ?_);intro K hK)|(refine auC ?_)|(refine wc_cond rfl (fun hc=>?_) (fun hc=>?_))|(refine wc_draw (by kernel_rfl) (by kernel_rfl) (by decide +kernel) ?_;intro w0 hw0 hm0;(try simp only [List.append_eq,List.cons_append,List.nil_append]))|(refine auP ?_)|((refine auR ?_);clear hK K)|(refine auR ?_)|((with_reducible refine hK _ _ ?_);clear hK K)|fail)
   first|refine end_ret (ResP.tmp rfl (ResP.tmp rfl ResP.nil)) ?_|refine end_normal (ResP.tmp rfl (ResP.tmp rfl ResP.nil)) ?_
   (try dsimp only [tupV])
   refine ⟨_,oX,rfl,?_,?_⟩
   ·rw [List.append_nil];exact hc
   repeat (first|exact SubL.nil|exact SubL.refl _|refine SubL.keep ?_|exact SubL.headA _ _|refine SubL.keepA ?_ _|refine SubL.skip ?_|refine SubL.skipA ?_ _)
  ·skip
   repeat' (first|(refine wlS ?_)|(refine wlG ?_)|(refine wlB ?_)|(refine wlE ?_)|(refine efSvao ?_;intro v oa ho)|(refine efAFvao ?_;intro v oa ho)|(refine efBnn ?_;intro n hn)|(refine wl_skip rfl rfl ?_)|((with_reducible refine wc_seq ?_);intro K hK)|(refine auC ?_)|(refine wc_cond rfl (fun hc=>?_) (fun hc=>?_))|(refine wc_draw (by kernel_rfl) (by kernel_rfl) (by decide +kernel) ?_;intro w0 hw0 hm0;(try simp only [List.append_eq,List.cons_append,List.nil_append]))|(refine auP ?_)|((refine auR ?_);clear hK K)|(refine auR ?_)|((with_reducible refine hK _ _ ?_);clear hK K)|fail)
   first|refine end_ret (ResP.tmp rfl (ResP.tmp rfl ResP.nil)) ?_|refine end_normal (ResP.tmp rfl (ResP.tmp rfl ResP.nil)) ?_
   (try dsimp only [tupV])
   refine ⟨_,_,rfl,inferInstance,?_⟩
   repeat (first|exact SubL.nil|exact SubL.refl _|refine SubL.keep ?_|exact SubL.headA _ _|refine SubL.keepA ?_ _|refine SubL.skip ?_|refine SubL.skipA ?_ _)
end
end Go.Proofs.YtkendlnjaopbeaaGreatDoor
