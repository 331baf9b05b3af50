/- OpOver: the walk over whatever way. -/
import Derived.Test.YtkendlnjaopbeaaGreatDoorJnAQ
namespace Go.Proofs.YtkendlnjaopbeaaGreatDoor
open Go.RowKit
attribute [local irreducible] rwA bys
set_option linter.unusedVariables false
set_option linter.unusedSimpArgs false
set_option maxRecDepth 100000
section
variable {t:TypeId}{St:Type}{one:Option St}{Ok:Nat→Nat→St→Blks→Prop}{up:St→List Nat→St}{out:St→List Nat→List Nat}{fin:St→List Nat×Int}{chk:St→List Nat→Int}{w:World}
set_option maxHeartbeats 8000000 in
theorem over_large {jd:Bool}(WC:WayC w t jd St one Ok up out fin chk){s0:St}{kind room:Int}{kz v2 u:Value}{m n k:Nat}{iv p q sig:List Nat}(h0:Cb w kz m p)(hi:B16 iv)(h2:Cb w v2 n q)(h3:Cb w u k sig)(hn:2048<n)
  (NW:∀ w',Below w.heap.size w w'→Cb w' kz m p→Calls Tryz.prog 9 [.int .i64 kind,kz,.agg (bys iv)].toArray w' (RetO (fun b:Nat=>.tuple #[ptr b,.int .i64 0]) (fun b oa=>∃ g oW,oa=opB b t g 0 false::oW∧Ok g 0 s0 oW) w')) :
  Calls Tryz.prog 6 [.int .i64 kind,kz,.agg (bys iv),v2,u,.int .i64 room].toArray w (Ret (.bool true) w):=by
 have i0:=h0.old
 have i2:=h2.old
 have i3:=h3.old
 haveI:NBy iv 16:=⟨hi.len⟩
 clear h0
 refine fn_ret (N:=_) Tryz.func6 rfl Tryz.ntmps6 Tryz.results6 (by simp) ?_
 simp only [initS,Nat.reduceAdd,Nat.zero_add]
 repeat' (first|(refine wlS ?_)|(refine wlG ?_)|(refine wlB ?_)|(refine wlPN ?_)|(refine wlE ?_)|(refine efSvao ?_;intro v oa ho)|((with_reducible refine sel_call ?_);first|(refine wl_newO rfl rfl rfl rfl rfl (fun w hm=>by with_reducible exact NW w (hm.below rfl) (VwB.out w hm)) ?_;intro x oa hx))|(refine efBnn ?_;intro n hn)|(refine wl_skip rfl rfl ?_)|((with_reducible refine wc_seq ?_);intro K hK)|(refine auC ?_)|(refine wc_cond rfl (fun hc=>?_) (fun hc=>?_))|(refine wc_draw (by kernel_rfl) (by kernel_rfl) (by decide +kernel) ?_;intro w0 hw0 hm0;(try simp only [List.append_eq,List.cons_append,List.nil_append]))|(refine auP ?_)|((refine auR ?_);clear hK K)|(refine auR ?_)|((with_reducible refine hK _ _ ?_);clear hK K)|fail)
 obtain ⟨g,oW,rfl,hok⟩:=hx
 refine wl_updO rfl rfl rfl rfl rfl (fun w' hm' hw=>upd_large (b:=x) (t:=t) (g:=g) (many:=0) w w' (hm'.below rfl) hw (Mem.freshS hm') h2 (by omega) (by omega)) ?_
 rintro _ oa rfl
 simp only [List.cons_append,List.nil_append]
 have UO:=fun w' hd (v:Value)=>upd_over (b:=x) (t:=t) (g:=g) (many:=0) w' hd v
 have FO:=fun w' hd (r:Int)=>fin_over (b:=x) (t:=t) (g:=g) (many:=0) w' hd r
 have CO:=fun w' hd (v:Value)=>chk_over (b:=x) (t:=t) (g:=g) (many:=0) w' hd v
 have OC:=fun w' hd=>over_c (b:=x) (t:=t) (g:=g) (many:=0) (o:=true) w' hd
 clear h2 h3
 repeat' (first|(refine wlS ?_)|(refine wlG ?_)|(refine wlB ?_)|((with_reducible refine sel_call ?_);refine wl_rd rfl rfl (rd_call rfl rfl rfl (fun w hm=>by with_reducible first|exact UO w (Mem.hd hm) _|exact FO w (Mem.hd hm) _|exact CO w (Mem.hd hm) _|exact OC w (Mem.hd hm))) ?_)|(refine wlE ?_)|(refine efSvao ?_;intro v oa ho)|(refine efBnn ?_;intro n hn)|(refine wl_skip rfl rfl ?_)|((with_reducible refine wc_seq ?_);intro K hK)|(refine auC ?_)|(refine wc_cond rfl (fun hc=>?_) (fun hc=>?_))|(refine wc_draw (by kernel_rfl) (by kernel_rfl) (by decide +kernel) ?_;intro w0 hw0 hm0;(try simp only [List.append_eq,List.cons_append,List.nil_append]))|(refine auP ?_)|((refine auR ?_);clear hK K)|(refine auR ?_)|((with_reducible refine hK _ _ ?_);clear hK K)|fail)
 first|refine end_ret (ResP.tmp rfl ResP.nil) ?_|refine end_normal (ResP.tmp rfl ResP.nil) ?_
 first|rfl|(show _=_;rfl)|(simp only [tupV, *];done)
set_option maxHeartbeats 8000000 in
theorem over_judge (WC:WayC w t true St one Ok up out fin chk){s0:St}{kind room:Int}{kz v2 u:Value}{m nn k:Nat}{iv p q sig:List Nat}(h0:Cb w kz m p)(hi:B16 iv)(h2:Cb w v2 nn q)(h3:Cb w u k sig)(hnn:nn≤2048)(hone:∀ x,one=some x→s0=x)
  (NW:∀ w',Below w.heap.size w w'→Cb w' kz m p→Calls Tryz.prog 9 [.int .i64 kind,kz,.agg (bys iv)].toArray w' (RetO (fun b:Nat=>.tuple #[ptr b,.int .i64 0]) (fun b oa=>∃ g oW,oa=opB b t g 0 false::oW∧Ok g 0 s0 oW) w')) :
  Calls Tryz.prog 6 [.int .i64 kind,kz,.agg (bys iv),v2,u,.int .i64 room].toArray w (Ret (.bool true) w):=by
 have i0:=h0.old
 have i2:=h2.old
 have i3:=h3.old
 haveI:NBy iv 16:=⟨hi.len⟩
 clear h0
 refine fn_ret (N:=_) Tryz.func6 rfl Tryz.ntmps6 Tryz.results6 (by simp) ?_
 simp only [initS,Nat.reduceAdd,Nat.zero_add]
 repeat' (first|(refine wlS ?_)|(refine wlG ?_)|(refine wlB ?_)|(refine wlPN ?_)|(refine wlE ?_)|(refine efSvao ?_;intro v oa ho)|((with_reducible refine sel_call ?_);first|(refine wl_newO rfl rfl rfl rfl rfl (fun w hm=>by with_reducible exact NW w (hm.below rfl) (VwB.out w hm)) ?_;intro x oa hx))|(refine efBnn ?_;intro n hn)|(refine wl_skip rfl rfl ?_)|((with_reducible refine wc_seq ?_);intro K hK)|(refine auC ?_)|(refine wc_cond rfl (fun hc=>?_) (fun hc=>?_))|(refine wc_draw (by kernel_rfl) (by kernel_rfl) (by decide +kernel) ?_;intro w0 hw0 hm0;(try simp only [List.append_eq,List.cons_append,List.nil_append]))|(refine auP ?_)|((refine auR ?_);clear hK K)|(refine auR ?_)|((with_reducible refine hK _ _ ?_);clear hK K)|fail)
 obtain ⟨g,oW,rfl,hok⟩:=hx
 refine wl_updO rfl rfl rfl rfl rfl (fun w' hm' hw=>WC.upd w' (hm'.below rfl) (Mem.ndS hm') hw (Mem.freshS hm') hok hone h2 (by omega)) ?_
 rintro v1 oa ⟨oW2,oX,rfl,hok2,hG⟩
 rw [Nat.zero_add] at hok2 ⊢
 have FJ:=fun w' hd (r:Int)=>fin_judge (b:=x) (many:=nn) (WC.asr g) w' hd r
 repeat' (first|(refine wlS ?_)|(refine wlG ?_)|(refine wlB ?_)|((with_reducible refine sel_call ?_);refine wl_rd rfl rfl (rd_call rfl rfl rfl (fun w hm=>by with_reducible exact FJ w (Mem.hd hm) _)) ?_)|(refine wlE ?_)|(refine efSvao ?_;intro v oa ho)|(refine efBnn ?_;intro n hn)|(refine wl_skip rfl rfl ?_)|((with_reducible refine wc_seq ?_);intro K hK)|(refine auC ?_)|(refine wc_cond rfl (fun hc=>?_) (fun hc=>?_))|(refine wc_draw (by kernel_rfl) (by kernel_rfl) (by decide +kernel) ?_;intro w0 hw0 hm0;(try simp only [List.append_eq,List.cons_append,List.nil_append]))|(refine auP ?_)|((refine auR ?_);clear hK K)|(refine auR ?_)|((with_reducible refine hK _ _ ?_);clear hK K)|fail)
 refine wl_updO rfl rfl rfl rfl rfl (fun w' hm' hw=>WC.check w' (hm'.below rfl) (Mem.ndS hm') hw (Mem.freshS hm') hok2 (h3.oldB (hm'.below rfl) (Mem.freshS hm'))) ?_
 rintro _ oa rfl
 simp only [List.cons_append,List.nil_append]
 have UO:=fun w' hd (v:Value)=>upd_over (b:=x) (t:=t) (g:=g) (many:=nn) w' hd v
 have FO:=fun w' hd (r:Int)=>fin_over (b:=x) (t:=t) (g:=g) (many:=nn) w' hd r
 have CO:=fun w' hd (v:Value)=>chk_over (b:=x) (t:=t) (g:=g) (many:=nn) w' hd v
 have OC:=fun w' hd=>over_c (b:=x) (t:=t) (g:=g) (many:=nn) (o:=true) w' hd
 clear h2 h3
 repeat' (first|(refine wlS ?_)|(refine wlG ?_)|(refine wlB ?_)|((with_reducible refine sel_call ?_);refine wl_rd rfl rfl (rd_call rfl rfl rfl (fun w hm=>by with_reducible first|exact UO w (Mem.hd hm) _|exact FO w (Mem.hd hm) _|exact CO w (Mem.hd hm) _|exact OC w (Mem.hd hm))) ?_)|(refine wlE ?_)|(refine efSvao ?_;intro v oa ho)|(refine efBnn ?_;intro n hn)|(refine wl_skip rfl rfl ?_)|((with_reducible refine wc_seq ?_);intro K hK)|(refine auC ?_)|(refine wc_cond rfl (fun hc=>?_) (fun hc=>?_))|(refine wc_draw (by kernel_rfl) (by kernel_rfl) (by decide +kernel) ?_;intro w0 hw0 hm0;(try simp only [List.append_eq,List.cons_append,List.nil_append]))|(refine auP ?_)|((refine auR ?_);clear hK K)|(refine auR ?_)|((with_reducible refine hK _ _ ?_);clear hK K)|fail)
 first|refine end_ret (ResP.tmp rfl ResP.nil) ?_|refine end_normal (ResP.tmp rfl ResP.nil) ?_
 first|rfl|(show _=_;rfl)|(simp only [tupV, *];done)
set_option maxHeartbeats 8000000 in
theorem over_err (WC:WayC w t false St one Ok up out fin chk){s0:St}{kind room:Int}{kz v2 u:Value}{m nn k:Nat}{iv p q sig:List Nat}(h0:Cb w kz m p)(hi:B16 iv)(h2:Cb w v2 nn q)(h3:Cb w u k sig)(hnn:nn≤2048)(hone:∀ x,one=some x→s0=x)(he:((fin (up s0 q)).2 != 0)=true∨((fin (up s0 q)).2=0∧(fin (up s0 q)).1.length≤64))
  (NW:∀ w',Below w.heap.size w w'→Cb w' kz m p→Calls Tryz.prog 9 [.int .i64 kind,kz,.agg (bys iv)].toArray w' (RetO (fun b:Nat=>.tuple #[ptr b,.int .i64 0]) (fun b oa=>∃ g oW,oa=opB b t g 0 false::oW∧Ok g 0 s0 oW) w')) :
  Calls Tryz.prog 6 [.int .i64 kind,kz,.agg (bys iv),v2,u,.int .i64 room].toArray w (Ret (.bool true) w):=by
 have i0:=h0.old
 have i2:=h2.old
 have i3:=h3.old
 haveI:NBy iv 16:=⟨hi.len⟩
 clear h0
 refine fn_ret (N:=_) Tryz.func6 rfl Tryz.ntmps6 Tryz.results6 (by simp) ?_
 simp only [initS,Nat.reduceAdd,Nat.zero_add]
 repeat' (first|(refine wlS ?_)|(refine wlG ?_)|(refine wlB ?_)|(refine wlPN ?_)|(refine wlE ?_)|(refine efSvao ?_;intro v oa ho)|((with_reducible refine sel_call ?_);first|(refine wl_newO rfl rfl rfl rfl rfl (fun w hm=>by with_reducible exact NW w (hm.below rfl) (VwB.out w hm)) ?_;intro x oa hx))|(refine efBnn ?_;intro n hn)|(refine wl_skip rfl rfl ?_)|((with_reducible refine wc_seq ?_);intro K hK)|(refine auC ?_)|(refine wc_cond rfl (fun hc=>?_) (fun hc=>?_))|(refine wc_draw (by kernel_rfl) (by kernel_rfl) (by decide +kernel) ?_;intro w0 hw0 hm0;(try simp only [List.append_eq,List.cons_append,List.nil_append]))|(refine auP ?_)|((refine auR ?_);clear hK K)|(refine auR ?_)|((with_reducible refine hK _ _ ?_);clear hK K)|fail)
 obtain ⟨g,oW,rfl,hok⟩:=hx
 refine wl_updO rfl rfl rfl rfl rfl (fun w' hm' hw=>WC.upd w' (hm'.below rfl) (Mem.ndS hm') hw (Mem.freshS hm') hok hone h2 (by omega)) ?_
 rintro v1 oa ⟨oW2,oX,rfl,hok2,hG⟩
 rw [Nat.zero_add] at hok2 ⊢
 repeat' (first|(refine wlS ?_)|(refine wlG ?_)|(refine wlB ?_)|(refine wlE ?_)|(refine efSvao ?_;intro v oa ho)|(refine efBnn ?_;intro n hn)|(refine wl_skip rfl rfl ?_)|((with_reducible refine wc_seq ?_);intro K hK)|(refine auC ?_)|(refine wc_cond rfl (fun hc=>?_) (fun hc=>?_))|(refine wc_draw (by kernel_rfl) (by kernel_rfl) (by decide +kernel) ?_;intro w0 hw0 hm0;(try simp only [List.append_eq,List.cons_append,List.nil_append]))|(refine auP ?_)|((refine auR ?_);clear hK K)|(refine auR ?_)|((with_reducible refine hK _ _ ?_);clear hK K)|fail)
 rcases he with he | ⟨he,hl⟩
 ·refine wl_updO rfl rfl rfl rfl rfl (fun w' hm' hw=>WC.finE w' (hm'.below rfl) (Mem.ndS hm') hw (Mem.freshS hm') hok2 he) ?_
  rintro _ oa rfl
  simp only [List.cons_append,List.nil_append]
  have UO:=fun w' hd (v:Value)=>upd_over (b:=x) (t:=t) (g:=g) (many:=nn) w' hd v
  have FO:=fun w' hd (r:Int)=>fin_over (b:=x) (t:=t) (g:=g) (many:=nn) w' hd r
  have CO:=fun w' hd (v:Value)=>chk_over (b:=x) (t:=t) (g:=g) (many:=nn) w' hd v
  have OC:=fun w' hd=>over_c (b:=x) (t:=t) (g:=g) (many:=nn) (o:=true) w' hd
  clear h2 h3
  repeat' (first|(refine wlS ?_)|(refine wlG ?_)|(refine wlB ?_)|((with_reducible refine sel_call ?_);refine wl_rd rfl rfl (rd_call rfl rfl rfl (fun w hm=>by with_reducible first|exact UO w (Mem.hd hm) _|exact FO w (Mem.hd hm) _|exact CO w (Mem.hd hm) _|exact OC w (Mem.hd hm))) ?_)|(refine wlE ?_)|(refine efSvao ?_;intro v oa ho)|(refine efBnn ?_;intro n hn)|(refine wl_skip rfl rfl ?_)|((with_reducible refine wc_seq ?_);intro K hK)|(refine auC ?_)|(refine wc_cond rfl (fun hc=>?_) (fun hc=>?_))|(refine wc_draw (by kernel_rfl) (by kernel_rfl) (by decide +kernel) ?_;intro w0 hw0 hm0;(try simp only [List.append_eq,List.cons_append,List.nil_append]))|(refine auP ?_)|((refine auR ?_);clear hK K)|(refine auR ?_)|((with_reducible refine hK _ _ ?_);clear hK K)|fail)
  first|refine end_ret (ResP.tmp rfl ResP.nil) ?_|refine end_normal (ResP.tmp rfl ResP.nil) ?_
  first|rfl|(show _=_;rfl)|(simp only [tupV, *];done)
 ·refine wl_updO rfl rfl rfl rfl rfl (fun w' hm' hw=>WC.finO w' (hm'.below rfl) (Mem.ndS hm') hw (Mem.freshS hm') hok2 he (by decide) (by omega)) ?_
  rintro v2 oa ⟨oF,rfl,hv2⟩
  simp only [List.cons_append,List.nil_append]
  have UO:=fun w' hd (v:Value)=>upd_over (b:=x) (t:=t) (g:=g) (many:=nn) w' hd v
  have FO:=fun w' hd (r:Int)=>fin_over (b:=x) (t:=t) (g:=g) (many:=nn) w' hd r
  have CO:=fun w' hd (v:Value)=>chk_over (b:=x) (t:=t) (g:=g) (many:=nn) w' hd v
  have OC:=fun w' hd=>over_c (b:=x) (t:=t) (g:=g) (many:=nn) (o:=true) w' hd
  clear h2 h3
  repeat' (first|(refine wlS ?_)|(refine wlG ?_)|(refine wlB ?_)|((with_reducible refine sel_call ?_);refine wl_rd rfl rfl (rd_call rfl rfl rfl (fun w hm=>by with_reducible first|exact UO w (Mem.hd hm) _|exact FO w (Mem.hd hm) _|exact CO w (Mem.hd hm) _|exact OC w (Mem.hd hm))) ?_)|(refine wlE ?_)|(refine efSvao ?_;intro v oa ho)|(refine efBnn ?_;intro n hn)|(refine wl_skip rfl rfl ?_)|((with_reducible refine wc_seq ?_);intro K hK)|(refine auC ?_)|(refine wc_cond rfl (fun hc=>?_) (fun hc=>?_))|(refine wc_draw (by kernel_rfl) (by kernel_rfl) (by decide +kernel) ?_;intro w0 hw0 hm0;(try simp only [List.append_eq,List.cons_append,List.nil_append]))|(refine auP ?_)|((refine auR ?_);clear hK K)|(refine auR ?_)|((with_reducible refine hK _ _ ?_);clear hK K)|fail)
  first|refine end_ret (ResP.tmp rfl ResP.nil) ?_|refine end_normal (ResP.tmp rfl ResP.nil) ?_
  first|rfl|(show _=_;rfl)|(simp only [tupV, *];done)
end
end Go.Proofs.YtkendlnjaopbeaaGreatDoor
