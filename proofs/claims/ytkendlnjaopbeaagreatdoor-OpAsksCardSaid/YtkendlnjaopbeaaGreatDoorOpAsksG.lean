/- OpAsks: the walk over whatever way. -/
import Derived.Test.YtkendlnjaopbeaaGreatDoorJnAR
import Derived.Test.YtkendlnjaopbeaaGreatDoorJnAH
namespace Go.Proofs.YtkendlnjaopbeaaGreatDoor
open Go.RowKit
attribute [local irreducible] rwA bys
set_option linter.unusedVariables false
set_option linter.unusedSimpArgs false
set_option maxRecDepth 100000
set_option maxHeartbeats 4000000 in
theorem asks_bad (w:World)(hT:Tab w){kind room e:Int}(he:(e != 0)=true){kz v2:Value}{m:Nat}{iv p:List Nat}(h0:Cb w kz m p)(hi:B16 iv)(NW:NewNo kind kz m p iv e) :
  Calls Tryz.prog 3 [.int .i64 kind,kz,.agg (bys iv),v2,.int .i64 room].toArray w (Ret (.bool true) w):=by
 have i0:=h0.old
 haveI:NBy iv 16:=⟨hi.len⟩
 have OPS:=fun w' (hb:Below w.heap.size w w')=>ops_c w' (hT.below hb)
 have ee:(e == e)=true:=by simp
 unfold NewNo at NW
 clear h0 hT
 refine fn_ret (N:=_) Tryz.func3 rfl Tryz.ntmps3 Tryz.results3 (by simp) ?_
 simp only [initS,Nat.reduceAdd,Nat.zero_add]
 repeat' (first|(refine wlS ?_)|(refine wlG ?_)|(refine wlB ?_)|(refine wlPNN ?_)|((with_reducible refine sel_call ?_);refine wl_rd rfl rfl (rd_call rfl rfl rfl (fun w hm=>by with_reducible first|exact OPS w (hm.below rfl)|exact NW w (VwB.out w hm))) ?_)|(refine wlE ?_)|(refine efSvao ?_;intro v oa ho)|(refine efBnn ?_;intro n hn)|(refine wl_skip rfl rfl ?_)|((with_reducible refine wc_seq ?_);intro K hK)|(refine auC ?_)|(refine wc_cond rfl (fun hc=>?_) (fun hc=>?_))|(refine wc_draw (by kernel_rfl) (by kernel_rfl) (by decide +kernel) ?_;intro w0 hw0 hm0;(try simp only [List.append_eq,List.cons_append,List.nil_append]))|(refine auP ?_)|((refine auR ?_);clear hK K)|(refine auR ?_)|((with_reducible refine hK _ _ ?_);clear hK K)|fail)
 first|refine end_ret (ResP.tmp rfl ResP.nil) ?_|refine end_normal (ResP.tmp rfl ResP.nil) ?_
 first|rfl|(show _=_;rfl)|(simp only [tupV, *];done)
section
variable {t:TypeId}{St:Type}{one:Option St}{Ok:Nat→Nat→St→Blks→Prop}{up:St→List Nat→St}{out:St→List Nat→List Nat}{fin:St→List Nat×Int}{chk:St→List Nat→Int}{w:World}
set_option maxHeartbeats 8000000 in
theorem asks_large {jd:Bool}(hT:Tab w)(WC:WayC w t jd St one Ok up out fin chk){s0:St}{kind room:Int}{kz v2:Value}{m n:Nat}{iv p q:List Nat}(h0:Cb w kz m p)(hi:B16 iv)(h2:Cb w v2 n q)(hn:2048<n)(NW:NewOk w kind kz m p iv t Ok s0) :
  Calls Tryz.prog 3 [.int .i64 kind,kz,.agg (bys iv),v2,.int .i64 room].toArray w (Ret (.bool true) w):=by
 have i0:=h0.old
 have i2:=h2.old
 haveI:NBy iv 16:=⟨hi.len⟩
 have OPS:=fun w' (hb:Below w.heap.size w w')=>ops_c w' (hT.below hb)
 unfold NewOk at NW
 clear h0
 refine fn_ret (N:=_) Tryz.func3 rfl Tryz.ntmps3 Tryz.results3 (by simp) ?_
 simp only [initS,Nat.reduceAdd,Nat.zero_add]
 repeat' (first|(refine wlS ?_)|(refine wlG ?_)|(refine wlB ?_)|(refine wlPN ?_)|((with_reducible refine sel_call ?_);refine wl_rd rfl rfl (rd_call rfl rfl rfl (fun w hm=>by with_reducible exact OPS w (hm.below rfl))) ?_)|(refine wlE ?_)|(refine efSvao ?_;intro v oa ho)|((with_reducible refine sel_call ?_);first|(refine wl_newO rfl rfl rfl rfl rfl (fun w hm=>by with_reducible exact NW w (hm.below rfl) (VwB.out w hm)) ?_;intro x oa hx))|(refine efBnn ?_;intro n hn)|(refine wl_skip rfl rfl ?_)|((with_reducible refine wc_seq ?_);intro K hK)|(refine auC ?_)|(refine wc_cond rfl (fun hc=>?_) (fun hc=>?_))|(refine wc_draw (by kernel_rfl) (by kernel_rfl) (by decide +kernel) ?_;intro w0 hw0 hm0;(try simp only [List.append_eq,List.cons_append,List.nil_append]))|(refine auP ?_)|((refine auR ?_);clear hK K)|(refine auR ?_)|((with_reducible refine hK _ _ ?_);clear hK K)|fail)
 rename_i x1 oa1 hx1
 obtain ⟨g1,oW1,rfl,hok1⟩:=hx1
 obtain ⟨g,oW,rfl,hok⟩:=hx
 simp only [List.cons_append,List.append_assoc]
 refine wl_updO rfl rfl rfl rfl rfl (fun w' hm' hw=>upd_large (b:=x1) (t:=t) (g:=g1) (many:=0) w w' (hm'.below rfl) hw (Mem.freshS hm') h2 (by omega) (by omega)) ?_
 rintro _ oa rfl
 repeat' (first|(refine wlS ?_)|(refine wlG ?_)|(refine wlB ?_)|(refine wlE ?_)|(refine efSvao ?_;intro v oa ho)|(refine efBnn ?_;intro n hn)|(refine wl_skip rfl rfl ?_)|((with_reducible refine wc_seq ?_);intro K hK)|(refine auC ?_)|(refine wc_cond rfl (fun hc=>?_) (fun hc=>?_))|(refine wc_draw (by kernel_rfl) (by kernel_rfl) (by decide +kernel) ?_;intro w0 hw0 hm0;(try simp only [List.append_eq,List.cons_append,List.nil_append]))|(refine auP ?_)|((refine auR ?_);clear hK K)|(refine auR ?_)|((with_reducible refine hK _ _ ?_);clear hK K)|fail)
 refine wl_updO rfl rfl rfl rfl rfl (fun w' hm' hw=>upd_large (b:=x) (t:=t) (g:=g) (many:=0) w w' (hm'.below rfl) hw (Mem.freshS hm') h2 (by omega) (by omega)) ?_
 rintro _ oa rfl
 simp only [List.cons_append,List.nil_append,List.append_assoc]
 have BN:=fun w'=>beq_r (r:=true) w' (cb_nil w') (cb_nil w') rfl
 have FO:=fun w' hd (r:Int)=>fin_over (b:=x) (t:=t) (g:=g) (many:=0) w' hd r
 have FO1:=fun w' hd (r:Int)=>fin_over (b:=x1) (t:=t) (g:=g1) (many:=0) w' hd r
 have OC:=fun w' hd=>over_c (b:=x) (t:=t) (g:=g) (many:=0) (o:=true) w' hd
 have OC1:=fun w' hd=>over_c (b:=x1) (t:=t) (g:=g1) (many:=0) (o:=true) w' hd
 clear h2 NW OPS
 repeat' (first|(refine wlS ?_)|(refine wlG ?_)|(refine wlB ?_)|((with_reducible refine sel_call ?_);refine wl_rd rfl rfl (rd_call rfl rfl rfl (fun w hm=>by with_reducible first|exact BN w|exact FO1 w (Mem.hd hm) _|exact FO w (Mem.hd hm) _|exact OC1 w (Mem.hd hm)|exact OC w (Mem.hd hm))) ?_)|(refine wlE ?_)|(refine efSvao ?_;intro v oa ho)|(refine efBnn ?_;intro n hn)|(refine wl_skip rfl rfl ?_)|((with_reducible refine wc_seq ?_);intro K hK)|(refine auC ?_)|(refine wc_cond rfl (fun hc=>?_) (fun hc=>?_))|(refine wc_draw (by kernel_rfl) (by kernel_rfl) (by decide +kernel) ?_;intro w0 hw0 hm0;(try simp only [List.append_eq,List.cons_append,List.nil_append]))|(refine auP ?_)|((refine auR ?_);clear hK K)|(refine auR ?_)|((with_reducible refine hK _ _ ?_);clear hK K)|fail)
 first|refine end_ret (ResP.tmp rfl ResP.nil) ?_|refine end_normal (ResP.tmp rfl ResP.nil) ?_
 first|rfl|(show _=_;rfl)|(simp only [tupV, *];done)
set_option maxHeartbeats 8000000 in
theorem asks_judge (hT:Tab w)(WC:WayC w t true St one Ok up out fin chk){s0:St}{kind room:Int}{kz v2:Value}{m nn:Nat}{iv p q:List Nat}(h0:Cb w kz m p)(hi:B16 iv)(h2:Cb w v2 nn q)(hnn:nn≤2048)(hone:∀ x,one=some x→s0=x)(NW:NewOk w kind kz m p iv t Ok s0) :
  Calls Tryz.prog 3 [.int .i64 kind,kz,.agg (bys iv),v2,.int .i64 room].toArray w (Ret (.bool true) w):=by
 have i0:=h0.old
 have i2:=h2.old
 haveI:NBy iv 16:=⟨hi.len⟩
 have OPS:=fun w' (hb:Below w.heap.size w w')=>ops_c w' (hT.below hb)
 have qq:(out s0 q == out s0 q)=true:=by simp
 unfold NewOk at NW
 clear h0
 refine fn_ret (N:=_) Tryz.func3 rfl Tryz.ntmps3 Tryz.results3 (by simp) ?_
 simp only [initS,Nat.reduceAdd,Nat.zero_add]
 repeat' (first|(refine wlS ?_)|(refine wlG ?_)|(refine wlB ?_)|(refine wlPN ?_)|((with_reducible refine sel_call ?_);refine wl_rd rfl rfl (rd_call rfl rfl rfl (fun w hm=>by with_reducible exact OPS w (hm.below rfl))) ?_)|(refine wlE ?_)|(refine efSvao ?_;intro v oa ho)|((with_reducible refine sel_call ?_);first|(refine wl_newO rfl rfl rfl rfl rfl (fun w hm=>by with_reducible exact NW w (hm.below rfl) (VwB.out w hm)) ?_;intro x oa hx))|(refine efBnn ?_;intro n hn)|(refine wl_skip rfl rfl ?_)|((with_reducible refine wc_seq ?_);intro K hK)|(refine auC ?_)|(refine wc_cond rfl (fun hc=>?_) (fun hc=>?_))|(refine wc_draw (by kernel_rfl) (by kernel_rfl) (by decide +kernel) ?_;intro w0 hw0 hm0;(try simp only [List.append_eq,List.cons_append,List.nil_append]))|(refine auP ?_)|((refine auR ?_);clear hK K)|(refine auR ?_)|((with_reducible refine hK _ _ ?_);clear hK K)|fail)
 rename_i x1 oa1 hx1
 obtain ⟨g1,oW1,rfl,hok1⟩:=hx1
 obtain ⟨g,oW,rfl,hok⟩:=hx
 simp only [List.cons_append,List.append_assoc]
 refine wl_updO rfl rfl rfl rfl rfl (fun w' hm' hw=>WC.upd w' (hm'.below rfl) (Mem.ndS hm') hw (Mem.freshS hm') hok1 hone h2 (by omega)) ?_
 rintro v1 oa ⟨oW3,oX1,rfl,hok3,hG1⟩
 rw [Nat.zero_add] at hok3 ⊢
 simp only [List.cons_append,List.append_assoc]
 haveI:=hG1.cs
 repeat' (first|(refine wlS ?_)|(refine wlG ?_)|(refine wlB ?_)|(refine wlE ?_)|(refine efSvao ?_;intro v oa ho)|(refine efBnn ?_;intro n hn)|(refine wl_skip rfl rfl ?_)|((with_reducible refine wc_seq ?_);intro K hK)|(refine auC ?_)|(refine wc_cond rfl (fun hc=>?_) (fun hc=>?_))|(refine wc_draw (by kernel_rfl) (by kernel_rfl) (by decide +kernel) ?_;intro w0 hw0 hm0;(try simp only [List.append_eq,List.cons_append,List.nil_append]))|(refine auP ?_)|((refine auR ?_);clear hK K)|(refine auR ?_)|((with_reducible refine hK _ _ ?_);clear hK K)|fail)
 refine wl_updO rfl rfl rfl rfl rfl (fun w' hm' hw=>WC.upd w' (hm'.below rfl) (Mem.ndS hm') hw (Mem.freshS hm') hok hone h2 (by omega)) ?_
 rintro v3 oa ⟨oW4,oX2,rfl,hok4,hG2⟩
 rw [Nat.zero_add] at hok4 ⊢
 haveI:=hG2.cs
 clear h2 NW OPS
 have FO1:=fun w' hd (r:Int)=>fin_judge (b:=x1) (many:=nn) (WC.asr g1) w' hd r
 have FO:=fun w' hd (r:Int)=>fin_judge (b:=x) (many:=nn) (WC.asr g) w' hd r
 have OC:=fun w' hd=>over_c (b:=x) (t:=t) (g:=g) (many:=nn) (o:=false) w' hd
 have OC1:=fun w' hd=>over_c (b:=x1) (t:=t) (g:=g1) (many:=nn) (o:=false) w' hd
 repeat' (first|(refine wlS ?_)|(refine wlG ?_)|(refine wlB ?_)|((with_reducible refine sel_call ?_);refine wl_rd rfl rfl (rd_call rfl rfl rfl (fun w hm=>by with_reducible first|exact beq_r w (VwB.out w hm) (VwB.out w hm) (by with_reducible assumption)|exact FO1 w (Mem.hd hm) _|exact FO w (Mem.hd hm) _|exact OC1 w (Mem.hd hm)|exact OC w (Mem.hd hm))) ?_)|(refine wlE ?_)|(refine efSvao ?_;intro v oa ho)|(refine efBnn ?_;intro n hn)|(refine wl_skip rfl rfl ?_)|((with_reducible refine wc_seq ?_);intro K hK)|(refine auC ?_)|(refine wc_cond rfl (fun hc=>?_) (fun hc=>?_))|(refine wc_draw (by kernel_rfl) (by kernel_rfl) (by decide +kernel) ?_;intro w0 hw0 hm0;(try simp only [List.append_eq,List.cons_append,List.nil_append]))|(refine auP ?_)|((refine auR ?_);clear hK K)|(refine auR ?_)|((with_reducible refine hK _ _ ?_);clear hK K)|fail)
 first|refine end_ret (ResP.tmp rfl ResP.nil) ?_|refine end_normal (ResP.tmp rfl ResP.nil) ?_
 first|rfl|(show _=_;rfl)|(simp only [tupV, *];done)
set_option maxHeartbeats 8000000 in
theorem asks_err (hT:Tab w)(WC:WayC w t false St one Ok up out fin chk){s0:St}{kind room:Int}{kz v2:Value}{m nn:Nat}{iv p q:List Nat}(h0:Cb w kz m p)(hi:B16 iv)(h2:Cb w v2 nn q)(hnn:nn≤2048)(hone:∀ x,one=some x→s0=x)(he:((fin (up s0 q)).2 != 0)=true)(NW:NewOk w kind kz m p iv t Ok s0) :
  Calls Tryz.prog 3 [.int .i64 kind,kz,.agg (bys iv),v2,.int .i64 room].toArray w (Ret (.bool true) w):=by
 have i0:=h0.old
 have i2:=h2.old
 haveI:NBy iv 16:=⟨hi.len⟩
 have OPS:=fun w' (hb:Below w.heap.size w w')=>ops_c w' (hT.below hb)
 have qq:(out s0 q == out s0 q)=true:=by simp
 unfold NewOk at NW
 clear h0
 refine fn_ret (N:=_) Tryz.func3 rfl Tryz.ntmps3 Tryz.results3 (by simp) ?_
 simp only [initS,Nat.reduceAdd,Nat.zero_add]
 repeat' (first|(refine wlS ?_)|(refine wlG ?_)|(refine wlB ?_)|(refine wlPN ?_)|((with_reducible refine sel_call ?_);refine wl_rd rfl rfl (rd_call rfl rfl rfl (fun w hm=>by with_reducible exact OPS w (hm.below rfl))) ?_)|(refine wlE ?_)|(refine efSvao ?_;intro v oa ho)|((with_reducible refine sel_call ?_);first|(refine wl_newO rfl rfl rfl rfl rfl (fun w hm=>by with_reducible exact NW w (hm.below rfl) (VwB.out w hm)) ?_;intro x oa hx))|(refine efBnn ?_;intro n hn)|(refine wl_skip rfl rfl ?_)|((with_reducible refine wc_seq ?_);intro K hK)|(refine auC ?_)|(refine wc_cond rfl (fun hc=>?_) (fun hc=>?_))|(refine wc_draw (by kernel_rfl) (by kernel_rfl) (by decide +kernel) ?_;intro w0 hw0 hm0;(try simp only [List.append_eq,List.cons_append,List.nil_append]))|(refine auP ?_)|((refine auR ?_);clear hK K)|(refine auR ?_)|((with_reducible refine hK _ _ ?_);clear hK K)|fail)
 rename_i x1 oa1 hx1
 obtain ⟨g1,oW1,rfl,hok1⟩:=hx1
 obtain ⟨g,oW,rfl,hok⟩:=hx
 simp only [List.cons_append,List.append_assoc]
 refine wl_updO rfl rfl rfl rfl rfl (fun w' hm' hw=>WC.upd w' (hm'.below rfl) (Mem.ndS hm') hw (Mem.freshS hm') hok1 hone h2 (by omega)) ?_
 rintro v1 oa ⟨oW3,oX1,rfl,hok3,hG1⟩
 rw [Nat.zero_add] at hok3 ⊢
 simp only [List.cons_append,List.append_assoc]
 haveI:=hG1.cs
 repeat' (first|(refine wlS ?_)|(refine wlG ?_)|(refine wlB ?_)|(refine wlE ?_)|(refine efSvao ?_;intro v oa ho)|(refine efBnn ?_;intro n hn)|(refine wl_skip rfl rfl ?_)|((with_reducible refine wc_seq ?_);intro K hK)|(refine auC ?_)|(refine wc_cond rfl (fun hc=>?_) (fun hc=>?_))|(refine wc_draw (by kernel_rfl) (by kernel_rfl) (by decide +kernel) ?_;intro w0 hw0 hm0;(try simp only [List.append_eq,List.cons_append,List.nil_append]))|(refine auP ?_)|((refine auR ?_);clear hK K)|(refine auR ?_)|((with_reducible refine hK _ _ ?_);clear hK K)|fail)
 refine wl_updO rfl rfl rfl rfl rfl (fun w' hm' hw=>WC.upd w' (hm'.below rfl) (Mem.ndS hm') hw (Mem.freshS hm') hok hone h2 (by omega)) ?_
 rintro v3 oa ⟨oW4,oX2,rfl,hok4,hG2⟩
 rw [Nat.zero_add] at hok4 ⊢
 haveI:=hG2.cs
 clear h2 NW OPS
 repeat' (first|(refine wlS ?_)|(refine wlG ?_)|(refine wlB ?_)|((with_reducible refine sel_call ?_);refine wl_rd rfl rfl (rd_call rfl rfl rfl (fun w hm=>by with_reducible exact beq_r w (VwB.out w hm) (VwB.out w hm) (by with_reducible assumption))) ?_)|(refine wlE ?_)|(refine efSvao ?_;intro v oa ho)|(refine efBnn ?_;intro n hn)|(refine wl_skip rfl rfl ?_)|((with_reducible refine wc_seq ?_);intro K hK)|(refine auC ?_)|(refine wc_cond rfl (fun hc=>?_) (fun hc=>?_))|(refine wc_draw (by kernel_rfl) (by kernel_rfl) (by decide +kernel) ?_;intro w0 hw0 hm0;(try simp only [List.append_eq,List.cons_append,List.nil_append]))|(refine auP ?_)|((refine auR ?_);clear hK K)|(refine auR ?_)|((with_reducible refine hK _ _ ?_);clear hK K)|fail)
 refine wl_updO rfl rfl rfl rfl rfl (fun w' hm' hw=>WC.finE w' (hm'.below rfl) (Mem.ndS hm') hw (Mem.freshS hm') hok3 he) ?_
 rintro _ oa rfl
 simp only [List.cons_append,List.append_assoc]
 have he0:((fin (up s0 q)).2 == 0)=false:=by simpa using he
 have ee:((fin (up s0 q)).2 == (fin (up s0 q)).2)=true:=by simp
 have OC1:=fun w' hd=>over_c (b:=x1) (t:=t) (g:=g1) (many:=nn) (o:=true) w' hd
 repeat' (first|(refine wlS ?_)|(refine wlG ?_)|(refine wlB ?_)|((with_reducible refine sel_call ?_);refine wl_rd rfl rfl (rd_call rfl rfl rfl (fun w hm=>by with_reducible exact OC1 w (Mem.hd hm))) ?_)|(refine wlE ?_)|(refine efSvao ?_;intro v oa ho)|(refine efBnn ?_;intro n hn)|(refine wl_skip rfl rfl ?_)|((with_reducible refine wc_seq ?_);intro K hK)|(refine auC ?_)|(refine wc_cond rfl (fun hc=>?_) (fun hc=>?_))|(refine wc_draw (by kernel_rfl) (by kernel_rfl) (by decide +kernel) ?_;intro w0 hw0 hm0;(try simp only [List.append_eq,List.cons_append,List.nil_append]))|(refine auP ?_)|((refine auR ?_);clear hK K)|(refine auR ?_)|((with_reducible refine hK _ _ ?_);clear hK K)|fail)
 refine wl_updO rfl rfl rfl rfl rfl (fun w' hm' hw=>WC.finE w' (hm'.below rfl) (Mem.ndS hm') hw (Mem.freshS hm') hok4 he) ?_
 rintro _ oa rfl
 simp only [List.cons_append,List.append_assoc]
 have OC:=fun w' hd=>over_c (b:=x) (t:=t) (g:=g) (many:=nn) (o:=true) w' hd
 repeat' (first|(refine wlS ?_)|(refine wlG ?_)|(refine wlB ?_)|((with_reducible refine sel_call ?_);refine wl_rd rfl rfl (rd_call rfl rfl rfl (fun w hm=>by with_reducible first|exact OC1 w (Mem.hd hm)|exact OC w (Mem.hd hm))) ?_)|(refine wlE ?_)|(refine efSvao ?_;intro v oa ho)|(refine efBnn ?_;intro n hn)|(refine wl_skip rfl rfl ?_)|((with_reducible refine wc_seq ?_);intro K hK)|(refine auC ?_)|(refine wc_cond rfl (fun hc=>?_) (fun hc=>?_))|(refine wc_draw (by kernel_rfl) (by kernel_rfl) (by decide +kernel) ?_;intro w0 hw0 hm0;(try simp only [List.append_eq,List.cons_append,List.nil_append]))|(refine auP ?_)|((refine auR ?_);clear hK K)|(refine auR ?_)|((with_reducible refine hK _ _ ?_);clear hK K)|fail)
 first|refine end_ret (ResP.tmp rfl ResP.nil) ?_|refine end_normal (ResP.tmp rfl ResP.nil) ?_
 first|rfl|(show _=_;rfl)|(simp only [tupV, *];done)
set_option maxHeartbeats 8000000 in
theorem asks_ok (hT:Tab w)(WC:WayC w t false St one Ok up out fin chk){s0:St}{kind room:Int}{kz v2:Value}{m nn:Nat}{iv p q:List Nat}(h0:Cb w kz m p)(hi:B16 iv)(h2:Cb w v2 nn q)(hnn:nn≤2048)(hone:∀ x,one=some x→s0=x)(he:(fin (up s0 q)).2=0)(hl:(fin (up s0 q)).1.length≤64)(NW:NewOk w kind kz m p iv t Ok s0) :
  Calls Tryz.prog 3 [.int .i64 kind,kz,.agg (bys iv),v2,.int .i64 room].toArray w (Ret (.bool true) w):=by
 have i0:=h0.old
 have i2:=h2.old
 haveI:NBy iv 16:=⟨hi.len⟩
 have OPS:=fun w' (hb:Below w.heap.size w w')=>ops_c w' (hT.below hb)
 have qq:(out s0 q == out s0 q)=true:=by simp
 unfold NewOk at NW
 clear h0
 refine fn_ret (N:=_) Tryz.func3 rfl Tryz.ntmps3 Tryz.results3 (by simp) ?_
 simp only [initS,Nat.reduceAdd,Nat.zero_add]
 repeat' (first|(refine wlS ?_)|(refine wlG ?_)|(refine wlB ?_)|(refine wlPN ?_)|((with_reducible refine sel_call ?_);refine wl_rd rfl rfl (rd_call rfl rfl rfl (fun w hm=>by with_reducible exact OPS w (hm.below rfl))) ?_)|(refine wlE ?_)|(refine efSvao ?_;intro v oa ho)|((with_reducible refine sel_call ?_);first|(refine wl_newO rfl rfl rfl rfl rfl (fun w hm=>by with_reducible exact NW w (hm.below rfl) (VwB.out w hm)) ?_;intro x oa hx))|(refine efBnn ?_;intro n hn)|(refine wl_skip rfl rfl ?_)|((with_reducible refine wc_seq ?_);intro K hK)|(refine auC ?_)|(refine wc_cond rfl (fun hc=>?_) (fun hc=>?_))|(refine wc_draw (by kernel_rfl) (by kernel_rfl) (by decide +kernel) ?_;intro w0 hw0 hm0;(try simp only [List.append_eq,List.cons_append,List.nil_append]))|(refine auP ?_)|((refine auR ?_);clear hK K)|(refine auR ?_)|((with_reducible refine hK _ _ ?_);clear hK K)|fail)
 rename_i x1 oa1 hx1
 obtain ⟨g1,oW1,rfl,hok1⟩:=hx1
 obtain ⟨g,oW,rfl,hok⟩:=hx
 simp only [List.cons_append,List.append_assoc]
 refine wl_updO rfl rfl rfl rfl rfl (fun w' hm' hw=>WC.upd w' (hm'.below rfl) (Mem.ndS hm') hw (Mem.freshS hm') hok1 hone h2 (by omega)) ?_
 rintro v1 oa ⟨oW3,oX1,rfl,hok3,hG1⟩
 rw [Nat.zero_add] at hok3 ⊢
 simp only [List.cons_append,List.append_assoc]
 haveI:=hG1.cs
 repeat' (first|(refine wlS ?_)|(refine wlG ?_)|(refine wlB ?_)|(refine wlE ?_)|(refine efSvao ?_;intro v oa ho)|(refine efBnn ?_;intro n hn)|(refine wl_skip rfl rfl ?_)|((with_reducible refine wc_seq ?_);intro K hK)|(refine auC ?_)|(refine wc_cond rfl (fun hc=>?_) (fun hc=>?_))|(refine wc_draw (by kernel_rfl) (by kernel_rfl) (by decide +kernel) ?_;intro w0 hw0 hm0;(try simp only [List.append_eq,List.cons_append,List.nil_append]))|(refine auP ?_)|((refine auR ?_);clear hK K)|(refine auR ?_)|((with_reducible refine hK _ _ ?_);clear hK K)|fail)
 refine wl_updO rfl rfl rfl rfl rfl (fun w' hm' hw=>WC.upd w' (hm'.below rfl) (Mem.ndS hm') hw (Mem.freshS hm') hok hone h2 (by omega)) ?_
 rintro v3 oa ⟨oW4,oX2,rfl,hok4,hG2⟩
 rw [Nat.zero_add] at hok4 ⊢
 haveI:=hG2.cs
 clear h2 NW OPS
 have qf:((fin (up s0 q)).1 == (fin (up s0 q)).1)=true:=by simp
 obtain ⟨L,hL⟩:∃ L,L=(fin (up s0 q)).1.length:=⟨_,rfl⟩
 have FA:∀ w',Below w.heap.size w w'→_:=fun w' hb nd hd hf=>WC.finA (b:=x1) (room:=-1) w' hb nd hd hf hok3 he (by decide)
 have OC1f:=fun w' hd=>over_c (b:=x1) (t:=t) (g:=g1) (many:=nn) (o:=false) w' hd
 rw [←hL] at FA hl
 have l1:decide ((L:Int)<0)=false:=decide_eq_false (by omega)
 have l2:decide ((L:Int)>64)=false:=decide_eq_false (by omega)
 repeat' (first|(refine wlS ?_)|(refine wlG ?_)|(refine wlB ?_)|((with_reducible refine sel_call ?_);refine wl_rd rfl rfl (rd_call rfl rfl rfl (fun w hm=>by with_reducible first|exact beq_r w (VwB.out w hm) (VwB.out w hm) (by with_reducible assumption)|exact FA w (hm.below rfl) (Mem.ndS hm) (Mem.hd hm) (Mem.freshS hm)|exact OC1f w (Mem.hd hm))) ?_)|(refine wlE ?_)|(refine efSvao ?_;intro v oa ho)|(refine efBnn ?_;intro n hn)|(refine wl_skip rfl rfl ?_)|((with_reducible refine wc_seq ?_);intro K hK)|(refine auC ?_)|(refine wc_cond rfl (fun hc=>?_) (fun hc=>?_))|(refine wc_draw (by kernel_rfl) (by kernel_rfl) (by decide +kernel) ?_;intro w0 hw0 hm0;(try simp only [List.append_eq,List.cons_append,List.nil_append]))|(refine auP ?_)|((refine auR ?_);clear hK K)|(refine auR ?_)|((with_reducible refine hK _ _ ?_);clear hK K)|fail)
 have ll:((L:Int) == (L:Int))=true:=by simp
 have ln:((L:Int) != (L:Int))=false:=by simp
 rename_i KS hKS
 have FIN:∀ s l,SubS [(11,ptr x1),(13,ptr x),(20,.int .i64 (L:Int)),(21,.int .i64 0)] s→SubL (opB x1 t g1 nn false::(oW3++(oX1++(opB x t g nn false::(oW4++oX2))))) l→KS s l:=by
  clear hK K
  intro s l h1 h2
  refine hKS s l (wc_sub h1 h2 rfl ?_)
  clear hKS h1 h2 KS s l FA OC1f
  repeat' (first|(refine wlS ?_)|(refine wlG ?_)|(refine wlB ?_)|(refine wlE ?_)|(refine efSvao ?_;intro v oa ho)|(refine efBnn ?_;intro n hn)|(refine wl_skip rfl rfl ?_)|((with_reducible refine wc_seq ?_);intro K hK)|(refine auC ?_)|(refine wc_cond rfl (fun hc=>?_) (fun hc=>?_))|(refine wc_draw (by kernel_rfl) (by kernel_rfl) (by decide +kernel) ?_;intro w0 hw0 hm0;(try simp only [List.append_eq,List.cons_append,List.nil_append]))|(refine auP ?_)|((refine auR ?_);clear hK K)|(refine auR ?_)|((with_reducible refine hK _ _ ?_);clear hK K)|fail)
  refine wl_updO rfl rfl rfl rfl rfl (fun w' hm' hw=>WC.finO w' (hm'.below rfl) (Mem.ndS hm') hw (Mem.freshS hm') hok3 he (room:=(L:Int)) (by omega) (by omega)) ?_
  rintro v5 oa ⟨oF1,rfl,hv5⟩
  simp only [List.cons_append,List.append_assoc]
  rw [←hL] at hv5 ⊢
  haveI:=hv5
  repeat' (first|(refine wlS ?_)|(refine wlG ?_)|(refine wlB ?_)|(refine wlE ?_)|(refine efSvao ?_;intro v oa ho)|(refine efBnn ?_;intro n hn)|(refine wl_skip rfl rfl ?_)|((with_reducible refine wc_seq ?_);intro K hK)|(refine auC ?_)|(refine wc_cond rfl (fun hc=>?_) (fun hc=>?_))|(refine wc_draw (by kernel_rfl) (by kernel_rfl) (by decide +kernel) ?_;intro w0 hw0 hm0;(try simp only [List.append_eq,List.cons_append,List.nil_append]))|(refine auP ?_)|((refine auR ?_);clear hK K)|(refine auR ?_)|((with_reducible refine hK _ _ ?_);clear hK K)|fail)
  refine wl_updO rfl rfl rfl rfl rfl (fun w' hm' hw=>WC.finO w' (hm'.below rfl) (Mem.ndS hm') hw (Mem.freshS hm') hok4 he (room:=64) (by decide) (by omega)) ?_
  rintro v6 oa ⟨oF2,rfl,hv6⟩
  simp only [List.cons_append,List.append_assoc]
  rw [←hL] at hv6 ⊢
  haveI:=hv6
  have OC:=fun w' hd=>over_c (b:=x) (t:=t) (g:=g) (many:=nn) (o:=true) w' hd
  have OC1:=fun w' hd=>over_c (b:=x1) (t:=t) (g:=g1) (many:=nn) (o:=true) w' hd
  repeat' (first|(refine wlS ?_)|(refine wlG ?_)|(refine wlB ?_)|((with_reducible refine sel_call ?_);refine wl_rd rfl rfl (rd_call rfl rfl rfl (fun w hm=>by with_reducible first|exact beq_r w (VwB.out w hm) (VwB.out w hm) (by with_reducible assumption)|exact OC1 w (Mem.hd hm)|exact OC w (Mem.hd hm))) ?_)|(refine wlE ?_)|(refine efSvao ?_;intro v oa ho)|(refine efBnn ?_;intro n hn)|(refine wl_skip rfl rfl ?_)|((with_reducible refine wc_seq ?_);intro K hK)|(refine auC ?_)|(refine wc_cond rfl (fun hc=>?_) (fun hc=>?_))|(refine wc_draw (by kernel_rfl) (by kernel_rfl) (by decide +kernel) ?_;intro w0 hw0 hm0;(try simp only [List.append_eq,List.cons_append,List.nil_append]))|(refine auP ?_)|((refine auR ?_);clear hK K)|(refine auR ?_)|((with_reducible refine hK _ _ ?_);clear hK K)|fail)
  first|refine end_ret (ResP.tmp rfl ResP.nil) ?_|refine end_normal (ResP.tmp rfl ResP.nil) ?_
  first|rfl|(show _=_;rfl)|(simp only [tupV, *];done)
 clear hKS
 by_cases hr:room<0
 ·have r1:decide (0≤room)=false:=decide_eq_false (by omega)
  repeat' (first|(refine wlS ?_)|(refine wlG ?_)|(refine wlB ?_)|(refine wlE ?_)|(refine efSvao ?_;intro v oa ho)|(refine efBnn ?_;intro n hn)|(refine wl_skip rfl rfl ?_)|((with_reducible refine wc_seq ?_);intro K hK)|(refine auC ?_)|(refine wc_cond rfl (fun hc=>?_) (fun hc=>?_))|(refine wc_draw (by kernel_rfl) (by kernel_rfl) (by decide +kernel) ?_;intro w0 hw0 hm0;(try simp only [List.append_eq,List.cons_append,List.nil_append]))|(refine auP ?_)|((refine auR ?_);clear hK K)|(refine auR ?_)|((with_reducible refine hK _ _ ?_);clear hK K)|fail)
  rw [r1]
  repeat' (first|(refine wlS ?_)|(refine wlG ?_)|(refine wlB ?_)|(refine wlE ?_)|(refine efSvao ?_;intro v oa ho)|(refine efBnn ?_;intro n hn)|(refine wl_skip rfl rfl ?_)|((with_reducible refine wc_seq ?_);intro K hK)|(refine auC ?_)|(refine wc_cond rfl (fun hc=>?_) (fun hc=>?_))|(refine wc_draw (by kernel_rfl) (by kernel_rfl) (by decide +kernel) ?_;intro w0 hw0 hm0;(try simp only [List.append_eq,List.cons_append,List.nil_append]))|(refine auP ?_)|((refine auR ?_);clear hK K)|(refine auR ?_)|((with_reducible refine hK _ _ ?_);clear hK K)|fail)
  refine FIN _ _ (by exact ⟨rfl,rfl,rfl,rfl,trivial⟩) ?_
  repeat (first|exact SubL.nil|exact SubL.refl _|refine SubL.keep ?_|exact SubL.headA _ _|refine SubL.keepA ?_ _|refine SubL.skip ?_|refine SubL.skipA ?_ _)
 ·have r1:decide (0≤room)=true:=decide_eq_true (by omega)
  by_cases hr2:room<(L:Int)
  ·have r2:decide (room<(L:Int))=true:=decide_eq_true hr2
   have FS:∀ w',Below w.heap.size w w'→_:=fun w' hb nd hd hf=>WC.finS (b:=x1) (room:=room) w' hb nd hd hf hok3 he (by omega) (by omega)
   rw [←hL] at FS
   repeat' (first|(refine wlS ?_)|(refine wlG ?_)|(refine wlB ?_)|(refine wlE ?_)|(refine efSvao ?_;intro v oa ho)|(refine efBnn ?_;intro n hn)|(refine wl_skip rfl rfl ?_)|((with_reducible refine wc_seq ?_);intro K hK)|(refine auC ?_)|(refine wc_cond rfl (fun hc=>?_) (fun hc=>?_))|(refine wc_draw (by kernel_rfl) (by kernel_rfl) (by decide +kernel) ?_;intro w0 hw0 hm0;(try simp only [List.append_eq,List.cons_append,List.nil_append]))|(refine auP ?_)|((refine auR ?_);clear hK K)|(refine auR ?_)|((with_reducible refine hK _ _ ?_);clear hK K)|fail)
   rw [r1]
   repeat' (first|(refine wlS ?_)|(refine wlG ?_)|(refine wlB ?_)|((with_reducible refine sel_call ?_);refine wl_rd rfl rfl (rd_call rfl rfl rfl (fun w hm=>by with_reducible first|exact FS w (hm.below rfl) (Mem.ndS hm) (Mem.hd hm) (Mem.freshS hm)|exact OC1f w (Mem.hd hm))) ?_)|(refine wlE ?_)|(refine efSvao ?_;intro v oa ho)|(refine efBnn ?_;intro n hn)|(refine wl_skip rfl rfl ?_)|((with_reducible refine wc_seq ?_);intro K hK)|(refine auC ?_)|(refine wc_cond rfl (fun hc=>?_) (fun hc=>?_))|(refine wc_draw (by kernel_rfl) (by kernel_rfl) (by decide +kernel) ?_;intro w0 hw0 hm0;(try simp only [List.append_eq,List.cons_append,List.nil_append]))|(refine auP ?_)|((refine auR ?_);clear hK K)|(refine auR ?_)|((with_reducible refine hK _ _ ?_);clear hK K)|fail)
   refine FIN _ _ (by exact ⟨rfl,rfl,rfl,rfl,trivial⟩) ?_
   repeat (first|exact SubL.nil|exact SubL.refl _|refine SubL.keep ?_|exact SubL.headA _ _|refine SubL.keepA ?_ _|refine SubL.skip ?_|refine SubL.skipA ?_ _)
  ·have r2:decide (room<(L:Int))=false:=decide_eq_false hr2
   repeat' (first|(refine wlS ?_)|(refine wlG ?_)|(refine wlB ?_)|(refine wlE ?_)|(refine efSvao ?_;intro v oa ho)|(refine efBnn ?_;intro n hn)|(refine wl_skip rfl rfl ?_)|((with_reducible refine wc_seq ?_);intro K hK)|(refine auC ?_)|(refine wc_cond rfl (fun hc=>?_) (fun hc=>?_))|(refine wc_draw (by kernel_rfl) (by kernel_rfl) (by decide +kernel) ?_;intro w0 hw0 hm0;(try simp only [List.append_eq,List.cons_append,List.nil_append]))|(refine auP ?_)|((refine auR ?_);clear hK K)|(refine auR ?_)|((with_reducible refine hK _ _ ?_);clear hK K)|fail)
   rw [r1]
   repeat' (first|(refine wlS ?_)|(refine wlG ?_)|(refine wlB ?_)|(refine wlE ?_)|(refine efSvao ?_;intro v oa ho)|(refine efBnn ?_;intro n hn)|(refine wl_skip rfl rfl ?_)|((with_reducible refine wc_seq ?_);intro K hK)|(refine auC ?_)|(refine wc_cond rfl (fun hc=>?_) (fun hc=>?_))|(refine wc_draw (by kernel_rfl) (by kernel_rfl) (by decide +kernel) ?_;intro w0 hw0 hm0;(try simp only [List.append_eq,List.cons_append,List.nil_append]))|(refine auP ?_)|((refine auR ?_);clear hK K)|(refine auR ?_)|((with_reducible refine hK _ _ ?_);clear hK K)|fail)
   refine FIN _ _ (by exact ⟨rfl,rfl,rfl,rfl,trivial⟩) ?_
   repeat (first|exact SubL.nil|exact SubL.refl _|refine SubL.keep ?_|exact SubL.headA _ _|refine SubL.keepA ?_ _|refine SubL.skip ?_|refine SubL.skipA ?_ _)
end
end Go.Proofs.YtkendlnjaopbeaaGreatDoor
