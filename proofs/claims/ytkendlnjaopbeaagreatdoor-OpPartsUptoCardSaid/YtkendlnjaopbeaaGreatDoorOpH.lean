/- The package op,walked: what is new,for digests,marks,signers,judges. -/
import Derived.Test.YtkendlnjaopbeaaGreatDoorJnAP
import Derived.Test.YtkendlnjaopbeaaGreatDoorJnAQ
namespace Go.Proofs.YtkendlnjaopbeaaGreatDoor
open Go.RowKit
theorem rwA_one (k:Nat)(A:Array Value):rwA [(k,A)]=A:=by unfold rwA;simp [rwL]
attribute [local irreducible] rwA bys
set_option linter.unusedVariables false
set_option linter.unusedSimpArgs false
set_option maxRecDepth 100000
instance seg_mac {s:MS}[h:MSo s]:SegL (rwA (sgM s)) 146:=⟨Cells.size,Cells.one⟩
instance sp_dig:SP Tryz.prog 82 [(0,73)]:=⟨by kernel_rfl⟩
instance sp_mrk:SP Tryz.prog 100 [(0,146)]:=⟨by kernel_rfl⟩
instance sp_mj:SP Tryz.prog 103 [(0,146)]:=⟨by kernel_rfl⟩
instance sp_sgn:SP Tryz.prog 87 [(0,1),(1,32)]:=⟨by kernel_rfl⟩
instance sp_sj:SP Tryz.prog 94 [(0,1),(1,32)]:=⟨by kernel_rfl⟩
instance zg_dig:ZG Tryz.prog 82 [(73,rwA (sgH zeroH))]:=⟨by kernel_rfl,inferInstance⟩
instance zg_mrk:ZG Tryz.prog 100 [(146,rwA (sgM zeroM))]:=⟨by kernel_rfl,inferInstance⟩
instance zg_mj:ZG Tryz.prog 103 [(146,rwA (sgM zeroM))]:=⟨by kernel_rfl,inferInstance⟩
instance zg_sgn:ZG Tryz.prog 87 (sgB (.slice none 0 0) (List.replicate 32 0)):=⟨by kernel_rfl,inferInstance⟩
instance zg_sj:ZG Tryz.prog 94 (sgB (.slice none 0 0) (List.replicate 32 0)):=⟨by kernel_rfl,inferInstance⟩
set_option maxHeartbeats 4000000 in
theorem way_1 (w:World){v:Value}{p:List Nat}(hp:Cb w v 0 p){W iv:List Nat}{R:Nat}{e:Int}[hkk:AKey W](hi:B16 iv)(EX:∀ w',Cb w' v 0 p→Calls Tryz.prog 25 [v].toArray w' (Ret (.tuple #[kv W R,.int .i64 e]) w')) :
  Calls Tryz.prog 18 [.int .i64 1,v,.agg (bys iv)].toArray w (RetO (fun g:Nat=>.iface 80 (ptr g)) (fun g oa=>oa=[(g,(rwA (sgH newH),82))]) w):=by
 have i1:=hp.old
 haveI:NBy iv 16:=⟨hi.len⟩
 obtain ⟨q0,hq0⟩:∃ q,(List.replicate 32 0).take 0++(p.take 0++(List.replicate 32 0).drop (0+0))=q:=⟨_,rfl⟩
 have hfit:0+0≤(List.replicate 32 0).length:=by simp
 have hk0:Nat.min 0 32=0:=rfl
 haveI:NBy q0 32:=⟨by rw [←hq0];simp⟩
 have NH:=new_c
 clear hp
 refine fn_own (N:=_) Tryz.func18 rfl Tryz.ntmps18 Tryz.results18 (by simp) ?_
 simp only [initS,Nat.reduceAdd,Nat.zero_add]
 repeat' (first|(refine wlS ?_)|(refine wlG ?_)|(refine wlB ?_)|((with_reducible refine sel_call ?_);refine wl_rd rfl rfl (rd_call rfl rfl rfl (fun w hm=>by with_reducible first|exact EX w (VwB.out w hm)|exact NH w)) ?_)|((with_reducible refine sel_makeInterface ?_);refine wv rfl rfl (rd_mkI rfl rfl) ?_)|(refine wlE ?_)|(refine efSvvp ?_;intro v hv hp)|(refine efSvao ?_;intro v oa ho)|(refine efM ?_)|(refine efMvao ?_;intro v oa ho)|((with_reducible refine sel_store ?_);first|(refine wl_putB (e:=5) rfl rfl rfl rfl rfl ?_;intro oa ho))|(refine efG ?_)|(refine efGnn ?_;intro n hn)|(refine efZCnn ?_;intro n hn)|(refine efBnn ?_;intro n hn)|(refine efB ?_)|(refine efBS ?_)|(refine wl_skip rfl rfl ?_)|((with_reducible refine wc_seq ?_);intro K hK)|(refine auC ?_)|(refine wc_cond rfl (fun hc=>?_) (fun hc=>?_))|(refine wc_draw (by kernel_rfl) (by kernel_rfl) (by decide +kernel) ?_;intro w0 hw0 hm0;(try simp only [List.append_eq,List.cons_append,List.nil_append]))|(refine auP ?_)|((refine auR ?_);clear hK K)|(refine auR ?_)|((with_reducible refine hK _ _ ?_);clear hK K)|fail)
 first|refine end_ret (ResP.tmp rfl ResP.nil) ?_|refine end_normal (ResP.tmp rfl ResP.nil) ?_
 (try dsimp only [tupV])
 rw [rwA_one]
 exact ⟨_,_,rfl,rfl,.keep .nil⟩
set_option maxHeartbeats 4000000 in
theorem way_2 (w:World)(hT:Tab w){v:Value}{n:Nat}{p:List Nat}(hp:Cb w v n p){W iv:List Nat}{R:Nat}[hkk:AKey W](hi:B16 iv)(EX:∀ w',Cb w' v n p→Calls Tryz.prog 25 [v].toArray w' (Ret (.tuple #[kv W R,.int .i64 0]) w')) :
  Calls Tryz.prog 18 [.int .i64 2,v,.agg (bys iv)].toArray w (RetO (fun g:Nat=>.iface 95 (ptr g)) (fun g oa=>oa=[(g,(rwA (sgM (newM p)),100))]) w):=by
 have i1:=hp.old
 haveI:NBy iv 16:=⟨hi.len⟩
 obtain ⟨k0,hk0⟩:∃ k,Nat.min n 32=k:=⟨_,rfl⟩
 obtain ⟨q0,hq0⟩:∃ q,(List.replicate 32 0).take 0++(p.take k0++(List.replicate 32 0).drop (0+k0))=q:=⟨_,rfl⟩
 have hfit:0+k0≤(List.replicate 32 0).length:=by rw [←hk0,List.length_replicate,Nat.zero_add];exact Nat.min_le_right _ _
 have hk1:k0≤n:=by rw [←hk0];exact Nat.min_le_left _ _
 have hk2:k0≤32:=by rw [←hk0];exact Nat.min_le_right _ _
 haveI:NBy q0 32:=⟨by rw [←hq0,List.take_zero,List.nil_append,List.length_append,List.length_take,List.length_drop,List.length_replicate,hp.ok.len];omega⟩
 haveI:ByL p:=⟨hp.ok.by'⟩
 have NG:=fun w' hb (h:Cb w' v n p)=>mnew_g w hT w' hb h
 have t0:((0:Int) != 0)=false:=rfl
 clear hp
 refine fn_own (N:=_) Tryz.func18 rfl Tryz.ntmps18 Tryz.results18 (by simp) ?_
 simp only [initS,Nat.reduceAdd,Nat.zero_add]
 repeat' (first|(refine wlS ?_)|(refine wlG ?_)|(refine wlB ?_)|((with_reducible refine sel_call ?_);refine wl_rd rfl rfl (rd_call rfl rfl rfl (fun w hm=>by with_reducible first|exact EX w (VwB.out w hm)|exact NG w (hm.below rfl) (VwB.out w hm))) ?_)|((with_reducible refine sel_makeInterface ?_);refine wv rfl rfl (rd_mkI rfl rfl) ?_)|(refine wlE ?_)|(refine efSvvp ?_;intro v hv hp)|(refine efSvao ?_;intro v oa ho)|(refine efM ?_)|(refine efMvao ?_;intro v oa ho)|((with_reducible refine sel_store ?_);first|(refine wl_putB (e:=5) rfl rfl rfl rfl rfl ?_;intro oa ho))|(refine efG ?_)|(refine efGnn ?_;intro n hn)|(refine efZCnn ?_;intro n hn)|(refine efBnn ?_;intro n hn)|(refine efB ?_)|(refine efBS ?_)|(refine wl_skip rfl rfl ?_)|((with_reducible refine wc_seq ?_);intro K hK)|(refine auC ?_)|(refine wc_cond rfl (fun hc=>?_) (fun hc=>?_))|(refine wc_draw (by kernel_rfl) (by kernel_rfl) (by decide +kernel) ?_;intro w0 hw0 hm0;(try simp only [List.append_eq,List.cons_append,List.nil_append]))|(refine auP ?_)|((refine auR ?_);clear hK K)|(refine auR ?_)|((with_reducible refine hK _ _ ?_);clear hK K)|fail)
 first|refine end_ret (ResP.tmp rfl ResP.nil) ?_|refine end_normal (ResP.tmp rfl ResP.nil) ?_
 (try dsimp only [tupV])
 rw [rwA_one]
 exact ⟨_,_,rfl,rfl,.keep .nil⟩
set_option maxHeartbeats 4000000 in
theorem way_3 (w:World)(hT:Tab w){v:Value}{n:Nat}{p:List Nat}(hp:Cb w v n p){W iv:List Nat}{R:Nat}[hkk:AKey W](hi:B16 iv)(EX:∀ w',Cb w' v n p→Calls Tryz.prog 25 [v].toArray w' (Ret (.tuple #[kv W R,.int .i64 0]) w')) :
  Calls Tryz.prog 18 [.int .i64 3,v,.agg (bys iv)].toArray w (RetO (fun g:Nat=>.iface 101 (ptr g)) (fun g oa=>oa=[(g,(rwA (sgM (newM p)),103))]) w):=by
 have i1:=hp.old
 haveI:NBy iv 16:=⟨hi.len⟩
 obtain ⟨k0,hk0⟩:∃ k,Nat.min n 32=k:=⟨_,rfl⟩
 obtain ⟨q0,hq0⟩:∃ q,(List.replicate 32 0).take 0++(p.take k0++(List.replicate 32 0).drop (0+k0))=q:=⟨_,rfl⟩
 have hfit:0+k0≤(List.replicate 32 0).length:=by rw [←hk0,List.length_replicate,Nat.zero_add];exact Nat.min_le_right _ _
 have hk1:k0≤n:=by rw [←hk0];exact Nat.min_le_left _ _
 have hk2:k0≤32:=by rw [←hk0];exact Nat.min_le_right _ _
 haveI:NBy q0 32:=⟨by rw [←hq0,List.take_zero,List.nil_append,List.length_append,List.length_take,List.length_drop,List.length_replicate,hp.ok.len];omega⟩
 haveI:ByL p:=⟨hp.ok.by'⟩
 have NG:=fun w' hb (h:Cb w' v n p)=>mnew_g w hT w' hb h
 have t0:((0:Int) != 0)=false:=rfl
 clear hp
 refine fn_own (N:=_) Tryz.func18 rfl Tryz.ntmps18 Tryz.results18 (by simp) ?_
 simp only [initS,Nat.reduceAdd,Nat.zero_add]
 repeat' (first|(refine wlS ?_)|(refine wlG ?_)|(refine wlB ?_)|((with_reducible refine sel_call ?_);refine wl_rd rfl rfl (rd_call rfl rfl rfl (fun w hm=>by with_reducible first|exact EX w (VwB.out w hm)|exact NG w (hm.below rfl) (VwB.out w hm))) ?_)|(refine wlE ?_)|(refine efSvvp ?_;intro v hv hp)|(refine efSvao ?_;intro v oa ho)|(refine efM ?_)|(refine efMvao ?_;intro v oa ho)|((with_reducible refine sel_store ?_);first|(refine wl_putB (e:=5) rfl rfl rfl rfl rfl ?_;intro oa ho))|(refine efG ?_)|(refine efGnn ?_;intro n hn)|(refine efZCnn ?_;intro n hn)|(refine efBnn ?_;intro n hn)|(refine efB ?_)|(refine efBS ?_)|(refine wl_skip rfl rfl ?_)|((with_reducible refine wc_seq ?_);intro K hK)|(refine auC ?_)|(refine wc_cond rfl (fun hc=>?_) (fun hc=>?_))|(refine wc_draw (by kernel_rfl) (by kernel_rfl) (by decide +kernel) ?_;intro w0 hw0 hm0;(try simp only [List.append_eq,List.cons_append,List.nil_append]))|(refine auP ?_)|((refine auR ?_);clear hK K)|(refine auR ?_)|((with_reducible refine hK _ _ ?_);clear hK K)|fail)
 rw [rwA_one]
 repeat' (first|(refine wlS ?_)|(refine wlG ?_)|(refine wlB ?_)|((with_reducible refine sel_makeInterface ?_);refine wv rfl rfl (rd_mkI rfl rfl) ?_)|(refine wlE ?_)|(refine efSvvp ?_;intro v hv hp)|(refine efSvao ?_;intro v oa ho)|(refine efM ?_)|(refine efMvao ?_;intro v oa ho)|((with_reducible refine sel_store ?_);first|(refine wl_putB (e:=5) rfl rfl rfl rfl rfl ?_;intro oa ho))|(refine efG ?_)|(refine efGnn ?_;intro n hn)|(refine efZCnn ?_;intro n hn)|(refine efBnn ?_;intro n hn)|(refine efB ?_)|(refine efBS ?_)|(refine wl_skip rfl rfl ?_)|((with_reducible refine wc_seq ?_);intro K hK)|(refine auC ?_)|(refine wc_cond rfl (fun hc=>?_) (fun hc=>?_))|(refine wc_draw (by kernel_rfl) (by kernel_rfl) (by decide +kernel) ?_;intro w0 hw0 hm0;(try simp only [List.append_eq,List.cons_append,List.nil_append]))|(refine auP ?_)|((refine auR ?_);clear hK K)|(refine auR ?_)|((with_reducible refine hK _ _ ?_);clear hK K)|fail)
 first|refine end_ret (ResP.tmp rfl ResP.nil) ?_|refine end_normal (ResP.tmp rfl ResP.nil) ?_
 (try dsimp only [tupV])
 rw [rwA_one]
 exact ⟨_,_,rfl,rfl,.keep .nil⟩
set_option maxHeartbeats 4000000 in
theorem way_4 (w:World){v:Value}{seed:Nat}(hs:seed<T256)(hp:Cb w v 32 (lb seed)){W iv:List Nat}{R:Nat}{e:Int}[hkk:AKey W](hi:B16 iv)(EX:∀ w',Cb w' v 32 (lb seed)→Calls Tryz.prog 25 [v].toArray w' (Ret (.tuple #[kv W R,.int .i64 e]) w')) :
  Calls Tryz.prog 18 [.int .i64 4,v,.agg (bys iv)].toArray w (RetO (fun g:Nat=>.iface 83 (ptr g)) (fun g oa=>oa=[(g,(rwA (sgB (.slice none 0 0) (lb seed)),87))]) w):=by
 have i1:=hp.old
 haveI:NBy iv 16:=⟨hi.len⟩
 have hk0:Nat.min 32 32=32:=rfl
 have hq0:(List.replicate 32 0).take 0++((lb seed).take 32++(List.replicate 32 0).drop (0+32))=lb seed:=by rw [List.take_zero,List.nil_append,List.take_of_length_le (l:=lb seed) (by rw [lb_len];decide),List.drop_of_length_le (by simp),List.append_nil]
 have hfit:0+32≤(List.replicate 32 0).length:=by simp
 haveI:SgOk (sgB (.slice none 0 0) (lb seed)):=inferInstance
 clear hp
 refine fn_own (N:=_) Tryz.func18 rfl Tryz.ntmps18 Tryz.results18 (by simp) ?_
 simp only [initS,Nat.reduceAdd,Nat.zero_add]
 repeat' (first|(refine wlS ?_)|(refine wlG ?_)|(refine wlB ?_)|((with_reducible refine sel_call ?_);refine wl_rd rfl rfl (rd_call rfl rfl rfl (fun w hm=>by with_reducible exact EX w (VwB.out w hm))) ?_)|((with_reducible refine sel_makeInterface ?_);refine wv rfl rfl (rd_mkI rfl rfl) ?_)|(refine wlE ?_)|(refine efSvvp ?_;intro v hv hp)|(refine efSvao ?_;intro v oa ho)|(refine efM ?_)|(refine efMvao ?_;intro v oa ho)|((with_reducible refine sel_store ?_);first|(refine wl_putB (e:=5) rfl rfl rfl rfl rfl ?_;intro oa ho))|(refine efG ?_)|(refine efGnn ?_;intro n hn)|(refine efZCnn ?_;intro n hn)|(refine efBnn ?_;intro n hn)|(refine efB ?_)|(refine efBS ?_)|(refine wl_skip rfl rfl ?_)|((with_reducible refine wc_seq ?_);intro K hK)|(refine auC ?_)|(refine wc_cond rfl (fun hc=>?_) (fun hc=>?_))|(refine wc_draw (by kernel_rfl) (by kernel_rfl) (by decide +kernel) ?_;intro w0 hw0 hm0;(try simp only [List.append_eq,List.cons_append,List.nil_append]))|(refine auP ?_)|((refine auR ?_);clear hK K)|(refine auR ?_)|((with_reducible refine hK _ _ ?_);clear hK K)|fail)
 first|refine end_ret (ResP.tmp rfl ResP.nil) ?_|refine end_normal (ResP.tmp rfl ResP.nil) ?_
 (try dsimp only [tupV])
 exact ⟨_,_,rfl,rfl,.keep .nil⟩
set_option maxHeartbeats 4000000 in
theorem way_5 (w:World){v:Value}{seed:Nat}(hs:seed<T256)(hu:upOk seed)(hp:Cb w v 32 (lb seed)){W iv:List Nat}{R:Nat}{e:Int}[hkk:AKey W](hi:B16 iv)(EX:∀ w',Cb w' v 32 (lb seed)→Calls Tryz.prog 25 [v].toArray w' (Ret (.tuple #[kv W R,.int .i64 e]) w')) :
  Calls Tryz.prog 18 [.int .i64 5,v,.agg (bys iv)].toArray w (RetO (fun g:Nat=>.iface 92 (ptr g)) (fun g oa=>oa=[(g,(rwA (sgB (.slice none 0 0) (lb seed)),94))]) w):=by
 have i1:=hp.old
 haveI:NBy iv 16:=⟨hi.len⟩
 have hk0:Nat.min 32 32=32:=rfl
 have hq0:(List.replicate 32 0).take 0++((lb seed).take 32++(List.replicate 32 0).drop (0+32))=lb seed:=by rw [List.take_zero,List.nil_append,List.take_of_length_le (l:=lb seed) (by rw [lb_len];decide),List.drop_of_length_le (by simp),List.append_nil]
 have hfit:0+32≤(List.replicate 32 0).length:=by simp
 haveI:SgOk (sgB (.slice none 0 0) (lb seed)):=inferInstance
 have t0:((0:Int) == 0)=true:=rfl
 have UP:∀ w,Calls Tryz.prog 26 [.agg (bys (lb seed))].toArray w (Ret (.tuple #[pv (upPt seed),.int .i64 0]) w):=fun w=>by have:=unpack_yes hs hu w;rwa [bv_lb] at this
 clear hp
 refine fn_own (N:=_) Tryz.func18 rfl Tryz.ntmps18 Tryz.results18 (by simp) ?_
 simp only [initS,Nat.reduceAdd,Nat.zero_add]
 repeat' (first|(refine wlS ?_)|(refine wlG ?_)|(refine wlB ?_)|((with_reducible refine sel_call ?_);refine wl_rd rfl rfl (rd_call rfl rfl rfl (fun w hm=>by with_reducible first|exact EX w (VwB.out w hm)|exact UP w)) ?_)|((with_reducible refine sel_makeInterface ?_);refine wv rfl rfl (rd_mkI rfl rfl) ?_)|(refine wlE ?_)|(refine efSvvp ?_;intro v hv hp)|(refine efSvao ?_;intro v oa ho)|(refine efM ?_)|(refine efMvao ?_;intro v oa ho)|((with_reducible refine sel_store ?_);first|(refine wl_putB (e:=5) rfl rfl rfl rfl rfl ?_;intro oa ho))|(refine efG ?_)|(refine efGnn ?_;intro n hn)|(refine efZCnn ?_;intro n hn)|(refine efBnn ?_;intro n hn)|(refine efB ?_)|(refine efBS ?_)|(refine wl_skip rfl rfl ?_)|((with_reducible refine wc_seq ?_);intro K hK)|(refine auC ?_)|(refine wc_cond rfl (fun hc=>?_) (fun hc=>?_))|(refine wc_draw (by kernel_rfl) (by kernel_rfl) (by decide +kernel) ?_;intro w0 hw0 hm0;(try simp only [List.append_eq,List.cons_append,List.nil_append]))|(refine auP ?_)|((refine auR ?_);clear hK K)|(refine auR ?_)|((with_reducible refine hK _ _ ?_);clear hK K)|fail)
 first|refine end_ret (ResP.tmp rfl ResP.nil) ?_|refine end_normal (ResP.tmp rfl ResP.nil) ?_
 (try dsimp only [tupV])
 exact ⟨_,_,rfl,rfl,.keep .nil⟩
end Go.Proofs.YtkendlnjaopbeaaGreatDoor
