/- The package op,walked: a sealer. -/
import Derived.Test.YtkendlnjaopbeaaGreatDoorJnAI
import Derived.Test.YtkendlnjaopbeaaGreatDoorJnAG
namespace Go.Proofs.YtkendlnjaopbeaaGreatDoor
open Go.RowKit
attribute [local irreducible] rwA bys
set_option linter.unusedVariables false
set_option linter.unusedSimpArgs false
set_option maxRecDepth 100000
instance (priority:=500) seg_oneO {v:Value} [h:One v]:SegL #[v] 1:=⟨rfl,by simp [h.out]⟩
abbrev sgSe (W:List Nat)(R:Nat)(iv:List Nat)(lv:Value):Sg:=[(241,rwA (sgA W R)),(16,bys iv),(1,#[lv])]
structure OutS (v:Value)(n:Nat)(p:List Nat)(oa:Blks):Prop where
 cs:CsB (Hd oa) v n p
 way:(n=0∧v=.slice none 0 0)∨∃ b off,v=.slice (some ⟨b,off,none⟩) n n
set_option maxHeartbeats 8000000 in
theorem se_more (w0 w:World)(hb:Below w0.heap.size w0 w){g k:Nat}{W iv L:List Nat}{R:Nat}{lv:Value}{oo:Blks}[hkk:AKey W](hR:R≤14)(hi:B16 iv)(ho:OwnB 5 lv k L oo)(hk:k<16)
  (nd:(keys ((g,(rwA (sgSe W R iv lv),109))::oo)).Nodup) (hd:Hd ((g,(rwA (sgSe W R iv lv),109))::oo) w) (hf:∀ k∈keys ((g,(rwA (sgSe W R iv lv),109))::oo),w0.heap.size≤k) {v:Value} {n:Nat} {p:List Nat} (hp:Cb w0 v n p) (hn:n≤2048) {q:List Nat} (hq:q=L++p) {m:Nat} (hm:m=(k+n) / 16) :
  Calls Tryz.prog 123 [ptr g,v].toArray w (RetU (fun v:Value=>v) ((g,(rwA (sgSe W R iv lv),109))::oo)
   (fun v ob=>∃ lv' oL oX,ob=(g,(rwA (sgSe W R (cblk (encL W R) iv q m) lv'),109))::(oX++oL)∧OwnB 5 lv' (k+n - 16 * m) (q.drop (16 * m)) oL∧OutS v (16 * m) (cflat (encL W R) iv q m) oX) w):=by
 have i1:CsB (Old w (keys ((g,(rwA (sgSe W R iv lv),109))::oo))) v n p:=hp.oldB hb hf
 have hql:q.length=k+n:=by rw [hq,List.length_append,ho.ok.len,hp.ok.len]
 have hqb:∀ x∈q,x<256:=fun x hx=>by
  rw [hq] at hx
  rcases List.mem_append.1 hx with hx|hx
  ·exact ho.ok.by' x hx
  ·exact hp.ok.by' x hx
 have ed:=edok hkk.ok R
 have EN:∀ b,B16 b→∀ w,Calls Tryz.prog 116 [kv W R,.agg (bys b)].toArray w (Ret (.agg (bys (encL W R b))) w):=fun b hb w=>enc_c w hR hb
 haveI:NBy iv 16:=⟨hi.len⟩
 haveI:One lv:=⟨by obtain ⟨_,_,rfl,_⟩:=ho.own.ln.out;rfl⟩
 haveI:SgOk (sgSe W R iv lv):=inferInstance
 have u1:IntKind.i64.wrap (((k+n:Nat):Int).tdiv 16)=(m:Int):=by rw [Int.tdiv_eq_ediv_of_nonneg (by omega),wrap_i64 _ (by omega) (by omega)];omega
 have u2:IntKind.i64.wrap ((m:Int) * 16)=((16 * m:Nat):Int):=by rw [wrap_i64 _ (by omega) (by omega)];omega
 clear hp hb hf
 subst hq
 by_cases hm0:m=0
 ·subst hm0
  have t1:(((16 * 0:Nat):Int) == 0)=true:=rfl
  refine fn_upd (N:=_) Tryz.func123 rfl Tryz.ntmps123 Tryz.results123 (by simp) nd hd ?_
  simp only [initS,Nat.reduceAdd,Nat.zero_add]
  repeat' (first|(refine wlS ?_)|(refine wlG ?_)|(refine wlB ?_)|(refine wlE ?_)|(refine efSvvp ?_;intro v hv hp)|(refine efSvao ?_;intro v oa ho)|(refine efG ?_)|(refine efB ?_)|(refine efBS ?_)|(refine wl_skip rfl rfl ?_)|(refine wdS ?_)|(refine wdG ?_)|(refine wdV ?_)|(refine wdB ?_)|(refine wdE ?_)|(refine wd_skip rfl rfl ?_)|((with_reducible refine seld_nil ?_);refine wd_nil hm0 ?_;clear hm0 hw0)|((with_reducible refine wc_seq ?_);intro K hK)|(refine auC ?_)|(refine wc_cond rfl (fun hc=>?_) (fun hc=>?_))|(refine wc_draw (by kernel_rfl) (by kernel_rfl) (by decide +kernel) ?_;intro w0 hw0 hm0;(try simp only [List.append_eq,List.cons_append,List.nil_append]))|(refine auP ?_)|((refine auR ?_);clear hK K)|(refine auR ?_)|((with_reducible refine hK _ _ ?_);clear hK K)|fail)
  first|refine end_ret (ResP.tmp rfl ResP.nil) ?_|refine end_normal (ResP.tmp rfl ResP.nil) ?_
  (try dsimp only [tupV])
  exact ⟨_,_,rfl,⟨v,oa,[],rfl,ho,CsB.nil,.inl ⟨rfl,rfl⟩⟩,SubL.refl _⟩
 ·have t1:(((16 * m:Nat):Int) == 0)=false:=by rw [beq_eq_false_iff_ne];omega
  have hfl:=(cflat_ok ed hi hqb m (by omega)).1
  have hlast:=cflat_last ed hi hqb (Nat.pos_of_ne_zero hm0) (by omega)
  have SE:∀ {u:Value} w'',Cb w'' u (16 * m) ((L++p).take (16 * m))→Calls Tryz.prog 124 [kv W R,.agg (bys iv),u].toArray w'' (RetO (fun v=>v) (fun v oa=>OwnB 5 v (16 * (m+1)) (cflat (encL W R) iv (padP ((L++p).take (16 * m))) (m+1)) oa) w''):=fun w'' h=>by
   have:=seal_c w'' ed EN hi (by omega) h
   rwa [show 16 * m / 16=m by omega] at this
  have hfr:=seal_front ed hi hqb (m:=m) (by omega)
  have u3:IntKind.i64.wrap (((16 * m:Nat):Int) - 16)=((16 * m - 16:Nat):Int):=by rw [wrap_i64 _ (by omega) (by omega)];omega
  have hBb:B16 (cblk (encL W R) iv (L++p) m):=cblk_ok ed hi hqb m (by omega)
  have hBl:=hBb.len
  clear EN ed
  generalize cflat (encL W R) iv (padP ((L++p).take (16 * m))) (m+1)=C1 at *
  generalize cflat (encL W R) iv (L++p) m=C at *
  generalize cblk (encL W R) iv (L++p) m=B at *
  have d0:16 * m - 0=16 * m:=rfl
  have d1:List.take (16 * m - 0) (List.drop 0 (L++p))=List.take (16 * m) (L++p):=rfl
  have d2:List.take (16 * m - 0) (List.drop 0 C1)=C:=hfr
  have d3:List.take (16 * m - (16 * m - 16)) (List.drop (16 * m - 16) C)=B:=by rw [hlast,show 16 * m - (16 * m - 16)=16 by omega];exact List.take_of_length_le (by omega)
  have d4:16 * m - (16 * m - 16)=16:=by omega
  have d5:List.take (k+n - 16 * m) (List.drop (16 * m) (L++p))=List.drop (16 * m) (L++p):=List.take_of_length_le (by rw [List.length_drop];omega)
  have hfit:0+16≤iv.length:=by rw [hi.len];decide
  have hmin:Nat.min 16 16=16:=rfl
  have hcp:iv.take 0++(B.take 16++iv.drop (0+16))=B:=by rw [List.take_zero,List.nil_append,List.take_of_length_le (by omega),List.drop_of_length_le (by rw [hi.len];decide),List.append_nil]
  haveI:NBy B 16:=⟨hBl⟩
  refine fn_upd (N:=_) Tryz.func123 rfl Tryz.ntmps123 Tryz.results123 (by simp) nd hd ?_
  simp only [initS,Nat.reduceAdd,Nat.zero_add]
  repeat' (first|(refine wlS ?_)|(refine wlG ?_)|(refine wlB ?_)|(refine wlE ?_)|(refine efSvvp ?_;intro v hv hp)|(refine efSvao ?_;intro v oa ho)|(refine efG ?_)|((with_reducible refine sel_call ?_);first|(refine wl_newO rfl rfl rfl rfl rfl (fun w hm=>by with_reducible exact SE w (VwB.out w hm)) ?_;intro x oa hx))|(refine efB ?_)|(refine efBS ?_)|(refine wl_skip rfl rfl ?_)|((with_reducible refine wc_seq ?_);intro K hK)|(refine auC ?_)|(refine wc_cond rfl (fun hc=>?_) (fun hc=>?_))|((with_reducible refine wc_drawC (by kernel_rfl) ?_);(try simp only [List.append_eq,List.cons_append,List.nil_append,List.length_cons,List.length_nil,Nat.reduceAdd]))|((with_reducible refine sel_wh ?_);(refine wh_if (by decide +kernel) ?_);first|(refine wh_take (lq:=[]) rfl rfl rfl rfl (by first|exact rvS|exact rvG|exact rvB|exact rvE) (Or.inl rfl) ?_)|(refine wh_takeL rfl rfl rfl rfl (by first|exact rvS|exact rvG|exact rvB|exact rvE) (by decide +kernel) ?_))|(refine whS ?_;intro v hv hp)|((with_reducible refine sel_wh ?_);first|(refine wh_pass rfl rfl rfl rfl ?_)|(refine wh_done rfl ?_)|(refine wh_all rfl ?_))|((with_reducible refine sel_rest ?_);first|exact rest_nil rfl|refine rest_cons rfl rfl ?_ ?_)|((with_reducible refine sel_nx ?_);first|refine next_of ?_|refine next_late (by decide +kernel) ?_)|(refine auP ?_)|((refine auR ?_);clear hK K)|(refine auR ?_)|((with_reducible refine hK _ _ ?_);clear hK K)|fail)
  refine wl_copyG (pp:=241) (mm:=16) (j:=0) (k:=16) (q:=iv) (q':=B) rfl rfl rfl rfl rfl ?_
  repeat' (first|(refine wlS ?_)|(refine wlG ?_)|(refine wlB ?_)|(refine wlE ?_)|(refine efSvvp ?_;intro v hv hp)|(refine efSvao ?_;intro v oa ho)|(refine efG ?_)|((with_reducible refine sel_slice ?_);first|(refine wl_cut3P rfl rfl rfl rfl rfl rfl rfl rfl ?_;intro v hv hcut))|(refine efB ?_)|(refine efBS ?_)|(refine wl_skip rfl rfl ?_)|((with_reducible refine wc_seq ?_);intro K hK)|(refine auC ?_)|(refine wc_cond rfl (fun hc=>?_) (fun hc=>?_))|((with_reducible refine wc_drawC (by kernel_rfl) ?_);(try simp only [List.append_eq,List.cons_append,List.nil_append,List.length_cons,List.length_nil,Nat.reduceAdd]))|((with_reducible refine sel_wh ?_);(refine wh_if (by decide +kernel) ?_);first|(refine wh_take (lq:=[]) rfl rfl rfl rfl (by first|exact rvS|exact rvG|exact rvB|exact rvE) (Or.inl rfl) ?_)|(refine wh_takeL rfl rfl rfl rfl (by first|exact rvS|exact rvG|exact rvB|exact rvE) (by decide +kernel) ?_))|(refine whS ?_;intro v hv hp)|((with_reducible refine sel_wh ?_);first|(refine wh_pass rfl rfl rfl rfl ?_)|(refine wh_done rfl ?_)|(refine wh_all rfl ?_))|((with_reducible refine sel_rest ?_);first|exact rest_nil rfl|refine rest_cons rfl rfl ?_ ?_)|((with_reducible refine sel_nx ?_);first|refine next_of ?_|refine next_late (by decide +kernel) ?_)|(refine auP ?_)|((refine auR ?_);clear hK K)|(refine auR ?_)|((with_reducible refine hK _ _ ?_);clear hK K)|fail)
  first|refine end_ret (ResP.tmp rfl ResP.nil) ?_|refine end_normal (ResP.tmp rfl ResP.nil) ?_
  (try dsimp only [tupV])
  have hO:=ho
  have hV:=hv
  rw [Nat.zero_add,List.nil_append] at hO
  rw [List.take_of_length_le (show C.length≤16 * m by omega)] at hV
  obtain ⟨pa,rfl⟩:=hcut
  obtain ⟨p1,c1,e1,_,_,e2⟩:=hV.cs.ln.out
  obtain ⟨b1,o1,e3⟩:=e2 (by omega)
  injection e1 with e4 e5 e6
  subst e4;subst e3
  refine ⟨_,_,rfl,⟨_,oa,_,rfl,hO,hV,.inr ⟨_,_,rfl⟩⟩,.keep (SubL.skipA (SubL.refl _) _)⟩
end Go.Proofs.YtkendlnjaopbeaaGreatDoor
