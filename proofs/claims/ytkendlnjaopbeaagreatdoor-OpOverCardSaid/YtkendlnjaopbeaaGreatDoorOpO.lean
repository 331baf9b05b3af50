/- The package op,walked: an opener. -/
import Derived.Test.YtkendlnjaopbeaaGreatDoorOpE
namespace Go.Proofs.YtkendlnjaopbeaaGreatDoor
open Go.RowKit
attribute [local irreducible] rwA bys
set_option linter.unusedVariables false
set_option linter.unusedSimpArgs false
set_option maxRecDepth 100000
structure OpnS where
 i:Nat
 lv:Value
 vo:Value
 oo:Blks
structure OpnS.Ok (D:List Nat→List Nat)(iv q:List Nat)(N M:Nat)(oa:Blks)(x:OpnS):Prop where
 le:x.i≤M
 left:CsB (Hd oa) x.lv (N - 16 * x.i) (q.drop (16 * x.i))
 out:OwnB 5 x.vo (16 * x.i) (dflat D iv q x.i) x.oo
set_option maxHeartbeats 16000000 in
theorem op_more (w0 w:World)(hb:Below w0.heap.size w0 w){g k:Nat}{W iv L:List Nat}{R:Nat}{lv:Value}{oo:Blks}[hkk:AKey W](hR:R≤14)(hi:B16 iv)(ho:OwnB 5 lv k L oo)(hk:k≤16)
  (nd:(keys ((g,(rwA (sgSe W R iv lv),111))::oo)).Nodup) (hd:Hd ((g,(rwA (sgSe W R iv lv),111))::oo) w) (hf:∀ k∈keys ((g,(rwA (sgSe W R iv lv),111))::oo),w0.heap.size≤k) {v:Value} {n:Nat} {p:List Nat} (hp:Cb w0 v n p) (hn:n≤2048) {M:Nat} (hM:M=(k+n - 1) / 16) :
  Calls Tryz.prog 126 [ptr g,v].toArray w (RetU (fun v:Value=>v) ((g,(rwA (sgSe W R iv lv),111))::oo)
   (fun v ob=>∃ lv' oL oX,ob=(g,(rwA (sgSe W R (prevC iv (L++p) M) lv'),111))::(oL++oX)∧CsB (Hd oL) lv' (k+n - 16 * M) ((L++p).drop (16 * M))∧OwnB 5 v (16 * M) (dflat (decL W R) iv (L++p) M) oX) w):=by
 have i1:CsB (Old w (keys ((g,(rwA (sgSe W R iv lv),111))::oo))) v n p:=hp.oldB hb hf
 obtain ⟨q,hq⟩:∃ q,q=L++p:=⟨_,rfl⟩
 have hql:q.length=k+n:=by rw [hq,List.length_append,ho.ok.len,hp.ok.len]
 have hqb:∀ x∈q,x<256:=fun x hx=>by
  rw [hq] at hx
  rcases List.mem_append.1 hx with hx|hx
  ·exact ho.ok.by' x hx
  ·exact hp.ok.by' x hx
 have ed:=edok hkk.ok R
 have DE:∀ b,B16 b→∀ w,Calls Tryz.prog 128 [kv W R,.agg (bys b)].toArray w (Ret (.agg (bys (decL W R b))) w):=fun b hb w=>dec_c w hR hb
 haveI:NBy iv 16:=⟨hi.len⟩
 haveI:One lv:=⟨by obtain ⟨_,_,rfl,_⟩:=ho.own.ln.out;rfl⟩
 haveI:SgOk (sgSe W R iv lv):=inferInstance
 clear hp hb hf
 rw [←hq]
 refine fn_upd (N:=_) Tryz.func126 rfl Tryz.ntmps126 Tryz.results126 (by simp) nd hd ?_
 simp only [initS,Nat.reduceAdd,Nat.zero_add]
 repeat' (first|(refine wlS ?_)|(refine wlG ?_)|(refine wlB ?_)|(refine wlE ?_)|(refine efSvvp ?_;intro v hv hp)|(refine efSvao ?_;intro v oa ho)|(refine efG ?_)|(refine efGnn ?_;intro n hn)|(refine efBnn ?_;intro n hn)|(refine efB ?_)|(refine efBS ?_)|(refine wl_skip rfl rfl ?_)|(refine wdS ?_)|(refine wdG ?_)|(refine wdV ?_)|(refine wdB ?_)|(refine wdE ?_)|(refine wd_alloc hm0 rfl rfl rfl ?_;intro n hn hn0)|(refine wdT ?_)|(refine wdTO ?_)|(refine wd_skip rfl rfl ?_)|((with_reducible refine seld_nil ?_);refine wd_nil hm0 ?_;clear hm0 hw0)|((with_reducible refine wc_seq ?_);intro K hK)|(refine auC ?_)|(refine wc_cond rfl (fun hc=>?_) (fun hc=>?_))|(refine wc_draw (by kernel_rfl) (by kernel_rfl) (by decide +kernel) ?_;intro w0 hw0 hm0;(try simp only [List.append_eq,List.cons_append,List.nil_append]))|(refine auP ?_)|((refine auR ?_);clear hK K)|(refine auR ?_)|((with_reducible refine hK _ _ ?_);clear hK K)|fail)
 have ho2:=ho
 rw [←hq] at ho2
 obtain ⟨o1,rfl⟩:∃ o,o=oa:=⟨oa,rfl⟩
 obtain ⟨v1,rfl⟩:∃ o,o=v:=⟨v,rfl⟩
 refine wc_loop (σ:=OpnS) (fun x=>[(0,ptr g),(5,x.vo)]) (fun x=>(g,(rwA (sgSe W R (prevC iv q x.i) x.lv),111))::(o1++x.oo))
  (OpnS.Ok (decL W R) iv q (k+n) M o1) (fun x=>M - x.i) ⟨0,v1,.slice none 0 0,[]⟩ ⟨Nat.zero_le _,inferInstance,inferInstance⟩ (Fits.of ⟨rfl,rfl,trivial⟩ (by rw [List.append_nil];exact SubL.refl _) rfl) ?_
 rintro ⟨i,lv,vo,oo⟩ ⟨hiM,hl,hv⟩
 dsimp only at hiM hl hv ⊢
 have hpv:=prevC_ok hi hqb i (by omega)
 haveI:NBy (prevC iv q i) 16:=⟨hpv.len⟩
 haveI:One lv:=⟨by obtain ⟨_,_,rfl,_⟩:=hl.cs.ln.out;rfl⟩
 haveI:SgOk (sgSe W R (prevC iv q i) lv):=inferInstance
 by_cases hlt:i<M
 ·have t1:decide (((k+n - 16 * i:Nat):Int)>16)=true:=decide_eq_true (by omega)
  have hB:B16 (blk q i):=blk_ok (by omega) hqb
  have DB:=DE (blk q i) hB
  have hDB:B16 (decL W R (blk q i)):=ed.dok _ hB
  haveI:NBy (blk q i) 16:=⟨hB.len⟩
  haveI:NBy (decL W R (blk q i)) 16:=⟨hDB.len⟩
  have hmin:Nat.min (k+n - 16 * i) 16=16:=Nat.min_eq_right (by omega)
  have hcp:(List.replicate 16 0).take 0++(((q.drop (16 * i))).take 16++(List.replicate 16 0).drop (0+16))=blk q i:=by simp [blk]
  have hfit:0+16≤(List.replicate 16 0).length:=by simp
  clear DE
  repeat' (first|(refine wlS ?_)|(refine wlG ?_)|(refine wlB ?_)|((with_reducible refine sel_call ?_);refine wl_rd rfl rfl (rd_call rfl rfl rfl (fun w hm=>by with_reducible exact DB w)) ?_)|(refine wlE ?_)|(refine efSvvp ?_;intro v hv hp)|(refine efSvao ?_;intro v oa ho)|(refine efM ?_)|(refine efMvao ?_;intro v oa ho)|((with_reducible refine sel_store ?_);first|(refine wl_putB (e:=5) rfl rfl rfl rfl rfl ?_;intro oa ho))|(refine efG ?_)|(refine efGnn ?_;intro n hn)|(refine efZCnn ?_;intro n hn)|(refine efBnn ?_;intro n hn)|(refine efB ?_)|(refine efBS ?_)|(refine wl_skip rfl rfl ?_)|(refine wdS ?_)|(refine wdG ?_)|(refine wdV ?_)|(refine wdB ?_)|((with_reducible refine seld_call ?_);refine wd_rd hm0 rfl rfl rfl rfl (rd_call rfl rfl rfl (fun w hm=>by with_reducible exact DB w)) ?_)|(refine wdE ?_)|(refine wd_allocC hm0 rfl rfl rfl ?_;intro n hn hn0)|(refine wd_alloc hm0 rfl rfl rfl ?_;intro n hn hn0)|(refine wdT ?_)|(refine wdTO ?_)|(refine wd_skip rfl rfl ?_)|((with_reducible refine seld_nil ?_);refine wd_nil hm0 ?_;clear hm0 hw0)|((with_reducible refine wc_seq ?_);intro K hK)|(refine auC ?_)|(refine wc_cond rfl (fun hc=>?_) (fun hc=>?_))|(refine wc_draw (id:=6) (by kernel_rfl) (by kernel_rfl) (by decide +kernel) ?_;intro w0 hw0 hm0;(try simp only [List.append_eq,List.cons_append,List.nil_append]))|((with_reducible refine wc_drawC (by kernel_rfl) ?_);(try simp only [List.append_eq,List.cons_append,List.nil_append,List.length_cons,List.length_nil,Nat.reduceAdd]))|((with_reducible refine sel_wh ?_);(refine wh_if (by decide +kernel) ?_);first|(refine wh_take (lq:=[]) rfl rfl rfl rfl (by first|exact rvS|exact rvG|exact rvB|exact rvE) (Or.inl rfl) ?_)|(refine wh_takeL rfl rfl rfl rfl (by first|exact rvS|exact rvG|exact rvB|exact rvE) (by decide +kernel) ?_))|(refine whS ?_;intro v hv hp)|((with_reducible refine sel_wh ?_);first|(refine wh_pass rfl rfl rfl rfl ?_)|(refine wh_done rfl ?_)|(refine wh_all rfl ?_))|((with_reducible refine sel_rest ?_);first|exact rest_nil rfl|refine rest_cons rfl rfl ?_ ?_)|((with_reducible refine sel_nx ?_);first|refine next_of ?_|refine next_late (by decide +kernel) ?_)|(refine auP ?_)|((refine auR ?_);clear hK K)|(refine auR ?_)|((with_reducible refine hK _ _ ?_);clear hK K)|fail)
  obtain ⟨nd2,rfl⟩:∃ x,x=n:=⟨n,rfl⟩
  obtain ⟨nb2,rfl⟩:∃ x,x=n:=⟨n,rfl⟩
  have hdl:∀ j,j≤16→(dflat (decL W R) iv q i++(dblk (decL W R) iv q i).take j).length=16 * i+j:=fun j hj=>by
   rw [List.length_append,(dflat_ok ed hi hqb i (by omega)).1,List.length_take,(dblk_ok ed hi hqb (k:=i) (by omega)).len];omega
  have hdb:=(dblk_ok ed hi hqb (k:=i) (by omega))
  refine wc_loop (σ:=Nat×Value×Blks) (fun x=>[(0,ptr g),(5,x.2.1),(6,ptr nb2),(7,ptr nd2),(36,.int .i64 (x.1:Int))])
   (fun x=>(nd2,(bys (decL W R (blk q i)),23))::(nb2,(bys (blk q i),23))::(g,(rwA (sgSe W R (prevC iv q i) lv),111))::(o1++x.2.2))
   (fun x=>x.1≤16∧OwnB 5 x.2.1 (16 * i+x.1) (dflat (decL W R) iv q i++(dblk (decL W R) iv q i).take x.1) x.2.2) (fun x=>16 - x.1) (0,vo,oo) ⟨Nat.zero_le _,by dsimp only;rw [List.take_zero,List.append_nil];exact hv⟩ (Fits.of ⟨rfl,rfl,rfl,rfl,rfl,trivial⟩ (SubL.refl _) rfl) ?_
  clear hv
  rintro ⟨j,vo,oo⟩ ⟨hj,hv⟩
  dsimp only at hj hv ⊢
  by_cases hj2:j<16
  ·have t2:decide ((j:Int)<16)=true:=decide_eq_true (by omega)
   have t3:IntKind.i64.wrap ((j:Int)+1)=((j+1:Nat):Int):=by rw [wrap_i64 _ (by omega) (by omega)];omega
   have g1:=bys_get (l:=decL W R (blk q i)) (i:=j) (by rw [hDB.len];exact hj2)
   have g2:=bys_get (l:=prevC iv q i) (i:=j) (by rw [hpv.len];exact hj2)
   have xo:=bits_u8 ((decL W R (blk q i)).getD j 0) ((prevC iv q i).getD j 0) (hDB.lt j) (hpv.lt j)
   have xl:=xor_lt (hDB.lt j) (hpv.lt j)
   have ex:dflat (decL W R) iv q i++(dblk (decL W R) iv q i).take (j+1)=(dflat (decL W R) iv q i++(dblk (decL W R) iv q i).take j)++[(decL W R (blk q i)).getD j 0 ^^^ (prevC iv q i).getD j 0]:=by
    rw [List.take_add_one,List.append_assoc]
    congr 2
    have h1:(dblk (decL W R) iv q i).getD j 0=(decL W R (blk q i)).getD j 0 ^^^ (prevC iv q i).getD j 0:=xor16_get hj2
    have h2:(dblk (decL W R) iv q i)[j]? = some ((dblk (decL W R) iv q i).getD j 0):=by
     rw [List.getD_eq_getElem?_getD,List.getElem?_eq_getElem (by rw [hdb.len];exact hj2)];rfl
    rw [h2,h1];rfl
   have j1:(j:Int)<16:=by omega
   clear DB
   repeat' (first|(refine wlS ?_)|((with_reducible refine sel_load ?_);refine wv rfl rfl (rd_load rfl rfl (ld_sgC (p:=241) (m:=16))) ?_)|(refine wlG ?_)|(refine wlB ?_)|(refine wlE ?_)|(refine efSvvp ?_;intro v hv hp)|(refine efSvao ?_;intro v oa ho)|(refine efM ?_)|(refine efMvao ?_;intro v oa ho)|((with_reducible refine sel_store ?_);first|(refine wl_putB (e:=5) rfl rfl rfl rfl rfl ?_;intro oa ho)|refine wl_store rfl rfl (sv_sgC (p:=241) (m:=16) rfl rfl rfl One.out) ?_)|(refine efG ?_)|(refine efGnn ?_;intro n hn)|(refine efZCnn ?_;intro n hn)|(refine efBnn ?_;intro n hn)|(refine efB ?_)|(refine efBS ?_)|(refine wl_skip rfl rfl ?_)|((with_reducible refine wc_seq ?_);intro K hK)|(refine auC ?_)|(refine wc_cond rfl (fun hc=>?_) (fun hc=>?_))|((with_reducible refine wc_drawH _ [12] (by kernel_rfl) (SubL.refl _) ?_);(try simp only [List.append_eq,List.cons_append,List.nil_append,List.length_cons,List.length_nil,Nat.reduceAdd]))|((with_reducible refine sel_wh ?_);(refine wh_if (by decide +kernel) ?_);first|(refine wh_take (lq:=[]) rfl rfl rfl rfl (by first|exact rvS|((with_reducible apply selr_load);exact rd_load rfl rfl (ld_sgC (p:=241) (m:=16)))|exact rvG|exact rvB|exact rvE) (Or.inl rfl) ?_)|(refine wh_takeL rfl rfl rfl rfl (by first|exact rvS|((with_reducible apply selr_load);exact rd_load rfl rfl (ld_sgC (p:=241) (m:=16)))|exact rvG|exact rvB|exact rvE) (by decide +kernel) ?_))|(refine whS ?_;intro v hv hp)|((with_reducible refine sel_wh ?_);first|(refine wh_pass rfl rfl rfl rfl ?_)|(refine wh_done rfl ?_)|(refine wh_all rfl ?_))|((with_reducible refine sel_rest ?_);first|exact rest_nil rfl|refine rest_cons rfl rfl ?_ ?_)|((with_reducible refine sel_nx ?_);first|refine next_of ?_|refine next_late (by decide +kernel) ?_)|(refine auP ?_)|((refine auR ?_);clear hK K)|(refine auR ?_)|((with_reducible refine hK _ _ ?_);clear hK K)|fail)
   refine ⟨(j+1,v,oa),⟨hj2,by dsimp only;rw [ex];exact ho⟩,by dsimp only;omega,Fits.of ⟨rfl,rfl,rfl,rfl,rfl,trivial⟩ ?_ rfl⟩
   repeat (first|exact SubL.nil|exact SubL.refl _|refine SubL.keep ?_|exact SubL.headA _ _|refine SubL.keepA ?_ _|refine SubL.skip ?_|refine SubL.skipA ?_ _)
  ·obtain rfl:j=16:=by omega
   have t2:decide (((16:Nat):Int)<16)=false:=rfl
   rw [List.take_of_length_le (by rw [hdb.len];decide)] at hv
   have hsub:(List.drop 16 (q.drop (16 * i)))=q.drop (16 * (i+1)):=by rw [List.drop_drop];congr 1
   have d1:List.take (k+n - 16 * i - 16) (List.drop 16 (List.drop (16 * i) q))=List.drop (16 * (i+1)) q:=by
    rw [hsub];exact List.take_of_length_le (by rw [List.length_drop];omega)
   have d2:k+n - 16 * i - 16=k+n - 16 * (i+1):=by omega
   have hvo:=hv
   clear DB
   repeat' (first|(refine wlS ?_)|(refine wlG ?_)|(refine wlB ?_)|(refine wlE ?_)|(refine efSvvp ?_;intro v hv hp)|(refine efSvao ?_;intro v oa ho)|(refine efG ?_)|(refine efGnn ?_;intro n hn)|((with_reducible refine sel_slice ?_);first|(refine wl_subB (lo:=16) rfl rfl rfl rfl rfl rfl rfl rfl ?_;intro v hv hp))|(refine efBnn ?_;intro n hn)|(refine efB ?_)|(refine efBS ?_)|(refine wl_skip rfl rfl ?_)|(refine wdS ?_)|(refine wdG ?_)|(refine wdV ?_)|(refine wdB ?_)|(refine wdE ?_)|(refine wd_alloc hm0 rfl rfl rfl ?_;intro n hn hn0)|(refine wdT ?_)|(refine wdTO ?_)|(refine wd_skip rfl rfl ?_)|((with_reducible refine seld_nil ?_);refine wd_nil hm0 ?_;clear hm0 hw0)|((with_reducible refine wc_seq ?_);intro K hK)|(refine auC ?_)|(refine wc_cond rfl (fun hc=>?_) (fun hc=>?_))|(refine wc_draw (by kernel_rfl) (by kernel_rfl) (by decide +kernel) ?_;intro w0 hw0 hm0;(try simp only [List.append_eq,List.cons_append,List.nil_append]))|(refine auP ?_)|((refine auR ?_);clear hK K)|(refine auR ?_)|((with_reducible refine hK _ _ ?_);clear hK K)|fail)
   exact ⟨⟨i+1,v,vo,oo⟩,⟨by dsimp only;omega,hv,hvo⟩,by dsimp only;omega,Fits.of ⟨rfl,rfl,trivial⟩ (.skip (.skip (SubL.refl _))) rfl⟩
 ·obtain rfl:i=M:=by omega
  have t1:decide (((k+n - 16 * i:Nat):Int)>16)=false:=decide_eq_false (by omega)
  clear DE
  repeat' (first|(refine wlS ?_)|(refine wlG ?_)|(refine wlB ?_)|(refine wlE ?_)|(refine efSvvp ?_;intro v hv hp)|(refine efSvao ?_;intro v oa ho)|(refine efG ?_)|(refine efGnn ?_;intro n hn)|(refine efBnn ?_;intro n hn)|(refine efB ?_)|(refine efBS ?_)|(refine wl_skip rfl rfl ?_)|(refine wdS ?_)|(refine wdG ?_)|(refine wdV ?_)|(refine wdB ?_)|(refine wdE ?_)|(refine wd_alloc hm0 rfl rfl rfl ?_;intro n hn hn0)|(refine wdT ?_)|(refine wdTO ?_)|(refine wd_skip rfl rfl ?_)|((with_reducible refine seld_nil ?_);refine wd_nil hm0 ?_;clear hm0 hw0)|((with_reducible refine wc_seq ?_);intro K hK)|(refine auC ?_)|(refine wc_cond rfl (fun hc=>?_) (fun hc=>?_))|(refine wc_draw (by kernel_rfl) (by kernel_rfl) (by decide +kernel) ?_;intro w0 hw0 hm0;(try simp only [List.append_eq,List.cons_append,List.nil_append]))|(refine auP ?_)|((refine auR ?_);clear hK K)|(refine auR ?_)|((with_reducible refine hK _ _ ?_);clear hK K)|fail)
  first|refine end_ret (ResP.tmp rfl ResP.nil) ?_|refine end_normal (ResP.tmp rfl ResP.nil) ?_
  (try dsimp only [tupV])
  exact ⟨_,_,rfl,⟨lv,o1,oo,rfl,hl,hv⟩,SubL.refl _⟩
end Go.Proofs.YtkendlnjaopbeaaGreatDoor
