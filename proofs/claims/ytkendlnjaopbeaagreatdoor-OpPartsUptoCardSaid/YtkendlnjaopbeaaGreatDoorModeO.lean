/- The package mode,walked: Open. -/
import Derived.Test.YtkendlnjaopbeaaGreatDoorJnAF
import Derived.Test.YtkendlnjaopbeaaGreatDoorJnAE
namespace Go.Proofs.YtkendlnjaopbeaaGreatDoor
open Go.RowKit
attribute [local irreducible] rwA bys
set_option linter.unusedVariables false
set_option linter.unusedSimpArgs false
set_option maxRecDepth 100000
def openP (D:List Nat→List Nat)(iv c:List Nat)(q k i:Nat):List Nat:=dflat D iv c k++((dblk D iv c k).take i++List.replicate (16 * q - (16 * k+i)) 0)
section
variable {E D:List Nat→List Nat}{iv c:List Nat}
theorem openP_step (h:EDok E D)(hi:B16 iv)(hc:∀ x∈c,x<256){q k i:Nat}(hl:c.length=16 * q)(hk:k<q)(hi':i<16):(openP D iv c q k i).set (16 * k+i) ((D (blk c k)).getD i 0 ^^^ (prevC iv c k).getD i 0)=openP D iv c q k (i+1):=by
 have h1:=(dflat_ok h hi hc k (by omega)).1
 have h2:=(dblk_ok h hi hc (k:=k) (by omega)).len
 have e2:(dblk D iv c k).take (i+1)=(dblk D iv c k).take i++[(D (blk c k)).getD i 0 ^^^ (prevC iv c k).getD i 0]:=by
  have hg:(dblk D iv c k)[i]? = some ((D (blk c k)).getD i 0 ^^^ (prevC iv c k).getD i 0):=by simp [dblk,xor16,hi']
  rw [List.take_add_one,hg];rfl
 rw [openP,List.set_append_right _ _ (by omega),h1,show 16 * k+i - 16 * k=i by omega,List.set_append_right _ _ (by rw [List.length_take];omega),List.length_take,h2,Nat.min_eq_left (by omega),Nat.sub_self,openP,e2,
  show 16 * q - (16 * k+i)=16 * q - (16 * k+(i+1))+1 by omega,List.replicate_succ,List.set_cons_zero,List.append_assoc]
 rfl
theorem openP_next (h:EDok E D)(hi:B16 iv)(hc:∀ x∈c,x<256){q k:Nat}(hl:c.length=16 * q)(hk:k<q):openP D iv c q k 16=openP D iv c q (k+1) 0:=by
 have h2:=(dblk_ok h hi hc (k:=k) (by omega)).len
 rw [openP,openP,dflat,List.take_of_length_le (by omega),List.take_zero,List.nil_append,List.append_assoc]
 rfl
theorem openP_zero (c:List Nat)(q:Nat):openP D iv c q 0 0=List.replicate (16 * q) 0:=by simp [openP,dflat]
theorem openP_all (c:List Nat)(q:Nat):openP D iv c q q 0=dflat D iv c q:=by simp [openP]
theorem blk_copy {c:List Nat}{k n:Nat}(h:16 * k+16≤c.length)(hn:c.length=n):(List.replicate 16 0).take 0++(((c.drop (16 * k)).take (n - 16 * k)).take 16++(List.replicate 16 0).drop (0+16))=blk c k:=by
 have e1:((c.drop (16 * k)).take (n - 16 * k)).take 16=blk c k:=by rw [List.take_take,Nat.min_eq_left (by omega),blk]
 have e2:(List.replicate 16 0).drop (0+16)=([]:List Nat):=rfl
 rw [e1,e2,List.append_nil];rfl
end
def endN (P:List Nat):Nat:=P.getD (P.length - 1) 0
def endOk (P:List Nat):Prop:=1≤endN P∧endN P≤16∧∀ j,j<endN P→P.getD (P.length - endN P+j) 0=endN P
set_option maxHeartbeats 4000000 in
theorem open_bad (w':World){W iv:List Nat}{R m:Nat}{u:Value}[hkk:AKey W](hi:B16 iv)[hl:Ln u m](hm:m=0∨m % 16≠0)(hb:m≤1073741824) :
  Calls Tryz.prog 127 [kv W R,.agg (bys iv),u].toArray w' (Ret (.tuple #[.slice none 0 0,.int .i64 1]) w'):=by
 haveI:NBy iv 16:=⟨hi.len⟩
 haveI:SgOk (sgA W R):=inferInstance
 by_cases h0:m=0
 ·have t1:((m:Int) == 0)=true:=by rw [h0];rfl
  refine fn_ret (N:=_) Tryz.func127 rfl Tryz.ntmps127 Tryz.results127 (by simp) ?_
  simp only [initS,Nat.reduceAdd,Nat.zero_add]
  repeat' (first|(refine wlS ?_)|(refine wlG ?_)|(refine wlB ?_)|(refine wlE ?_)|(refine efSvvp ?_;intro v hv hp)|(refine efSvao ?_;intro v oa ho)|(refine efG ?_)|(refine efGnn ?_;intro n hn)|(refine efBnn ?_;intro n hn)|(refine efB ?_)|(refine efBS ?_)|(refine wl_skip rfl rfl ?_)|(refine wdS ?_)|(refine wdG ?_)|(refine wdV ?_)|(refine wdB ?_)|(refine wdE ?_)|(refine wdT ?_)|(refine wdTO ?_)|(refine wd_skip rfl rfl ?_)|((with_reducible refine seld_nil ?_);refine wd_nil hm0 ?_;clear hm0 hw0)|((with_reducible refine wc_seq ?_);intro K hK)|(refine auC ?_)|(refine wc_cond rfl (fun hc=>?_) (fun hc=>?_))|(refine wc_draw (by kernel_rfl) (by kernel_rfl) (by decide +kernel) ?_;intro w0 hw0 hm0;(try simp only [List.append_eq,List.cons_append,List.nil_append]))|(refine auP ?_)|((refine auR ?_);clear hK K)|(refine auR ?_)|((with_reducible refine hK _ _ ?_);clear hK K)|fail)
  first|refine end_ret (ResP.tmp rfl (ResP.tmp rfl ResP.nil)) ?_|refine end_normal (ResP.tmp rfl (ResP.tmp rfl ResP.nil)) ?_
  first|rfl|(show _=_;rfl)|(simp only [tupV, *];done)
 ·have t1:((m:Int) == 0)=false:=by simp only [beq_eq_false_iff_ne,ne_eq];omega
  have t2:(m:Int).tmod 16=((m % 16:Nat):Int):=by rw [Int.tmod_eq_emod_of_nonneg (by omega)];omega
  have t3:(((m % 16:Nat):Int) != 0)=true:=by simp only [bne_iff_ne,ne_eq];omega
  refine fn_ret (N:=_) Tryz.func127 rfl Tryz.ntmps127 Tryz.results127 (by simp) ?_
  simp only [initS,Nat.reduceAdd,Nat.zero_add]
  repeat' (first|(refine wlS ?_)|(refine wlG ?_)|(refine wlB ?_)|(refine wlE ?_)|(refine efSvvp ?_;intro v hv hp)|(refine efSvao ?_;intro v oa ho)|(refine efG ?_)|(refine efGnn ?_;intro n hn)|(refine efBnn ?_;intro n hn)|(refine efB ?_)|(refine efBS ?_)|(refine wl_skip rfl rfl ?_)|(refine wdS ?_)|(refine wdG ?_)|(refine wdV ?_)|(refine wdB ?_)|(refine wdE ?_)|(refine wdT ?_)|(refine wdTO ?_)|(refine wd_skip rfl rfl ?_)|((with_reducible refine seld_nil ?_);refine wd_nil hm0 ?_;clear hm0 hw0)|((with_reducible refine wc_seq ?_);intro K hK)|(refine auC ?_)|(refine wc_cond rfl (fun hc=>?_) (fun hc=>?_))|(refine wc_draw (by kernel_rfl) (by kernel_rfl) (by decide +kernel) ?_;intro w0 hw0 hm0;(try simp only [List.append_eq,List.cons_append,List.nil_append]))|(refine auP ?_)|((refine auR ?_);clear hK K)|(refine auR ?_)|((with_reducible refine hK _ _ ?_);clear hK K)|fail)
  first|refine end_ret (ResP.tmp rfl (ResP.tmp rfl ResP.nil)) ?_|refine end_normal (ResP.tmp rfl (ResP.tmp rfl ResP.nil)) ?_
  first|rfl|(show _=_;rfl)|(simp only [tupV, *];done)
set_option maxHeartbeats 8000000 in
theorem open_c (w':World){W iv c:List Nat}{R q:Nat}{E D:List Nat→List Nat}{u:Value}[hkk:AKey W](hed:EDok E D)
  (DE:∀ b,B16 b→∀ w,Calls Tryz.prog 128 [kv W R,.agg (bys b)].toArray w (Ret (.agg (bys (D b))) w)) (hi:B16 iv) (hq0:0<q) (hm:q≤67108864) (h:Cb w' u (16 * q) c) :
  Calls Tryz.prog 127 [kv W R,.agg (bys iv),u].toArray w' (RetO (fun x:Value×Int=>.tuple #[x.1,.int .i64 x.2])
   (fun x oa=>(endOk (dflat D iv c q)∧x.2=0∧CsB (Hd oa) x.1 (16 * q - endN (dflat D iv c q)) ((dflat D iv c q).take (16 * q - endN (dflat D iv c q))))∨(¬endOk (dflat D iv c q)∧x=(.slice none 0 0,4)∧oa=[])) w'):=by
 haveI i1:=h.old
 have hcl:=h.ok.len
 have hcb:=h.ok.by'
 clear h
 haveI:NBy iv 16:=⟨hi.len⟩
 haveI:SgOk (sgA W R):=inferInstance
 have t1:(((16 * q:Nat):Int) == 0)=false:=by simp only [beq_eq_false_iff_ne,ne_eq];omega
 have t2:((16 * q:Nat):Int).tmod 16=0:=by rw [Int.tmod_eq_emod_of_nonneg (by omega)];omega
 have t3:((0:Int) != 0)=false:=rfl
 have hz:=openP_zero (D:=D) (iv:=iv) c q
 have hA:=openP_all (D:=D) (iv:=iv) c q
 obtain ⟨hPl,hPb⟩:=dflat_ok hed hi hcb q (by omega)
 have hPe:∃ P,P=dflat D iv c q:=⟨_,rfl⟩
 obtain ⟨P,hPe⟩:=hPe
 rw [←hPe] at hPl hPb hA ⊢
 have hE:P.getD (16 * q - 1) 0=endN P:=by rw [endN,hPl]
 have hOk:endOk P↔1≤endN P∧endN P≤16∧∀ j,j<endN P→P.getD (16 * q - endN P+j) 0=endN P:=by rw [endOk,hPl]
 simp only [hOk]
 generalize endN P=e at *
 clear hOk hPe
 refine fn_own (N:=_) Tryz.func127 rfl Tryz.ntmps127 Tryz.results127 (by simp) ?_
 simp only [initS,Nat.reduceAdd,Nat.zero_add]
 repeat' (first|(refine wlS ?_)|(refine wlG ?_)|(refine wlB ?_)|(refine wlE ?_)|(refine efSvvp ?_;intro v hv hp)|(refine efSvao ?_;intro v oa ho)|(refine efM ?_)|(refine efMvao ?_;intro v oa ho)|((with_reducible refine sel_store ?_);first|(refine wl_putB (e:=5) rfl rfl rfl rfl rfl ?_;intro oa ho))|(refine efG ?_)|(refine efGnn ?_;intro n hn)|(refine efBnn ?_;intro n hn)|(refine efB ?_)|(refine efBS ?_)|(refine wl_skip rfl rfl ?_)|(refine wdS ?_)|(refine wdG ?_)|(refine wdV ?_)|(refine wdB ?_)|(refine wdE ?_)|(refine wdT ?_)|(refine wdTO ?_)|(refine wd_skip rfl rfl ?_)|((with_reducible refine seld_nil ?_);refine wd_nil hm0 ?_;clear hm0 hw0)|((with_reducible refine wc_seq ?_);intro K hK)|(refine auC ?_)|(refine wc_cond rfl (fun hc=>?_) (fun hc=>?_))|(refine wc_draw (by kernel_rfl) (by kernel_rfl) (by decide +kernel) ?_;intro w0 hw0 hm0;(try simp only [List.append_eq,List.cons_append,List.nil_append]))|(refine auP ?_)|((refine auR ?_);clear hK K)|(refine auR ?_)|((with_reducible refine hK _ _ ?_);clear hK K)|fail)
 rename_i n3 hn3
 obtain ⟨n4,rfl⟩:∃ n4,n4=n:=⟨n,rfl⟩
 refine wc_loop (σ:=Nat×Value×Blks) (fun x=>[(2,u),(3,ptr n3),(4,ptr n4),(8,x.2.1),(9,.int .i64 ((16 * x.1:Nat):Int))])
  (fun x=>(n4,(bys (prevC iv c x.1),23))::(n3,(rwA (sgA W R),77))::x.2.2)
  (fun x=>x.1≤q∧OwnB 5 x.2.1 (16 * q) (openP D iv c q x.1 0) x.2.2) (fun x=>q - x.1) (0,v,oa) ⟨Nat.zero_le _,by dsimp only;rw [hz];exact ho⟩ (Fits.of ⟨rfl,rfl,rfl,rfl,rfl,trivial⟩ (SubL.refl _) rfl) ?_
 clear ho oa v hz t1 t2 t3
 rintro ⟨k,v8,oa8⟩ ⟨hk,ho8⟩
 dsimp only at hk ho8 ⊢
 by_cases hkt:k<q
 ·have t1:decide (((16 * k:Nat):Int)<((16 * q:Nat):Int))=true:=decide_eq_true (by omega)
  have t2:IntKind.i64.wrap (((16 * k:Nat):Int)+16)=((16 * (k+1):Nat):Int):=by rw [wrap_i64 _ (by omega) (by omega)];omega
  have pok:=prevC_ok hi hcb k (by omega)
  have bok:=blk_ok (p:=c) (k:=k) (by omega) hcb
  have dok:=hed.dok _ bok
  have hst:=fun i hi'=>openP_step hed hi hcb hcl hkt (i:=i) hi'
  have hnx:=openP_next hed hi hcb hcl hkt
  have DE1:=DE _ bok
  have hcp:=blk_copy (c:=c) (k:=k) (n:=16 * q) (by omega) hcl
  haveI:NBy (prevC iv c k) 16:=⟨pok.len⟩
  haveI:NBy (blk c k) 16:=⟨bok.len⟩
  haveI:NBy (D (blk c k)) 16:=⟨dok.len⟩
  have mn:Nat.min (16 * q - 16 * k) 16=16:=Nat.min_eq_right (by omega)
  have mf:0+16≤(List.replicate 16 0).length:=by simp
  have hpS:prevC iv c (k+1)=blk c k:=rfl
  clear DE hed hi hPl hPb hA
  repeat' (first|(refine wlS ?_)|(refine wlG ?_)|(refine wlB ?_)|((with_reducible refine sel_call ?_);refine wl_rd rfl rfl (rd_call rfl rfl rfl (fun w hm=>by with_reducible exact DE1 w)) ?_)|(refine wlE ?_)|(refine efSvvp ?_;intro v hv hp)|(refine efSvao ?_;intro v oa ho)|(refine efM ?_)|(refine efMvao ?_;intro v oa ho)|((with_reducible refine sel_store ?_);first|(refine wl_putB (e:=5) rfl rfl rfl rfl rfl ?_;intro oa ho))|(refine efG ?_)|(refine efGnn ?_;intro n hn)|(refine efZCnn ?_;intro n hn)|(refine efBnn ?_;intro n hn)|(refine efB ?_)|(refine efBS ?_)|(refine wl_skip rfl rfl ?_)|((with_reducible refine wc_seq ?_);intro K hK)|(refine auC ?_)|(refine wc_cond rfl (fun hc=>?_) (fun hc=>?_))|((with_reducible refine wc_drawC (by kernel_rfl) ?_);(try simp only [List.append_eq,List.cons_append,List.nil_append,List.length_cons,List.length_nil,Nat.reduceAdd]))|((with_reducible refine sel_wh ?_);(refine wh_if (by decide +kernel) ?_);first|(refine wh_take (lq:=[]) rfl rfl rfl rfl (by first|exact rvS|exact rvG|exact rvB|exact rvE) (Or.inl rfl) ?_)|(refine wh_takeL rfl rfl rfl rfl (by first|exact rvS|exact rvG|exact rvB|exact rvE) (by decide +kernel) ?_))|(refine whS ?_;intro v hv hp)|((with_reducible refine sel_wh ?_);first|(refine wh_pass rfl rfl rfl rfl ?_)|(refine wh_done rfl ?_)|(refine wh_all rfl ?_))|((with_reducible refine sel_rest ?_);first|exact rest_nil rfl|refine rest_cons rfl rfl ?_ ?_)|((with_reducible refine sel_nx ?_);first|refine next_of ?_|refine next_late (by decide +kernel) ?_)|(refine auP ?_)|((refine auR ?_);clear hK K)|(refine auR ?_)|((with_reducible refine hK _ _ ?_);clear hK K)|fail)
  rename_i n10 hn10
  obtain ⟨n11,rfl⟩:∃ n11,n11=n:=⟨n,rfl⟩
  refine wc_loop (σ:=Nat×Blks) (fun x=>[(2,u),(3,ptr n3),(4,ptr n4),(8,v8),(9,.int .i64 ((16 * k:Nat):Int)),(10,ptr n10),(11,ptr n11),(42,.int .i64 (x.1:Int))])
   (fun x=>(n11,(bys (D (blk c k)),23))::(n10,(bys (blk c k),23))::(n4,(bys (prevC iv c k),23))::(n3,(rwA (sgA W R),77))::x.2)
   (fun x=>x.1≤16∧OwnB 5 v8 (16 * q) (openP D iv c q k x.1) x.2) (fun x=>16 - x.1) (0,oa8) ⟨Nat.zero_le _,ho8⟩ (Fits.of ⟨rfl,rfl,rfl,rfl,rfl,rfl,rfl,rfl,trivial⟩ (SubL.refl _) rfl) ?_
  clear ho8 oa8
  rintro ⟨i,oa8⟩ ⟨hi',ho8⟩
  dsimp only at hi' ho8 ⊢
  by_cases hit:i<16
  ·have t3:decide ((i:Int)<16)=true:=decide_eq_true (by omega)
   have t4:IntKind.i64.wrap ((i:Int)+1)=((i+1:Nat):Int):=by rw [wrap_i64 _ (by omega) (by omega)];omega
   have t5:IntKind.i64.wrap (((16 * k:Nat):Int)+(i:Int))=((16 * k+i:Nat):Int):=by rw [wrap_i64 _ (by omega) (by omega)];omega
   have g1:=bys_get (l:=D (blk c k)) (i:=i) (by rw [dok.len];exact hit)
   have g2:=bys_get (l:=prevC iv c k) (i:=i) (by rw [pok.len];exact hit)
   have xo:=bits_u8 ((D (blk c k)).getD i 0) ((prevC iv c k).getD i 0) (dok.lt i) (pok.lt i)
   have xl:=xor_lt (dok.lt i) (pok.lt i)
   have st:=hst i hit
   have j1:16 * k+i<16 * q:=by omega
   clear hnx DE1 hcp mn mf
   repeat' (first|(refine wlS ?_)|(refine wlG ?_)|(refine wlB ?_)|(refine wlE ?_)|(refine efSvvp ?_;intro v hv hp)|(refine efSvao ?_;intro v oa ho)|(refine efM ?_)|(refine efMvao ?_;intro v oa ho)|((with_reducible refine sel_store ?_);first|(refine wl_putB (e:=5) rfl rfl rfl rfl rfl ?_;intro oa ho))|(refine efG ?_)|(refine efGnn ?_;intro n hn)|(refine efBnn ?_;intro n hn)|(refine efB ?_)|(refine efBS ?_)|(refine wl_skip rfl rfl ?_)|((with_reducible refine wc_seq ?_);intro K hK)|(refine auC ?_)|(refine wc_cond rfl (fun hc=>?_) (fun hc=>?_))|((with_reducible refine wc_drawT (by kernel_rfl) ?_);(try simp only [List.append_eq,List.cons_append,List.nil_append,List.length_cons,List.length_nil,Nat.reduceAdd]))|((with_reducible refine sel_wh ?_);(refine wh_if (by decide +kernel) ?_);first|(refine wh_take (lq:=[]) rfl rfl rfl rfl (by first|exact rvS|exact rvG|exact rvB|exact rvE) (Or.inl rfl) ?_)|(refine wh_takeL rfl rfl rfl rfl (by first|exact rvS|exact rvG|exact rvB|exact rvE) (by decide +kernel) ?_))|(refine whS ?_;intro v hv hp)|((with_reducible refine sel_wh ?_);first|(refine wh_pass rfl rfl rfl rfl ?_)|(refine wh_done rfl ?_)|(refine wh_all rfl ?_))|((with_reducible refine sel_rest ?_);first|exact rest_nil rfl|refine rest_cons rfl rfl ?_ ?_)|((with_reducible refine sel_nx ?_);first|refine next_of ?_|refine next_late (by decide +kernel) ?_)|(refine auP ?_)|((refine auR ?_);clear hK K)|(refine auR ?_)|((with_reducible refine hK _ _ ?_);clear hK K)|fail)
   exact ⟨(i+1,oa),⟨hit,by dsimp only;rw [←st];exact ho⟩,by dsimp only;omega,Fits.of ⟨rfl,rfl,rfl,rfl,rfl,rfl,rfl,rfl,trivial⟩ (SubL.refl _) rfl⟩
  ·obtain rfl:i=16:=by omega
   have t3:decide (((16:Nat):Int)<16)=false:=by decide
   rw [hnx] at ho8
   repeat' (first|(refine wlS ?_)|(refine wlG ?_)|(refine wlB ?_)|(refine wlE ?_)|(refine efSvvp ?_;intro v hv hp)|(refine efSvao ?_;intro v oa ho)|(refine efG ?_)|(refine efGnn ?_;intro n hn)|(refine efBnn ?_;intro n hn)|(refine efB ?_)|(refine efBS ?_)|(refine wl_skip rfl rfl ?_)|(refine wdS ?_)|(refine wdG ?_)|(refine wdV ?_)|(refine wdB ?_)|(refine wdE ?_)|(refine wdT ?_)|(refine wdTO ?_)|(refine wd_skip rfl rfl ?_)|((with_reducible refine seld_nil ?_);refine wd_nil hm0 ?_;clear hm0 hw0)|((with_reducible refine wc_seq ?_);intro K hK)|(refine auC ?_)|(refine wc_cond rfl (fun hc=>?_) (fun hc=>?_))|(refine wc_draw (by kernel_rfl) (by kernel_rfl) (by decide +kernel) ?_;intro w0 hw0 hm0;(try simp only [List.append_eq,List.cons_append,List.nil_append]))|(refine auP ?_)|((refine auR ?_);clear hK K)|(refine auR ?_)|((with_reducible refine hK _ _ ?_);clear hK K)|fail)
   exact ⟨(k+1,v8,oa8),⟨hkt,ho8⟩,by dsimp only;omega,Fits.of ⟨rfl,rfl,rfl,rfl,rfl,trivial⟩ (.skip (.skip (SubL.refl _))) rfl⟩
 ·obtain rfl:k=q:=by omega
  have t1:decide (((16 * k:Nat):Int)<((16 * k:Nat):Int))=false:=decide_eq_false (by omega)
  rw [hA] at ho8
  clear DE hed hA
  have t2:IntKind.i64.wrap (((16 * k:Nat):Int) - 1)=((16 * k - 1:Nat):Int):=by rw [wrap_i64 _ (by omega) (by omega)];omega
  have g1:=bl_get (l:=P) (i:=16 * k - 1) (by omega)
  have hE8:=bys8.get hPb (16 * k - 1)
  rw [hE] at g1 hE8
  clear hE
  have j1:16 * k - 1<16 * k:=by omega
  have t3:IntKind.i64.wrap (e:Int)=(e:Int):=wrap_i64 _ (by omega) (by omega)
  by_cases he0:e<1
  ·have t4:decide ((e:Int)<1)=true:=decide_eq_true (by omega)
   repeat' (first|(refine wlS ?_)|(refine wlG ?_)|(refine wlB ?_)|(refine wlE ?_)|(refine efSvvp ?_;intro v hv hp)|(refine efSvao ?_;intro v oa ho)|(refine efG ?_)|(refine efGnn ?_;intro n hn)|(refine efBnn ?_;intro n hn)|(refine efB ?_)|(refine efBS ?_)|(refine wl_skip rfl rfl ?_)|(refine wdS ?_)|(refine wdG ?_)|(refine wdV ?_)|(refine wdB ?_)|(refine wdE ?_)|(refine wdT ?_)|(refine wdTO ?_)|(refine wd_skip rfl rfl ?_)|((with_reducible refine seld_nil ?_);refine wd_nil hm0 ?_;clear hm0 hw0)|((with_reducible refine wc_seq ?_);intro K hK)|(refine auC ?_)|(refine wc_cond rfl (fun hc=>?_) (fun hc=>?_))|(refine wc_draw (by kernel_rfl) (by kernel_rfl) (by decide +kernel) ?_;intro w0 hw0 hm0;(try simp only [List.append_eq,List.cons_append,List.nil_append]))|(refine auP ?_)|((refine auR ?_);clear hK K)|(refine auR ?_)|((with_reducible refine hK _ _ ?_);clear hK K)|fail)
   first|refine end_ret (ResP.tmp rfl (ResP.tmp rfl ResP.nil)) ?_|refine end_normal (ResP.tmp rfl (ResP.tmp rfl ResP.nil)) ?_
   (try dsimp only [tupV])
   exact ⟨(.slice none 0 0,4),[],rfl,.inr ⟨fun h=>by omega,rfl,rfl⟩,.nil⟩
  have t4:decide ((e:Int)<1)=false:=decide_eq_false (by omega)
  by_cases he1:e>16
  ·have t5:decide ((e:Int)>16)=true:=decide_eq_true (by omega)
   repeat' (first|(refine wlS ?_)|(refine wlG ?_)|(refine wlB ?_)|(refine wlE ?_)|(refine efSvvp ?_;intro v hv hp)|(refine efSvao ?_;intro v oa ho)|(refine efG ?_)|(refine efGnn ?_;intro n hn)|(refine efBnn ?_;intro n hn)|(refine efB ?_)|(refine efBS ?_)|(refine wl_skip rfl rfl ?_)|(refine wdS ?_)|(refine wdG ?_)|(refine wdV ?_)|(refine wdB ?_)|(refine wdE ?_)|(refine wdT ?_)|(refine wdTO ?_)|(refine wd_skip rfl rfl ?_)|((with_reducible refine seld_nil ?_);refine wd_nil hm0 ?_;clear hm0 hw0)|((with_reducible refine wc_seq ?_);intro K hK)|(refine auC ?_)|(refine wc_cond rfl (fun hc=>?_) (fun hc=>?_))|(refine wc_draw (by kernel_rfl) (by kernel_rfl) (by decide +kernel) ?_;intro w0 hw0 hm0;(try simp only [List.append_eq,List.cons_append,List.nil_append]))|(refine auP ?_)|((refine auR ?_);clear hK K)|(refine auR ?_)|((with_reducible refine hK _ _ ?_);clear hK K)|fail)
   first|refine end_ret (ResP.tmp rfl (ResP.tmp rfl ResP.nil)) ?_|refine end_normal (ResP.tmp rfl (ResP.tmp rfl ResP.nil)) ?_
   (try dsimp only [tupV])
   exact ⟨(.slice none 0 0,4),[],rfl,.inr ⟨fun h=>by omega,rfl,rfl⟩,.nil⟩
  have t5:decide ((e:Int)>16)=false:=decide_eq_false (by omega)
  have t6:IntKind.i64.wrap (((16 * k:Nat):Int) - (e:Int))=((16 * k - e:Nat):Int):=by rw [wrap_i64 _ (by omega) (by omega)];omega
  have d1:16 * k - (16 * k - e)=e:=by omega
  have d2:(P.drop (16 * k - e)).take (16 * k - (16 * k - e))=P.drop (16 * k - e):=List.take_of_length_le (by rw [List.length_drop];omega)
  repeat' (first|(refine wlS ?_)|(refine wlG ?_)|(refine wlB ?_)|(refine wlE ?_)|(refine efSvvp ?_;intro v hv hp)|(refine efSvao ?_;intro v oa ho)|(refine efG ?_)|(refine efGnn ?_;intro n hn)|(refine efBnn ?_;intro n hn)|(refine efB ?_)|(refine efBS ?_)|(refine wl_skip rfl rfl ?_)|(refine wdS ?_)|(refine wdG ?_)|(refine wdV ?_)|(refine wdB ?_)|(refine wdE ?_)|(refine wdT ?_)|(refine wdTO ?_)|(refine wd_skip rfl rfl ?_)|((with_reducible refine seld_nil ?_);refine wd_nil hm0 ?_;clear hm0 hw0)|((with_reducible refine wc_seq ?_);intro K hK)|(refine auC ?_)|(refine wc_cond rfl (fun hc=>?_) (fun hc=>?_))|(refine wc_draw (by kernel_rfl) (by kernel_rfl) (by decide +kernel) ?_;intro w0 hw0 hm0;(try simp only [List.append_eq,List.cons_append,List.nil_append]))|(refine auP ?_)|((refine auR ?_);clear hK K)|(refine auR ?_)|((with_reducible refine hK _ _ ?_);clear hK K)|fail)
  refine wc_loop (σ:=Nat) (fun j=>[(3,ptr n3),(4,ptr n4),(8,v8),(13,.int .i64 (e:Int)),(77,v),(78,.int .i64 (e:Int)),(79,.int .i64 (j:Int))])
   (fun j=>(n4,(bys (prevC iv c k),23))::(n3,(rwA (sgA W R),77))::oa8)
   (fun j=>j≤e∧∀ i,i<j→P.getD (16 * k - e+i) 0=e) (fun j=>e - j) 0 ⟨Nat.zero_le _,fun i hi=>by omega⟩ (Fits.of ⟨rfl,rfl,rfl,rfl,rfl,rfl,rfl,trivial⟩ (SubL.refl _) rfl) ?_
  rintro j ⟨hj,hall⟩
  by_cases hjt:j<e
  ·have t7:decide ((j:Int)<(e:Int))=true:=decide_eq_true (by omega)
   have t8:IntKind.i64.wrap ((j:Int)+1)=((j+1:Nat):Int):=by rw [wrap_i64 _ (by omega) (by omega)];omega
   have g2:=bl_get (l:=P.drop (16 * k - e)) (i:=j) (by rw [List.length_drop];omega)
   have g3:(P.drop (16 * k - e)).getD j 0=P.getD (16 * k - e+j) 0:=by rw [List.getD_eq_getElem?_getD,List.getElem?_drop,List.getD_eq_getElem?_getD]
   have hb3:=bys8.get hPb (16 * k - e+j)
   rw [g3] at g2
   generalize hB:P.getD (16 * k - e+j) 0=b at *
   have t9:IntKind.i64.wrap (b:Int)=(b:Int):=wrap_i64 _ (by omega) (by omega)
   by_cases hbe:b=e
   ·have t10:((b:Int) != (e:Int))=false:=by rw [hbe];simp
    repeat' (first|(refine wlS ?_)|(refine wlG ?_)|(refine wlB ?_)|(refine wlE ?_)|(refine efSvvp ?_;intro v hv hp)|(refine efSvao ?_;intro v oa ho)|(refine efG ?_)|(refine efGnn ?_;intro n hn)|(refine efBnn ?_;intro n hn)|(refine efB ?_)|(refine efBS ?_)|(refine wl_skip rfl rfl ?_)|(refine wdS ?_)|(refine wdG ?_)|(refine wdV ?_)|(refine wdB ?_)|(refine wdE ?_)|(refine wdT ?_)|(refine wdTO ?_)|(refine wd_skip rfl rfl ?_)|((with_reducible refine seld_nil ?_);refine wd_nil hm0 ?_;clear hm0 hw0)|((with_reducible refine wc_seq ?_);intro K hK)|(refine auC ?_)|(refine wc_cond rfl (fun hc=>?_) (fun hc=>?_))|(refine wc_draw (by kernel_rfl) (by kernel_rfl) (by decide +kernel) ?_;intro w0 hw0 hm0;(try simp only [List.append_eq,List.cons_append,List.nil_append]))|(refine auP ?_)|((refine auR ?_);clear hK K)|(refine auR ?_)|((with_reducible refine hK _ _ ?_);clear hK K)|fail)
    refine ⟨j+1,⟨hjt,fun i hi=>?_⟩,by omega,Fits.of ⟨rfl,rfl,rfl,rfl,rfl,rfl,rfl,trivial⟩ (SubL.refl _) rfl⟩
    rcases Nat.lt_or_ge i j with h1|h1
    ·exact hall i h1
    ·obtain rfl:i=j:=by omega
     rw [hB,hbe]
   ·have t10:((b:Int) != (e:Int))=true:=by simp only [bne_iff_ne,ne_eq];omega
    repeat' (first|(refine wlS ?_)|(refine wlG ?_)|(refine wlB ?_)|(refine wlE ?_)|(refine efSvvp ?_;intro v hv hp)|(refine efSvao ?_;intro v oa ho)|(refine efG ?_)|(refine efGnn ?_;intro n hn)|(refine efBnn ?_;intro n hn)|(refine efB ?_)|(refine efBS ?_)|(refine wl_skip rfl rfl ?_)|(refine wdS ?_)|(refine wdG ?_)|(refine wdV ?_)|(refine wdB ?_)|(refine wdE ?_)|(refine wdT ?_)|(refine wdTO ?_)|(refine wd_skip rfl rfl ?_)|((with_reducible refine seld_nil ?_);refine wd_nil hm0 ?_;clear hm0 hw0)|((with_reducible refine wc_seq ?_);intro K hK)|(refine auC ?_)|(refine wc_cond rfl (fun hc=>?_) (fun hc=>?_))|(refine wc_draw (by kernel_rfl) (by kernel_rfl) (by decide +kernel) ?_;intro w0 hw0 hm0;(try simp only [List.append_eq,List.cons_append,List.nil_append]))|(refine auP ?_)|((refine auR ?_);clear hK K)|(refine auR ?_)|((with_reducible refine hK _ _ ?_);clear hK K)|fail)
    first|refine end_ret (ResP.tmp rfl (ResP.tmp rfl ResP.nil)) ?_|refine end_normal (ResP.tmp rfl (ResP.tmp rfl ResP.nil)) ?_
    (try dsimp only [tupV])
    exact ⟨(.slice none 0 0,4),[],rfl,.inr ⟨fun h=>hbe (by rw [←hB];exact h.2.2 j hjt),rfl,rfl⟩,.nil⟩
  ·obtain rfl:j=e:=by omega
   have t7:decide ((j:Int)<(j:Int))=false:=decide_eq_false (by omega)
   repeat' (first|(refine wlS ?_)|(refine wlG ?_)|(refine wlB ?_)|(refine wlE ?_)|(refine efSvvp ?_;intro v hv hp)|(refine efSvao ?_;intro v oa ho)|(refine efG ?_)|(refine efGnn ?_;intro n hn)|(refine efC3vv ?_;intro v hv)|(refine efBnn ?_;intro n hn)|(refine efB ?_)|(refine efBS ?_)|(refine wl_skip rfl rfl ?_)|(refine wdS ?_)|(refine wdG ?_)|(refine wdV ?_)|(refine wdB ?_)|(refine wdE ?_)|(refine wdT ?_)|(refine wdTO ?_)|(refine wd_skip rfl rfl ?_)|((with_reducible refine seld_nil ?_);refine wd_nil hm0 ?_;clear hm0 hw0)|((with_reducible refine wc_seq ?_);intro K hK)|(refine auC ?_)|(refine wc_cond rfl (fun hc=>?_) (fun hc=>?_))|(refine wc_draw (by kernel_rfl) (by kernel_rfl) (by decide +kernel) ?_;intro w0 hw0 hm0;(try simp only [List.append_eq,List.cons_append,List.nil_append]))|(refine auP ?_)|((refine auR ?_);clear hK K)|(refine auR ?_)|((with_reducible refine hK _ _ ?_);clear hK K)|fail)
   first|refine end_ret (ResP.tmp rfl (ResP.tmp rfl ResP.nil)) ?_|refine end_normal (ResP.tmp rfl (ResP.tmp rfl ResP.nil)) ?_
   (try dsimp only [tupV])
   exact ⟨(_,0),oa8,rfl,.inl ⟨⟨by omega,by omega,hall⟩,rfl,by assumption⟩,.skip (.skip (SubL.refl _))⟩
end Go.Proofs.YtkendlnjaopbeaaGreatDoor
