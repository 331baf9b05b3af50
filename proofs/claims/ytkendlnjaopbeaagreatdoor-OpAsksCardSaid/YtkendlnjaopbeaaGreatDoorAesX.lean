/- The package aes,walked: Expand. -/
import Derived.Test.YtkendlnjaopbeaaGreatDoorJnAE
namespace Go.Proofs.YtkendlnjaopbeaaGreatDoor
open Go.RowKit
set_option linter.unusedVariables false
set_option linter.unusedSimpArgs false
set_option maxRecDepth 100000
instance zg_key:ZG Tryz.prog 77 (sgA (List.replicate 240 0) 0):=⟨by kernel_rfl,inferInstance⟩
theorem pad_wd {l:List Nat}{i:Nat}(h:4 * i+4≤l.length):((pad l).drop (i * 4)).take 4=wdAt l i:=by
 rw [pad,List.drop_append_of_le_length (by omega),List.take_append_of_le_length (by rw [List.length_drop];omega),wdAt,Nat.mul_comm]
attribute [local irreducible] rwA bys
set_option maxHeartbeats 8000000 in
theorem exp_c (w':World){v:Value}{m:Nat}{p:List Nat}(hn:m=4∨m=6∨m=8)(h:Cb w' v (4 * m) p) :
  Calls Tryz.prog 25 [v].toArray w' (Ret (.tuple #[kv (expW m p) (m+6),.int .i64 0]) w'):=by
 haveI i1:=h.old
 have hpl:=h.ok.len
 have hpb:bys8 p:=h.ok.by'
 have hn0:0<m:=by omega
 have hR:m≤8:=by omega
 have eok:=fun i=>expN_ok hpl hpb hn0 i
 have W0:pad (expN m p 0)=List.replicate 240 0:=rfl
 have hW:expW m p=pad (expN m p (4 * (m+7))):=rfl
 rw [hW]
 clear hW h
 have q0:IntKind.i64.wrap ((((4 * m:Nat)):Int).tdiv 4)=((m:Nat):Int):=by rw [Int.tdiv_eq_ediv_of_nonneg (by omega),wrap_i64 _ (by omega) (by omega)];omega
 have q1:IntKind.i64.wrap ((m:Int)+6)=((m+6:Nat):Int):=by rw [wrap_i64 _ (by omega) (by omega)];omega
 have q2:IntKind.i64.wrap (((m+6:Nat):Int)+1)=((m+7:Nat):Int):=by rw [wrap_i64 _ (by omega) (by omega)];omega
 have q3:IntKind.i64.wrap (4 * ((m+7:Nat):Int))=((4 * (m+7):Nat):Int):=by rw [wrap_i64 _ (by omega) (by omega)];omega
 have a1:(((((4 * m:Nat)):Int) != 16)=true∧((((4 * m:Nat)):Int) != 24)=true∧((((4 * m:Nat)):Int) != 32)=false)∨(((((4 * m:Nat)):Int) != 16)=true∧((((4 * m:Nat)):Int) != 24)=false)∨((((4 * m:Nat)):Int) != 16)=false:=by
  rcases hn with rfl|rfl|rfl <;> decide
 have nby:∀ i,i≤60→NBy (pad (expN m p i)) 240:=fun i hi=>⟨pad_len (by rw [(eok i).1];omega)⟩
 clear hn
 refine fn_ret (N:=_) Tryz.func25 rfl Tryz.ntmps25 Tryz.results25 (by simp) ?_
 simp only [initS,Nat.reduceAdd,Nat.zero_add]
 repeat' (first|(refine wlS ?_)|(refine wlG ?_)|(refine wlB ?_)|(refine wlE ?_)|(refine efSvao ?_;intro v oa ho)|(refine efG ?_)|(refine efGnn ?_;intro n hn)|(refine efBnn ?_;intro n hn)|(refine efB ?_)|(refine efBS ?_)|(refine wl_skip rfl rfl ?_)|(refine wdS ?_)|(refine wdG ?_)|(refine wdV ?_)|(refine wdB ?_)|(refine wdE ?_)|(refine wdT ?_)|(refine wdTO ?_)|(refine wd_skip rfl rfl ?_)|((with_reducible refine seld_nil ?_);refine wd_nil hm0 ?_;clear hm0 hw0)|((with_reducible refine wc_seq ?_);intro K hK)|(refine auC ?_)|(refine wc_cond rfl (fun hc=>?_) (fun hc=>?_))|(refine wc_draw (by kernel_rfl) (by kernel_rfl) (by decide +kernel) ?_;intro w0 hw0 hm0;(try simp only [List.append_eq,List.cons_append,List.nil_append]))|(refine auP ?_)|((refine auR ?_);clear hK K)|(refine auR ?_)|((with_reducible refine hK _ _ ?_);clear hK K)|fail)
 have FST:∀ s l,SubS [(0,v),(2,ptr n),(4,.int .i64 (m:Int)),(24,.bool false)] s→SubL [(n,(rwA (sgA (List.replicate 240 0) 0),77))] l→K s l:=by
  clear a1
  intro s l h1 h2
  refine hK s l (wc_sub h1 h2 rfl ?_)
  clear hK h1 h2 K s l
  obtain ⟨n2,rfl⟩:∃ n2,n2=n:=⟨n,rfl⟩
  repeat' (first|(refine wlS ?_)|(refine wlG ?_)|(refine wlB ?_)|(refine wlE ?_)|(refine efSvao ?_;intro v oa ho)|(refine efG ?_)|(refine efGnn ?_;intro n hn)|(refine efBnn ?_;intro n hn)|(refine efB ?_)|(refine efBS ?_)|(refine wl_skip rfl rfl ?_)|(refine wdS ?_)|(refine wdG ?_)|(refine wdV ?_)|(refine wdB ?_)|(refine wdE ?_)|(refine wdT ?_)|(refine wdTO ?_)|(refine wd_skip rfl rfl ?_)|((with_reducible refine seld_nil ?_);refine wd_nil hm0 ?_;clear hm0 hw0)|((with_reducible refine wc_seq ?_);intro K hK)|(refine auC ?_)|(refine wc_cond rfl (fun hc=>?_) (fun hc=>?_))|(refine wc_draw (by kernel_rfl) (by kernel_rfl) (by decide +kernel) ?_;intro w0 hw0 hm0;(try simp only [List.append_eq,List.cons_append,List.nil_append]))|(refine auP ?_)|((refine auR ?_);clear hK K)|(refine auR ?_)|((with_reducible refine hK _ _ ?_);clear hK K)|fail)
  obtain ⟨n5,rfl⟩:∃ n5,n5=n:=⟨n,rfl⟩
  refine wc_loop (σ:=Nat) (fun i=>[(0,v),(2,ptr n2),(4,.int .i64 (m:Int)),(5,ptr n5),(32,.int .i64 ((4 * (m+7):Nat):Int)),(33,.int .i64 (i:Int))])
   (fun i=>[(n5,(rwA (sgA (pad (expN m p i)) (m+6)),77)),(n2,(rwA (sgA (List.replicate 240 0) 0),77))])
   (fun i=>i≤4 * (m+7)) (fun i=>4 * (m+7) - i) 0 (Nat.zero_le _) (Fits.of ⟨rfl,rfl,rfl,rfl,rfl,rfl,trivial⟩ (by rw [W0];exact SubL.refl _) rfl) ?_
  intro i hi
  haveI:=nby i (by omega)
  by_cases hlt:i<4 * (m+7)
  ·have t1:decide ((i:Int)<((4 * (m+7):Nat):Int))=true:=decide_eq_true (by omega)
   have k1:IntKind.i64.wrap ((i:Int)+1)=((i+1:Nat):Int):=by rw [wrap_i64 _ (by omega) (by omega)];omega
   have hE:=(eok i).1
   have hE8:=(eok i).2
   by_cases hin:i<m
   ·have t2:decide ((i:Int)<(m:Int))=true:=decide_eq_true (by omega)
    have k2:IntKind.i64.wrap (4 * (i:Int))=((4 * i:Nat):Int):=by rw [wrap_i64 _ (by omega) (by omega)];omega
    have d1:(p.drop (4 * i)).take (4 * m - 4 * i)=p.drop (4 * i):=List.take_of_length_le (by rw [List.length_drop];omega)
    have m1:Nat.min (4 * m - 4 * i) 4=4:=Nat.min_eq_right (by omega)
    have c1:(pad (expN m p i)).take (i * 4)++((p.drop (4 * i)).take 4++(pad (expN m p i)).drop (i * 4+4))=pad (expN m p (i+1)):=by
     have:=pad_app (l:=expN m p i) (q:=wdAt p i) (k:=4) (wdAt_len (by omega)) (by omega)
     rw [hE,Nat.mul_comm 4 i] at this
     rw [expN,if_pos hin,←this]
     congr 2
     rw [wdAt,List.take_take,Nat.min_self]
    have f1:i * 4+4≤(pad (expN m p i)).length:=by rw [NBy.out (l:=pad (expN m p i))];omega
    haveI:=nby (i+1) (by omega)
    repeat' (first|(refine wlS ?_)|(refine wlG ?_)|(refine wlB ?_)|(refine wlE ?_)|(refine efSvvp ?_;intro v hv hp)|(refine efSvao ?_;intro v oa ho)|(refine efG ?_)|(refine efGnn ?_;intro n hn)|((with_reducible refine sel_call ?_);first|(refine wl_copyG (pp:=0) (mm:=240) (ho:=Nat.zero_add _) rfl rfl rfl rfl rfl ?_))|(refine efBnn ?_;intro n hn)|(refine efB ?_)|(refine efBS ?_)|(refine wl_skip rfl rfl ?_)|((with_reducible refine wc_seq ?_);intro K hK)|(refine auC ?_)|(refine wc_cond rfl (fun hc=>?_) (fun hc=>?_))|((with_reducible refine wc_drawC (by kernel_rfl) ?_);(try simp only [List.append_eq,List.cons_append,List.nil_append,List.length_cons,List.length_nil,Nat.reduceAdd]))|((with_reducible refine sel_wh ?_);(refine wh_if (by decide +kernel) ?_);first|(refine wh_take (lq:=[]) rfl rfl rfl rfl (by first|exact rvS|exact rvG|exact rvB|exact rvE) (Or.inl rfl) ?_)|(refine wh_takeL rfl rfl rfl rfl (by first|exact rvS|exact rvG|exact rvB|exact rvE) (by decide +kernel) ?_))|(refine whS ?_;intro v hv hp)|((with_reducible refine sel_wh ?_);first|(refine wh_pass rfl rfl rfl rfl ?_)|(refine wh_done rfl ?_)|(refine wh_all rfl ?_))|((with_reducible refine sel_rest ?_);first|exact rest_nil rfl|refine rest_cons rfl rfl ?_ ?_)|((with_reducible refine sel_nx ?_);first|refine next_of ?_|refine next_late (by decide +kernel) ?_)|(refine auP ?_)|((refine auR ?_);clear hK K)|(refine auR ?_)|((with_reducible refine hK _ _ ?_);clear hK K)|fail)
    exact ⟨i+1,hlt,by omega,Fits.of ⟨rfl,rfl,rfl,rfl,rfl,rfl,trivial⟩ (SubL.refl _) rfl⟩
   ·have t2:decide ((i:Int)<(m:Int))=false:=decide_eq_false (by omega)
    have k2:IntKind.i64.wrap ((i:Int) - 1)=((i - 1:Nat):Int):=by rw [wrap_i64 _ (by omega) (by omega)];omega
    have k3:IntKind.i64.wrap ((i:Int) - (m:Int))=((i - m:Nat):Int):=by rw [wrap_i64 _ (by omega) (by omega)];omega
    have r1:(i:Int).tmod (m:Int)=((i % m:Nat):Int):=by rw [Int.tmod_eq_emod_of_nonneg (by omega)];omega
    have d1:((pad (expN m p i)).drop ((i - 1) * 4)).take 4=wdAt (expN m p i) (i - 1):=pad_wd (by omega)
    have hT:=wdAt_len (ws:=expN m p i) (i:=i - 1) (by omega)
    have hT8:=hE8.wd (i - 1)
    have hnx:expN m p (i+1)=expN m p i++xor4 (wdAt (expN m p i) (i - m)) (wdTurn m i (wdAt (expN m p i) (i - 1))):=by rw [expN,if_neg hin]
    haveI:NBy (wdAt (expN m p i) (i - 1)) 4:=⟨hT⟩
    replace hn0:=Lib.hid hn0
    repeat' (first|(refine wlS ?_)|(refine wlG ?_)|((with_reducible refine sel_load ?_);refine wv rfl rfl (rd_load rfl rfl (ld_sgB (p:=0) (m:=240) (ho:=Nat.zero_add _))) ?_)|(refine wlB ?_)|(refine wlE ?_)|(refine efSvao ?_;intro v oa ho)|(refine efG ?_)|(refine efGnn ?_;intro n hn)|(refine efZCnn ?_;intro n hn)|(refine efBnn ?_;intro n hn)|(refine efB ?_)|(refine efBS ?_)|(refine wl_skip rfl rfl ?_)|(refine wdS ?_)|(refine wdG ?_)|((with_reducible refine seld_load ?_);refine wdv hm0 rfl rfl rfl rfl (rd_load rfl rfl (ld_sgB (p:=0) (m:=240) (ho:=Nat.zero_add _))) ?_)|(refine wdV ?_)|(refine wdB ?_)|(refine wdE ?_)|(refine wdT ?_)|(refine wdTO ?_)|(refine wd_skip rfl rfl ?_)|((with_reducible refine seld_nil ?_);refine wd_nil hm0 ?_;clear hm0 hw0)|((with_reducible refine wc_seq ?_);intro K hK)|(refine auC ?_)|(refine wc_cond rfl (fun hc=>?_) (fun hc=>?_))|(refine wc_draw (by kernel_rfl) (by kernel_rfl) (by decide +kernel) ?_;intro w0 hw0 hm0;(try simp only [List.append_eq,List.cons_append,List.nil_append]))|(refine auP ?_)|((refine auR ?_);clear hK K)|(refine auR ?_)|((with_reducible refine hK _ _ ?_);clear hK K)|fail)
    replace hn0:=hn0.out
    obtain ⟨n7,rfl⟩:∃ n7,n7=n:=⟨n,rfl⟩
    rename_i KS hKS
    have SND:∀ (T:List Nat) s l,T=wdTurn m i (wdAt (expN m p i) (i - 1))→SubS [(0,v),(2,ptr n2),(4,.int .i64 (m:Int)),(5,ptr n5),(32,.int .i64 ((4 * (m+7):Nat):Int)),(33,.int .i64 (i:Int)),(6,.int .i64 (i:Int)),(7,ptr n7)] s→
      SubL [(n7,(bys T,74)),(n5,(rwA (sgA (pad (expN m p i)) (m+6)),77)),(n2,(rwA (sgA (List.replicate 240 0) 0),77))] l→KS s l:=by
     clear hK K r1 d1
     intro T s l hTe h1 h2
     refine hKS s l (wc_sub h1 h2 rfl ?_)
     clear hKS h1 h2 KS s l
     rw [←hTe] at hnx
     have hTl:T.length=4:=by rw [hTe];exact wdTurn_len hT
     have hTb:bys8 T:=by rw [hTe];exact hT8.turn m i
     clear hTe
     haveI:NBy T 4:=⟨hTl⟩
     have hP:=wdAt_len (ws:=expN m p i) (i:=i - m) (by omega)
     have hPb:=hE8.wd (i - m)
     have hPg:=fun j hj=>wdAt_get (ws:=expN m p i) (i:=i - m) (j:=j) hj
     generalize hPe:wdAt (expN m p i) (i - m)=Pw at *
     have hXl:=xor4_len Pw T
     have lenX:∀ j,j≤4→(expN m p i++(xor4 Pw T).take j).length=i * 4+j:=fun j hj=>by rw [List.length_append,hE,List.length_take,hXl];omega
     have X0:expN m p i++(xor4 Pw T).take 0=expN m p i:=by simp
     repeat' (first|(refine wlS ?_)|(refine wlG ?_)|(refine wlB ?_)|(refine wlE ?_)|(refine efSvao ?_;intro v oa ho)|(refine efG ?_)|(refine efGnn ?_;intro n hn)|(refine efBnn ?_;intro n hn)|(refine efB ?_)|(refine efBS ?_)|(refine wl_skip rfl rfl ?_)|(refine wdS ?_)|(refine wdG ?_)|(refine wdV ?_)|(refine wdB ?_)|(refine wdE ?_)|(refine wdT ?_)|(refine wdTO ?_)|(refine wd_skip rfl rfl ?_)|((with_reducible refine seld_nil ?_);refine wd_nil hm0 ?_;clear hm0 hw0)|((with_reducible refine wc_seq ?_);intro K hK)|(refine auC ?_)|(refine wc_cond rfl (fun hc=>?_) (fun hc=>?_))|(refine wc_draw (by kernel_rfl) (by kernel_rfl) (by decide +kernel) ?_;intro w0 hw0 hm0;(try simp only [List.append_eq,List.cons_append,List.nil_append]))|(refine auP ?_)|((refine auR ?_);clear hK K)|(refine auR ?_)|((with_reducible refine hK _ _ ?_);clear hK K)|fail)
     refine wc_loop (σ:=Nat) (fun j=>[(0,v),(2,ptr n2),(4,.int .i64 (m:Int)),(5,ptr n5),(32,.int .i64 ((4 * (m+7):Nat):Int)),(33,.int .i64 (i:Int)),(6,.int .i64 (i:Int)),(7,ptr n7),(86,.int .i64 (j:Int))])
      (fun j=>[(n7,(bys T,74)),(n5,(rwA (sgA (pad (expN m p i++(xor4 Pw T).take j)) (m+6)),77)),(n2,(rwA (sgA (List.replicate 240 0) 0),77))])
      (fun j=>j≤4) (fun j=>4 - j) 0 (Nat.zero_le _) (Fits.of ⟨rfl,rfl,rfl,rfl,rfl,rfl,rfl,rfl,rfl,trivial⟩ (by rw [X0];exact SubL.refl _) rfl) ?_
     intro j hj
     haveI:NBy (pad (expN m p i++(xor4 Pw T).take j)) 240:=⟨pad_len (by rw [lenX j hj];omega)⟩
     by_cases hjt:j<4
     ·have t3:decide ((j:Int)<4)=true:=decide_eq_true (by omega)
      have k4:IntKind.i64.wrap ((j:Int)+1)=((j+1:Nat):Int):=by rw [wrap_i64 _ (by omega) (by omega)];omega
      have gt:=bys_get (l:=T) (i:=j) (by omega)
      have gv:(bys (pad (expN m p i++(xor4 Pw T).take j)))[(i - m) * 4+j]? = some (.int .u8 ((Pw.getD j 0:Nat):Int)):=by
       rw [bys_get (by rw [NBy.out (l:=pad (expN m p i++(xor4 Pw T).take j))];omega),pad_get (by rw [lenX j hj];omega),List.getD_eq_getElem?_getD,List.getElem?_append_left (by omega),←List.getD_eq_getElem?_getD,Nat.mul_comm,←hPg j hjt]
      have xo:=bits_u8 (Pw.getD j 0) (T.getD j 0) (hPb.get j) (hTb.get j)
      have st:(pad (expN m p i++(xor4 Pw T).take j)).set (i * 4+j) (Pw.getD j 0 ^^^ T.getD j 0)=pad (expN m p i++(xor4 Pw T).take (j+1)):=by
       have:=pad_set (l:=expN m p i++(xor4 Pw T).take j) (x:=Pw.getD j 0 ^^^ T.getD j 0) (by rw [lenX j hj];omega)
       rw [lenX j hj] at this
       rw [this,xor4_step hjt,List.append_assoc]
      repeat' (first|(refine wlS ?_)|((with_reducible refine sel_load ?_);refine wv rfl rfl (rd_load rfl rfl (ld_sgC (p:=0) (m:=240) (ho:=Nat.zero_add _))) ?_)|(refine wlG ?_)|(refine wlB ?_)|(refine wlE ?_)|(refine efSvvp ?_;intro v hv hp)|(refine efSvao ?_;intro v oa ho)|(refine efG ?_)|(refine efGnn ?_;intro n hn)|((with_reducible refine sel_store ?_);first|refine wl_store rfl rfl (sv_sgC (p:=0) (m:=240) (hof:=Nat.zero_add _) rfl rfl rfl One.out) ?_)|(refine efBnn ?_;intro n hn)|(refine efB ?_)|(refine efBS ?_)|(refine wl_skip rfl rfl ?_)|((with_reducible refine wc_seq ?_);intro K hK)|(refine auC ?_)|(refine wc_cond rfl (fun hc=>?_) (fun hc=>?_))|((with_reducible refine wc_drawT (by kernel_rfl) ?_);(try simp only [List.append_eq,List.cons_append,List.nil_append,List.length_cons,List.length_nil,Nat.reduceAdd]))|((with_reducible refine sel_wh ?_);(refine wh_if (by decide +kernel) ?_);first|(refine wh_take (lq:=[]) rfl rfl rfl rfl (by first|exact rvS|((with_reducible apply selr_load);exact rd_load rfl rfl (ld_sgC (p:=0) (m:=240) (ho:=Nat.zero_add _)))|exact rvG|exact rvB|exact rvE) (Or.inl rfl) ?_)|(refine wh_takeL rfl rfl rfl rfl (by first|exact rvS|((with_reducible apply selr_load);exact rd_load rfl rfl (ld_sgC (p:=0) (m:=240) (ho:=Nat.zero_add _)))|exact rvG|exact rvB|exact rvE) (by decide +kernel) ?_))|(refine whS ?_;intro v hv hp)|((with_reducible refine sel_wh ?_);first|(refine wh_pass rfl rfl rfl rfl ?_)|(refine wh_done rfl ?_)|(refine wh_all rfl ?_))|((with_reducible refine sel_rest ?_);first|exact rest_nil rfl|refine rest_cons rfl rfl ?_ ?_)|((with_reducible refine sel_nx ?_);first|refine next_of ?_|refine next_late (by decide +kernel) ?_)|(refine auP ?_)|((refine auR ?_);clear hK K)|(refine auR ?_)|((with_reducible refine hK _ _ ?_);clear hK K)|fail)
      exact ⟨j+1,hjt,by omega,Fits.of ⟨rfl,rfl,rfl,rfl,rfl,rfl,rfl,rfl,rfl,trivial⟩ (by rw [←st];exact SubL.refl _) rfl⟩
     ·obtain rfl:j=4:=by omega
      have t3:decide (((4:Nat):Int)<4)=false:=by decide
      haveI:=nby (i+1) (by omega)
      rw [List.take_of_length_le (i:=4) (by rw [hXl];exact Nat.le_refl _),←hnx]
      repeat' (first|(refine wlS ?_)|(refine wlG ?_)|(refine wlB ?_)|(refine wlE ?_)|(refine efSvao ?_;intro v oa ho)|(refine efG ?_)|(refine efGnn ?_;intro n hn)|(refine efBnn ?_;intro n hn)|(refine efB ?_)|(refine efBS ?_)|(refine wl_skip rfl rfl ?_)|(refine wdS ?_)|(refine wdG ?_)|(refine wdV ?_)|(refine wdB ?_)|(refine wdE ?_)|(refine wdT ?_)|(refine wdTO ?_)|(refine wd_skip rfl rfl ?_)|((with_reducible refine seld_nil ?_);refine wd_nil hm0 ?_;clear hm0 hw0)|((with_reducible refine wc_seq ?_);intro K hK)|(refine auC ?_)|(refine wc_cond rfl (fun hc=>?_) (fun hc=>?_))|(refine wc_draw (by kernel_rfl) (by kernel_rfl) (by decide +kernel) ?_;intro w0 hw0 hm0;(try simp only [List.append_eq,List.cons_append,List.nil_append]))|(refine auP ?_)|((refine auR ?_);clear hK K)|(refine auR ?_)|((with_reducible refine hK _ _ ?_);clear hK K)|fail)
      exact ⟨i+1,hlt,by omega,Fits.of ⟨rfl,rfl,rfl,rfl,rfl,rfl,trivial⟩ (SubL.skip (SubL.refl _)) rfl⟩
    clear hKS hE hE8 hnx d1
    have hTg:=fun j hj=>bys_get (l:=wdAt (expN m p i) (i - 1)) (i:=j) (by rw [hT];exact hj)
    generalize wdAt (expN m p i) (i - 1)=tt at *
    have r2:(i:Int).tmod 8=((i % 8:Nat):Int):=by rw [Int.tmod_eq_emod_of_nonneg (by omega)];omega
    by_cases hm0:i % m=0
    ·have e1:(((i % m:Nat):Int) == 0)=true:=by rw [hm0];rfl
     have r3:IntKind.i64.wrap ((i:Int).tdiv (m:Int))=((i / m:Nat):Int):=by
      have:=Nat.div_le_self i m
      rw [Int.tdiv_eq_ediv_of_nonneg (by omega),←Int.natCast_ediv]
      generalize i / m=y at *
      rw [wrap_i64 _ (by omega) (by omega)]
     have hd1:1≤i / m:=(Nat.one_le_div_iff hn0).2 (by omega)
     have hd2:i / m≤60:=Nat.le_trans (Nat.div_le_self i m) (by omega)
     have r4:IntKind.i64.wrap (((i / m:Nat):Int) - 1)=((i / m - 1:Nat):Int):=by rw [wrap_i64 _ (by omega) (by omega)];omega
     have r5:IntKind.u64.wrap ((i / m - 1:Nat):Int)=((i / m - 1:Nat):Int):=wrap_u64 _ (by omega) (by omega)
     have PW:∀ w,Calls Tryz.prog 35 [.int .u8 2,.int .u64 ((i / m - 1:Nat):Int)].toArray w (Ret (.int .u8 ((npow 2 (i / m - 1):Nat):Int)) w):=fun w=>pow_gf 2 _ (by decide) (by omega) w
     have hgo:wdTurn m i tt=wdRot tt (npow 2 (i / m - 1)):=by rw [wdTurn,if_pos hm0]
     have hpx:=npow2_lt (i / m - 1)
     generalize npow 2 (i / m - 1)=x at *
     have g0:=hTg 0 (by decide)
     have g1:=hTg 1 (by decide)
     have g2:=hTg 2 (by decide)
     have g3:=hTg 3 (by decide)
     have l0:=hT8.get 0
     have l1:=hT8.get 1
     have l2:=hT8.get 2
     have l3:=hT8.get 3
     have hro:wdRot tt x=[gsub (tt.getD 1 0) ^^^ x,gsub (tt.getD 2 0),gsub (tt.getD 3 0),gsub (tt.getD 0 0)]:=rfl
     rw [hgo,hro] at SND
     clear hgo hro
     generalize tt.getD 0 0=y0 at *
     generalize tt.getD 1 0=y1 at *
     generalize tt.getD 2 0=y2 at *
     generalize tt.getD 3 0=y3 at *
     have SB:=fun w=>subbed_c w (l:=[y1,y2,y3,y0]) rfl (four_getD y1 y2 y3 y0 l1 l2 l3 l0)
     have E:Value.agg #[.int .u8 (y1:Int),.int .u8 (y2:Int),.int .u8 (y3:Int),.int .u8 (y0:Int)]=.agg (bys [y1,y2,y3,y0]):=by rw [bys];rfl
     have hs1:=bys_get (l:=[y1,y2,y3,y0].map gsub) (i:=0) (by simp)
     have xo:bits .xor .u8 ((([y1,y2,y3,y0].map gsub).getD 0 0:Nat):Int) (x:Int)=((gsub y1 ^^^ x:Nat):Int):=bits_u8 _ _ (gsub_lt _ l1) hpx
     haveI:NBy [y1,y2,y3,y0] 4:=⟨rfl⟩
     haveI:NBy ([y1,y2,y3,y0].map gsub) 4:=⟨rfl⟩
     repeat' (first|(refine wlS ?_)|(refine wlG ?_)|(refine wlB ?_)|((with_reducible refine sel_call ?_);refine wl_rd rfl rfl (rd_call rfl rfl rfl (fun w hm=>by with_reducible first|exact SB w|exact PW w)) ?_)|((with_reducible refine sel_build ?_);refine wv rfl rfl (rd_cast (rd_buildA rfl rfl) E) ?_)|(refine wlE ?_)|(refine efSvvp ?_;intro v hv hp)|(refine efSvao ?_;intro v oa ho)|(refine efG ?_)|(refine efGnn ?_;intro n hn)|(refine efBnn ?_;intro n hn)|(refine efB ?_)|(refine efBS ?_)|(refine wl_skip rfl rfl ?_)|((with_reducible refine wc_seq ?_);intro K hK)|(refine auC ?_)|(refine wc_cond rfl (fun hc=>?_) (fun hc=>?_))|((with_reducible refine wc_drawT (by kernel_rfl) ?_);(try simp only [List.append_eq,List.cons_append,List.nil_append,List.length_cons,List.length_nil,Nat.reduceAdd]))|((with_reducible refine sel_wh ?_);(refine wh_if (by decide +kernel) ?_);first|(refine wh_take (lq:=[]) rfl rfl rfl rfl (by first|exact rvS|exact rvG|exact rvB|exact rvE) (Or.inl rfl) ?_)|(refine wh_takeL rfl rfl rfl rfl (by first|exact rvS|exact rvG|exact rvB|exact rvE) (by decide +kernel) ?_))|(refine whS ?_;intro v hv hp)|((with_reducible refine sel_wh ?_);first|(refine wh_pass rfl rfl rfl rfl ?_)|(refine wh_done rfl ?_)|(refine wh_all rfl ?_))|((with_reducible refine sel_rest ?_);first|exact rest_nil rfl|refine rest_cons rfl rfl ?_ ?_)|((with_reducible refine sel_nx ?_);first|refine next_of ?_|refine next_late (by decide +kernel) ?_)|(refine auP ?_)|((refine auR ?_);clear hK K)|(refine auR ?_)|((with_reducible refine hK _ _ ?_);clear hK K)|fail)
     refine SND _ _ _ rfl (by exact ⟨rfl,rfl,rfl,rfl,rfl,rfl,rfl,rfl,trivial⟩) ?_
     repeat (first|exact SubL.nil|exact SubL.refl _|refine SubL.keep ?_|exact SubL.headA _ _|refine SubL.keepA ?_ _|refine SubL.skip ?_|refine SubL.skipA ?_ _)
    ·have e1:(((i % m:Nat):Int) == 0)=false:=beq_eq_false_iff_ne.2 fun h=>hm0 (Int.ofNat_eq_zero.1 h)
     by_cases h8:m=8∧i % 8=4
     ·have e2:(((m:Nat):Int) == 8)=true:=by rw [h8.1];rfl
      have e3:(((i % 8:Nat):Int) == 4)=true:=by rw [h8.2];rfl
      have hgo:wdTurn m i tt=tt.map gsub:=by rw [wdTurn,if_neg hm0,if_pos h8]
      rw [hgo] at SND
      have SB:=fun w=>subbed_c w (l:=tt) hT hT8.get
      haveI:NBy (tt.map gsub) 4:=⟨by rw [List.length_map];exact hT⟩
      repeat' (first|(refine wlS ?_)|(refine wlG ?_)|(refine wlB ?_)|((with_reducible refine sel_call ?_);refine wl_rd rfl rfl (rd_call rfl rfl rfl (fun w hm=>by with_reducible exact SB w)) ?_)|(refine wlE ?_)|(refine efSvvp ?_;intro v hv hp)|(refine efSvao ?_;intro v oa ho)|(refine efG ?_)|(refine efGnn ?_;intro n hn)|(refine efBnn ?_;intro n hn)|(refine efB ?_)|(refine efBS ?_)|(refine wl_skip rfl rfl ?_)|((with_reducible refine wc_seq ?_);intro K hK)|(refine auC ?_)|(refine wc_cond rfl (fun hc=>?_) (fun hc=>?_))|((with_reducible refine wc_drawT (by kernel_rfl) ?_);(try simp only [List.append_eq,List.cons_append,List.nil_append,List.length_cons,List.length_nil,Nat.reduceAdd]))|((with_reducible refine sel_wh ?_);(refine wh_if (by decide +kernel) ?_);first|(refine wh_take (lq:=[]) rfl rfl rfl rfl (by first|exact rvS|exact rvG|exact rvB|exact rvE) (Or.inl rfl) ?_)|(refine wh_takeL rfl rfl rfl rfl (by first|exact rvS|exact rvG|exact rvB|exact rvE) (by decide +kernel) ?_))|(refine whS ?_;intro v hv hp)|((with_reducible refine sel_wh ?_);first|(refine wh_pass rfl rfl rfl rfl ?_)|(refine wh_done rfl ?_)|(refine wh_all rfl ?_))|((with_reducible refine sel_rest ?_);first|exact rest_nil rfl|refine rest_cons rfl rfl ?_ ?_)|((with_reducible refine sel_nx ?_);first|refine next_of ?_|refine next_late (by decide +kernel) ?_)|(refine auP ?_)|((refine auR ?_);clear hK K)|(refine auR ?_)|((with_reducible refine hK _ _ ?_);clear hK K)|fail)
      refine SND _ _ _ rfl (by exact ⟨rfl,rfl,rfl,rfl,rfl,rfl,rfl,rfl,trivial⟩) ?_
      repeat (first|exact SubL.nil|exact SubL.refl _|refine SubL.keep ?_|exact SubL.headA _ _|refine SubL.keepA ?_ _|refine SubL.skip ?_|refine SubL.skipA ?_ _)
     ·have hgo:wdTurn m i tt=tt:=by rw [wdTurn,if_neg hm0,if_neg h8]
      rw [hgo] at SND
      by_cases h9:m=8
      ·have e2:(((m:Nat):Int) == 8)=true:=by rw [h9];rfl
       have e3:(((i % 8:Nat):Int) == 4)=false:=by
        have:¬i % 8=4:=fun h=>h8 ⟨h9,h⟩
        simp only [beq_eq_false_iff_ne,ne_eq];omega
       repeat' (first|(refine wlS ?_)|(refine wlG ?_)|(refine wlB ?_)|(refine wlE ?_)|(refine efSvvp ?_;intro v hv hp)|(refine efSvao ?_;intro v oa ho)|(refine efG ?_)|(refine efGnn ?_;intro n hn)|(refine efBnn ?_;intro n hn)|(refine efB ?_)|(refine efBS ?_)|(refine wl_skip rfl rfl ?_)|((with_reducible refine wc_seq ?_);intro K hK)|(refine auC ?_)|(refine wc_cond rfl (fun hc=>?_) (fun hc=>?_))|((with_reducible refine wc_drawT (by kernel_rfl) ?_);(try simp only [List.append_eq,List.cons_append,List.nil_append,List.length_cons,List.length_nil,Nat.reduceAdd]))|((with_reducible refine sel_wh ?_);(refine wh_if (by decide +kernel) ?_);first|(refine wh_take (lq:=[]) rfl rfl rfl rfl (by first|exact rvS|exact rvG|exact rvB|exact rvE) (Or.inl rfl) ?_)|(refine wh_takeL rfl rfl rfl rfl (by first|exact rvS|exact rvG|exact rvB|exact rvE) (by decide +kernel) ?_))|(refine whS ?_;intro v hv hp)|((with_reducible refine sel_wh ?_);first|(refine wh_pass rfl rfl rfl rfl ?_)|(refine wh_done rfl ?_)|(refine wh_all rfl ?_))|((with_reducible refine sel_rest ?_);first|exact rest_nil rfl|refine rest_cons rfl rfl ?_ ?_)|((with_reducible refine sel_nx ?_);first|refine next_of ?_|refine next_late (by decide +kernel) ?_)|(refine auP ?_)|((refine auR ?_);clear hK K)|(refine auR ?_)|((with_reducible refine hK _ _ ?_);clear hK K)|fail)
       refine SND _ _ _ rfl (by exact ⟨rfl,rfl,rfl,rfl,rfl,rfl,rfl,rfl,trivial⟩) ?_
       repeat (first|exact SubL.nil|exact SubL.refl _|refine SubL.keep ?_|exact SubL.headA _ _|refine SubL.keepA ?_ _|refine SubL.skip ?_|refine SubL.skipA ?_ _)
      ·have e2:(((m:Nat):Int) == 8)=false:=by
        simp only [beq_eq_false_iff_ne,ne_eq];omega
       repeat' (first|(refine wlS ?_)|(refine wlG ?_)|(refine wlB ?_)|(refine wlE ?_)|(refine efSvvp ?_;intro v hv hp)|(refine efSvao ?_;intro v oa ho)|(refine efG ?_)|(refine efGnn ?_;intro n hn)|(refine efBnn ?_;intro n hn)|(refine efB ?_)|(refine efBS ?_)|(refine wl_skip rfl rfl ?_)|((with_reducible refine wc_seq ?_);intro K hK)|(refine auC ?_)|(refine wc_cond rfl (fun hc=>?_) (fun hc=>?_))|((with_reducible refine wc_drawT (by kernel_rfl) ?_);(try simp only [List.append_eq,List.cons_append,List.nil_append,List.length_cons,List.length_nil,Nat.reduceAdd]))|((with_reducible refine sel_wh ?_);(refine wh_if (by decide +kernel) ?_);first|(refine wh_take (lq:=[]) rfl rfl rfl rfl (by first|exact rvS|exact rvG|exact rvB|exact rvE) (Or.inl rfl) ?_)|(refine wh_takeL rfl rfl rfl rfl (by first|exact rvS|exact rvG|exact rvB|exact rvE) (by decide +kernel) ?_))|(refine whS ?_;intro v hv hp)|((with_reducible refine sel_wh ?_);first|(refine wh_pass rfl rfl rfl rfl ?_)|(refine wh_done rfl ?_)|(refine wh_all rfl ?_))|((with_reducible refine sel_rest ?_);first|exact rest_nil rfl|refine rest_cons rfl rfl ?_ ?_)|((with_reducible refine sel_nx ?_);first|refine next_of ?_|refine next_late (by decide +kernel) ?_)|(refine auP ?_)|((refine auR ?_);clear hK K)|(refine auR ?_)|((with_reducible refine hK _ _ ?_);clear hK K)|fail)
       refine SND _ _ _ rfl (by exact ⟨rfl,rfl,rfl,rfl,rfl,rfl,rfl,rfl,trivial⟩) ?_
       repeat (first|exact SubL.nil|exact SubL.refl _|refine SubL.keep ?_|exact SubL.headA _ _|refine SubL.keepA ?_ _|refine SubL.skip ?_|refine SubL.skipA ?_ _)
  ·obtain rfl:i=4 * (m+7):=by omega
   have t1:decide (((4 * (m+7):Nat):Int)<((4 * (m+7):Nat):Int))=false:=decide_eq_false (by omega)
   repeat' (first|(refine wlS ?_)|(refine wlG ?_)|(refine wlB ?_)|(refine wlE ?_)|(refine efSvao ?_;intro v oa ho)|(refine efG ?_)|(refine efGnn ?_;intro n hn)|(refine efBnn ?_;intro n hn)|(refine efB ?_)|(refine efBS ?_)|(refine wl_skip rfl rfl ?_)|(refine wdS ?_)|(refine wdG ?_)|(refine wdV ?_)|(refine wdB ?_)|(refine wdE ?_)|(refine wdT ?_)|(refine wdTO ?_)|(refine wd_skip rfl rfl ?_)|((with_reducible refine seld_nil ?_);refine wd_nil hm0 ?_;clear hm0 hw0)|((with_reducible refine wc_seq ?_);intro K hK)|(refine auC ?_)|(refine wc_cond rfl (fun hc=>?_) (fun hc=>?_))|(refine wc_draw (by kernel_rfl) (by kernel_rfl) (by decide +kernel) ?_;intro w0 hw0 hm0;(try simp only [List.append_eq,List.cons_append,List.nil_append]))|(refine auP ?_)|((refine auR ?_);clear hK K)|(refine auR ?_)|((with_reducible refine hK _ _ ?_);clear hK K)|fail)
   first|refine end_ret (ResP.cell rfl ld_wholeG (ResP.tmp rfl ResP.nil)) ?_|refine end_normal (ResP.cell rfl ld_wholeG (ResP.tmp rfl ResP.nil)) ?_
   first|rfl|(show _=_;rfl)|(simp only [tupV, *];done)
 clear hK
 rcases a1 with ⟨a1,a2,a3⟩ | ⟨a1,a2⟩|a1
 ·rw [a1]
  repeat' (first|(refine wlS ?_)|(refine wlG ?_)|(refine wlB ?_)|(refine wlE ?_)|(refine efSvao ?_;intro v oa ho)|(refine efG ?_)|(refine efGnn ?_;intro n hn)|(refine efBnn ?_;intro n hn)|(refine efB ?_)|(refine efBS ?_)|(refine wl_skip rfl rfl ?_)|(refine wdS ?_)|(refine wdG ?_)|(refine wdV ?_)|(refine wdB ?_)|(refine wdE ?_)|(refine wdT ?_)|(refine wdTO ?_)|(refine wd_skip rfl rfl ?_)|((with_reducible refine seld_nil ?_);refine wd_nil hm0 ?_;clear hm0 hw0)|((with_reducible refine wc_seq ?_);intro K hK)|(refine auC ?_)|(refine wc_cond rfl (fun hc=>?_) (fun hc=>?_))|(refine wc_draw (by kernel_rfl) (by kernel_rfl) (by decide +kernel) ?_;intro w0 hw0 hm0;(try simp only [List.append_eq,List.cons_append,List.nil_append]))|(refine auP ?_)|((refine auR ?_);clear hK K)|(refine auR ?_)|((with_reducible refine hK _ _ ?_);clear hK K)|fail)
  refine FST _ _ (by exact ⟨rfl,rfl,rfl,rfl,trivial⟩) ?_
  repeat (first|exact SubL.nil|exact SubL.refl _|refine SubL.keep ?_|exact SubL.headA _ _|refine SubL.keepA ?_ _|refine SubL.skip ?_|refine SubL.skipA ?_ _)
 ·rw [a1]
  repeat' (first|(refine wlS ?_)|(refine wlG ?_)|(refine wlB ?_)|(refine wlE ?_)|(refine efSvao ?_;intro v oa ho)|(refine efG ?_)|(refine efGnn ?_;intro n hn)|(refine efBnn ?_;intro n hn)|(refine efB ?_)|(refine efBS ?_)|(refine wl_skip rfl rfl ?_)|(refine wdS ?_)|(refine wdG ?_)|(refine wdV ?_)|(refine wdB ?_)|(refine wdE ?_)|(refine wdT ?_)|(refine wdTO ?_)|(refine wd_skip rfl rfl ?_)|((with_reducible refine seld_nil ?_);refine wd_nil hm0 ?_;clear hm0 hw0)|((with_reducible refine wc_seq ?_);intro K hK)|(refine auC ?_)|(refine wc_cond rfl (fun hc=>?_) (fun hc=>?_))|(refine wc_draw (by kernel_rfl) (by kernel_rfl) (by decide +kernel) ?_;intro w0 hw0 hm0;(try simp only [List.append_eq,List.cons_append,List.nil_append]))|(refine auP ?_)|((refine auR ?_);clear hK K)|(refine auR ?_)|((with_reducible refine hK _ _ ?_);clear hK K)|fail)
  refine FST _ _ (by exact ⟨rfl,rfl,rfl,rfl,trivial⟩) ?_
  repeat (first|exact SubL.nil|exact SubL.refl _|refine SubL.keep ?_|exact SubL.headA _ _|refine SubL.keepA ?_ _|refine SubL.skip ?_|refine SubL.skipA ?_ _)
 ·rw [a1]
  repeat' (first|(refine wlS ?_)|(refine wlG ?_)|(refine wlB ?_)|(refine wlE ?_)|(refine efSvao ?_;intro v oa ho)|(refine efG ?_)|(refine efGnn ?_;intro n hn)|(refine efBnn ?_;intro n hn)|(refine efB ?_)|(refine efBS ?_)|(refine wl_skip rfl rfl ?_)|(refine wdS ?_)|(refine wdG ?_)|(refine wdV ?_)|(refine wdB ?_)|(refine wdE ?_)|(refine wdT ?_)|(refine wdTO ?_)|(refine wd_skip rfl rfl ?_)|((with_reducible refine seld_nil ?_);refine wd_nil hm0 ?_;clear hm0 hw0)|((with_reducible refine wc_seq ?_);intro K hK)|(refine auC ?_)|(refine wc_cond rfl (fun hc=>?_) (fun hc=>?_))|(refine wc_draw (by kernel_rfl) (by kernel_rfl) (by decide +kernel) ?_;intro w0 hw0 hm0;(try simp only [List.append_eq,List.cons_append,List.nil_append]))|(refine auP ?_)|((refine auR ?_);clear hK K)|(refine auR ?_)|((with_reducible refine hK _ _ ?_);clear hK K)|fail)
  refine FST _ _ (by exact ⟨rfl,rfl,rfl,rfl,trivial⟩) ?_
  repeat (first|exact SubL.nil|exact SubL.refl _|refine SubL.keep ?_|exact SubL.headA _ _|refine SubL.keepA ?_ _|refine SubL.skip ?_|refine SubL.skipA ?_ _)
end Go.Proofs.YtkendlnjaopbeaaGreatDoor
