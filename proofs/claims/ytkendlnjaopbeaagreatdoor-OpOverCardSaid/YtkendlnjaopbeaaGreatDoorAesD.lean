/- The package aes,walked: Decrypt. -/
import Derived.Test.YtkendlnjaopbeaaGreatDoorJnAE
namespace Go.Proofs.YtkendlnjaopbeaaGreatDoor
open Go.RowKit
attribute [local irreducible] rwA bys
set_option linter.unusedVariables false
set_option linter.unusedSimpArgs false
set_option maxRecDepth 100000
def unsP (b:List Nat)(i:Nat):List Nat:=(List.range 16).map fun j=>if (j+j % 4 * 12) % 16<i then gunsub (b.getD ((j+j % 4 * 12) % 16) 0) else 0
theorem unsP_len (b:List Nat)(i:Nat):(unsP b i).length=16:=by simp [unsP]
theorem unsP_step (b:List Nat){i:Nat}(hi:i<16):(unsP b i).set ((i+i % 4 * 4) % 16) (gunsub (b.getD i 0))=unsP b (i+1):=by
 refine List.ext_getElem (by simp [unsP]) fun j h1 h2=>?_
 rw [unsP_len] at h2
 rw [List.getElem_set]
 by_cases h:(i+i % 4 * 4) % 16=j
 ·rw [if_pos h]
  have e:(j+j % 4 * 12) % 16=i:=by omega
  simp only [unsP,List.getElem_map,List.getElem_range]
  rw [e,if_pos (by omega)]
 ·rw [if_neg h]
  have e:(j+j % 4 * 12) % 16≠i:=by omega
  simp only [unsP,List.getElem_map,List.getElem_range]
  by_cases hlt:(j+j % 4 * 12) % 16<i
  ·rw [if_pos hlt,if_pos (by omega)]
  ·rw [if_neg hlt,if_neg (by omega)]
theorem unsP_all (b:List Nat):unsP b 16=unsubL b:=by
 unfold unsP unsubL
 refine List.map_congr_left fun j hj=>?_
 rw [if_pos (Nat.mod_lt _ (by decide))]
theorem unsubL_len (b:List Nat):(unsubL b).length=16:=by simp [unsubL]
set_option maxHeartbeats 4000000 in
theorem dec_c (w':World){R:Nat}{W b:List Nat}[hk:AKey W](hR:R≤14)(hb:B16 b) :
  Calls Tryz.prog 128 [kv W R,.agg (bys b)].toArray w' (Ret (.agg (bys (decL W R b))) w'):=by
 have hbl:=hb.len
 have hW:=hk.ok
 haveI:NBy b 16:=⟨hbl⟩
 haveI:SgOk (sgA W R):=inferInstance
 refine fn_ret (N:=_) Tryz.func128 rfl Tryz.ntmps128 Tryz.results128 (by simp) ?_
 simp only [initS,Nat.reduceAdd,Nat.zero_add]
 repeat' (first|(refine wlS ?_)|(refine wlG ?_)|(refine wlB ?_)|(refine wlE ?_)|(refine efSvao ?_;intro v oa ho)|(refine efG ?_)|(refine efGnn ?_;intro n hn)|(refine efZCnn ?_;intro n hn)|(refine efBnn ?_;intro n hn)|(refine efB ?_)|(refine efBS ?_)|(refine wl_skip rfl rfl ?_)|((with_reducible refine wc_seq ?_);intro K hK)|(refine auC ?_)|(refine wc_cond rfl (fun hc=>?_) (fun hc=>?_))|(refine wc_draw (by kernel_rfl) (by kernel_rfl) (by decide +kernel) ?_;intro w0 hw0 hm0;(try simp only [List.append_eq,List.cons_append,List.nil_append]))|(refine auP ?_)|((refine auR ?_);clear hK K)|(refine auR ?_)|((with_reducible refine hK _ _ ?_);clear hK K)|fail)
 rename_i n2 hn2 n3 hn3
 obtain ⟨n4,rfl⟩:∃ n4,n4=n:=⟨n,rfl⟩
 refine wc_loop (σ:=Nat) (fun m=>[(2,ptr n2),(3,ptr n3),(4,ptr n4),(5,.int .i64 ((R - m:Nat):Int))])
  (fun m=>[(n4,(bys (List.replicate 16 0),23)),(n3,(bys (decN W R b m),23)),(n2,(rwA (sgA W R),77))])
  (fun m=>m≤R) (fun m=>R - m) 0 (Nat.zero_le _) (Fits.of ⟨rfl,rfl,rfl,rfl,trivial⟩ (SubL.refl _) rfl) ?_
 intro m hmR
 have hS:=decN_ok hW hb m (R:=R)
 haveI:NBy (decN W R b m) 16:=⟨hS.len⟩
 by_cases hlt:m<R
 ·have t1:decide (((R - m:Nat):Int)≥1)=true:=decide_eq_true (by omega)
  have k1:IntKind.i64.wrap (((R - m:Nat):Int) - 1)=((R - (m+1):Nat):Int):=by rw [wrap_i64 _ (by omega) (by omega)];omega
  have hnx:decN W R b (m+1)=unsubL (if R - m<R then mixL unB (addK W (R - m) (decN W R b m)) else addK W (R - m) (decN W R b m)):=rfl
  generalize decN W R b m=S at *
  have BY:∀ w'',w''.heap[n2]? = some (.cells (rwA (sgA W R)) 77)→Calls Tryz.prog 118 [ptr n2,.agg (bys S),.int .i64 ((R - m:Nat):Int)].toArray w'' (Ret (.agg (bys (addK W (R - m) S))) w''):=fun w'' h=>by_c (r:=R - m) w'' hk (by omega) hS h
  have hT:=addK_ok hW hS (r:=R - m)
  haveI:NBy (addK W (R - m) S) 16:=⟨hT.len⟩
  have EC:=fun w=>each_c w (F:=129) hT unB_lt (fun x0 x1 x2 x3=>unmix_l x0 x1 x2 x3) (by kernel_rfl)
  haveI:NBy (mixL unB (addK W (R - m) S)) 16:=⟨mixL_len _ _⟩
  by_cases hr:R - m<R
  ·have t3:decide (((R - m:Nat):Int)<(R:Int))=true:=decide_eq_true (by omega)
   rw [if_pos hr] at hnx
   have hU:B16 (mixL unB (addK W (R - m) S)):=mixL_ok unB_lt
   repeat' (first|(refine wlS ?_)|(refine wlG ?_)|(refine wlB ?_)|((with_reducible refine sel_call ?_);refine wl_rd rfl rfl (rd_call rfl rfl rfl (fun w hm=>by with_reducible first|exact EC w|exact BY w (Has.sees hm))) ?_)|(refine wlE ?_)|(refine efSvao ?_;intro v oa ho)|(refine efG ?_)|(refine efGnn ?_;intro n hn)|(refine efZCnn ?_;intro n hn)|(refine efBnn ?_;intro n hn)|(refine efB ?_)|(refine efBS ?_)|(refine wl_skip rfl rfl ?_)|((with_reducible refine wc_seq ?_);intro K hK)|(refine auC ?_)|(refine wc_cond rfl (fun hc=>?_) (fun hc=>?_))|(refine wc_draw (by kernel_rfl) (by kernel_rfl) (by decide +kernel) ?_;intro w0 hw0 hm0;(try simp only [List.append_eq,List.cons_append,List.nil_append]))|(refine auP ?_)|((refine auR ?_);clear hK K)|(refine auR ?_)|((with_reducible refine hK _ _ ?_);clear hK K)|fail)
   obtain ⟨n6,rfl⟩:∃ n6,n6=n:=⟨n,rfl⟩
   generalize mixL unB (addK W (R - m) S)=U at *
   have hs0:unsP U 0=List.replicate 16 0:=by
    unfold unsP
    simp only [Nat.not_lt_zero,if_false]
    rfl
   refine wc_loop (σ:=Nat) (fun i=>[(2,ptr n2),(3,ptr n3),(4,ptr n4),(5,.int .i64 ((R - m:Nat):Int)),(6,ptr n6),(23,.int .i64 (i:Int))])
    (fun i=>[(n6,(bys (unsP U i),23)),(n4,(bys (List.replicate 16 0),23)),(n3,(bys U,23)),(n2,(rwA (sgA W R),77))])
    (fun i=>i≤16) (fun i=>16 - i) 0 (Nat.zero_le _) (Fits.of ⟨rfl,rfl,rfl,rfl,rfl,rfl,trivial⟩ (by rw [hs0];exact SubL.refl _) rfl) ?_
   intro i hi
   haveI:NBy (unsP U i) 16:=⟨unsP_len U i⟩
   by_cases hit:i<16
   ·have t2:decide ((i:Int)<16)=true:=decide_eq_true (by omega)
    have k2:IntKind.i64.wrap ((i:Int)+1)=((i+1:Nat):Int):=by rw [wrap_i64 _ (by omega) (by omega)];omega
    have k3:(i:Int).tmod 4=((i % 4:Nat):Int):=by rw [Int.tmod_eq_emod_of_nonneg (by omega)];omega
    have k4:IntKind.i64.wrap (((i % 4:Nat):Int) * 4)=((i % 4 * 4:Nat):Int):=by rw [wrap_i64 _ (by omega) (by omega)];omega
    have k5:IntKind.i64.wrap ((i:Int)+((i % 4 * 4:Nat):Int))=((i+i % 4 * 4:Nat):Int):=by rw [wrap_i64 _ (by omega) (by omega)];omega
    have k6:((i+i % 4 * 4:Nat):Int).tmod 16=(((i+i % 4 * 4) % 16:Nat):Int):=by rw [Int.tmod_eq_emod_of_nonneg (by omega)];omega
    have j1:(((i+i % 4 * 4) % 16:Nat):Int)<((16:Nat):Int):=by omega
    have j2:(i:Int)<((16:Nat):Int):=by omega
    have gv:=bys_get (l:=U) (i:=i) (by rw [hU.len];omega)
    have SU:=unsub_gf (U.getD i 0) (hU.lt _)
    have st:=unsP_step U hit
    repeat' (first|(refine wlS ?_)|(refine wlG ?_)|(refine wlB ?_)|((with_reducible refine sel_call ?_);refine wl_rd rfl rfl (rd_call rfl rfl rfl (fun w hm=>by with_reducible exact SU w)) ?_)|(refine wlE ?_)|(refine efSvao ?_;intro v oa ho)|(refine efG ?_)|(refine efGnn ?_;intro n hn)|(refine efBnn ?_;intro n hn)|(refine efB ?_)|(refine efBS ?_)|(refine wl_skip rfl rfl ?_)|((with_reducible refine wc_seq ?_);intro K hK)|(refine auC ?_)|(refine wc_cond rfl (fun hc=>?_) (fun hc=>?_))|(refine wc_draw (by kernel_rfl) (by kernel_rfl) (by decide +kernel) ?_;intro w0 hw0 hm0;(try simp only [List.append_eq,List.cons_append,List.nil_append]))|(refine auP ?_)|((refine auR ?_);clear hK K)|(refine auR ?_)|((with_reducible refine hK _ _ ?_);clear hK K)|fail)
    exact ⟨i+1,hit,by omega,Fits.of ⟨rfl,rfl,rfl,rfl,rfl,rfl,trivial⟩ (by rw [←st];exact SubL.refl _) rfl⟩
   ·obtain rfl:i=16:=by omega
    have t2:decide (((16:Nat):Int)<16)=false:=by decide
    rw [unsP_all]
    haveI:NBy (unsubL U) 16:=⟨unsubL_len _⟩
    repeat' (first|(refine wlS ?_)|(refine wlG ?_)|(refine wlB ?_)|(refine wlE ?_)|(refine efSvao ?_;intro v oa ho)|(refine efG ?_)|(refine efGnn ?_;intro n hn)|(refine efZCnn ?_;intro n hn)|(refine efBnn ?_;intro n hn)|(refine efB ?_)|(refine efBS ?_)|(refine wl_skip rfl rfl ?_)|((with_reducible refine wc_seq ?_);intro K hK)|(refine auC ?_)|(refine wc_cond rfl (fun hc=>?_) (fun hc=>?_))|(refine wc_draw (by kernel_rfl) (by kernel_rfl) (by decide +kernel) ?_;intro w0 hw0 hm0;(try simp only [List.append_eq,List.cons_append,List.nil_append]))|(refine auP ?_)|((refine auR ?_);clear hK K)|(refine auR ?_)|((with_reducible refine hK _ _ ?_);clear hK K)|fail)
    exact ⟨m+1,hlt,by omega,Fits.of ⟨rfl,rfl,rfl,rfl,trivial⟩ (by rw [hnx];exact .skip (SubL.refl _)) rfl⟩
  ·have t3:decide (((R - m:Nat):Int)<(R:Int))=false:=decide_eq_false (by omega)
   rw [if_neg hr] at hnx
   have hU:=hT
   repeat' (first|(refine wlS ?_)|(refine wlG ?_)|(refine wlB ?_)|((with_reducible refine sel_call ?_);refine wl_rd rfl rfl (rd_call rfl rfl rfl (fun w hm=>by with_reducible exact BY w (Has.sees hm))) ?_)|(refine wlE ?_)|(refine efSvao ?_;intro v oa ho)|(refine efG ?_)|(refine efGnn ?_;intro n hn)|(refine efZCnn ?_;intro n hn)|(refine efBnn ?_;intro n hn)|(refine efB ?_)|(refine efBS ?_)|(refine wl_skip rfl rfl ?_)|((with_reducible refine wc_seq ?_);intro K hK)|(refine auC ?_)|(refine wc_cond rfl (fun hc=>?_) (fun hc=>?_))|(refine wc_draw (by kernel_rfl) (by kernel_rfl) (by decide +kernel) ?_;intro w0 hw0 hm0;(try simp only [List.append_eq,List.cons_append,List.nil_append]))|(refine auP ?_)|((refine auR ?_);clear hK K)|(refine auR ?_)|((with_reducible refine hK _ _ ?_);clear hK K)|fail)
   obtain ⟨n6,rfl⟩:∃ n6,n6=n:=⟨n,rfl⟩
   generalize addK W (R - m) S=U at *
   have hs0:unsP U 0=List.replicate 16 0:=by
    unfold unsP
    simp only [Nat.not_lt_zero,if_false]
    rfl
   refine wc_loop (σ:=Nat) (fun i=>[(2,ptr n2),(3,ptr n3),(4,ptr n4),(5,.int .i64 ((R - m:Nat):Int)),(6,ptr n6),(23,.int .i64 (i:Int))])
    (fun i=>[(n6,(bys (unsP U i),23)),(n4,(bys (List.replicate 16 0),23)),(n3,(bys U,23)),(n2,(rwA (sgA W R),77))])
    (fun i=>i≤16) (fun i=>16 - i) 0 (Nat.zero_le _) (Fits.of ⟨rfl,rfl,rfl,rfl,rfl,rfl,trivial⟩ (by rw [hs0];exact SubL.refl _) rfl) ?_
   intro i hi
   haveI:NBy (unsP U i) 16:=⟨unsP_len U i⟩
   by_cases hit:i<16
   ·have t2:decide ((i:Int)<16)=true:=decide_eq_true (by omega)
    have k2:IntKind.i64.wrap ((i:Int)+1)=((i+1:Nat):Int):=by rw [wrap_i64 _ (by omega) (by omega)];omega
    have k3:(i:Int).tmod 4=((i % 4:Nat):Int):=by rw [Int.tmod_eq_emod_of_nonneg (by omega)];omega
    have k4:IntKind.i64.wrap (((i % 4:Nat):Int) * 4)=((i % 4 * 4:Nat):Int):=by rw [wrap_i64 _ (by omega) (by omega)];omega
    have k5:IntKind.i64.wrap ((i:Int)+((i % 4 * 4:Nat):Int))=((i+i % 4 * 4:Nat):Int):=by rw [wrap_i64 _ (by omega) (by omega)];omega
    have k6:((i+i % 4 * 4:Nat):Int).tmod 16=(((i+i % 4 * 4) % 16:Nat):Int):=by rw [Int.tmod_eq_emod_of_nonneg (by omega)];omega
    have j1:(((i+i % 4 * 4) % 16:Nat):Int)<((16:Nat):Int):=by omega
    have j2:(i:Int)<((16:Nat):Int):=by omega
    have gv:=bys_get (l:=U) (i:=i) (by rw [hU.len];omega)
    have SU:=unsub_gf (U.getD i 0) (hU.lt _)
    have st:=unsP_step U hit
    repeat' (first|(refine wlS ?_)|(refine wlG ?_)|(refine wlB ?_)|((with_reducible refine sel_call ?_);refine wl_rd rfl rfl (rd_call rfl rfl rfl (fun w hm=>by with_reducible exact SU w)) ?_)|(refine wlE ?_)|(refine efSvao ?_;intro v oa ho)|(refine efG ?_)|(refine efGnn ?_;intro n hn)|(refine efBnn ?_;intro n hn)|(refine efB ?_)|(refine efBS ?_)|(refine wl_skip rfl rfl ?_)|((with_reducible refine wc_seq ?_);intro K hK)|(refine auC ?_)|(refine wc_cond rfl (fun hc=>?_) (fun hc=>?_))|(refine wc_draw (by kernel_rfl) (by kernel_rfl) (by decide +kernel) ?_;intro w0 hw0 hm0;(try simp only [List.append_eq,List.cons_append,List.nil_append]))|(refine auP ?_)|((refine auR ?_);clear hK K)|(refine auR ?_)|((with_reducible refine hK _ _ ?_);clear hK K)|fail)
    exact ⟨i+1,hit,by omega,Fits.of ⟨rfl,rfl,rfl,rfl,rfl,rfl,trivial⟩ (by rw [←st];exact SubL.refl _) rfl⟩
   ·obtain rfl:i=16:=by omega
    have t2:decide (((16:Nat):Int)<16)=false:=by decide
    rw [unsP_all]
    haveI:NBy (unsubL U) 16:=⟨unsubL_len _⟩
    repeat' (first|(refine wlS ?_)|(refine wlG ?_)|(refine wlB ?_)|(refine wlE ?_)|(refine efSvao ?_;intro v oa ho)|(refine efG ?_)|(refine efGnn ?_;intro n hn)|(refine efZCnn ?_;intro n hn)|(refine efBnn ?_;intro n hn)|(refine efB ?_)|(refine efBS ?_)|(refine wl_skip rfl rfl ?_)|((with_reducible refine wc_seq ?_);intro K hK)|(refine auC ?_)|(refine wc_cond rfl (fun hc=>?_) (fun hc=>?_))|(refine wc_draw (by kernel_rfl) (by kernel_rfl) (by decide +kernel) ?_;intro w0 hw0 hm0;(try simp only [List.append_eq,List.cons_append,List.nil_append]))|(refine auP ?_)|((refine auR ?_);clear hK K)|(refine auR ?_)|((with_reducible refine hK _ _ ?_);clear hK K)|fail)
    exact ⟨m+1,hlt,by omega,Fits.of ⟨rfl,rfl,rfl,rfl,trivial⟩ (by rw [hnx];exact .skip (SubL.refl _)) rfl⟩
 ·obtain rfl:m=R:=by omega
  have t1:decide (((m - m:Nat):Int)≥1)=false:=decide_eq_false (by omega)
  have he:decL W m b=addK W 0 (decN W m b m):=rfl
  have BY0:∀ w'',w''.heap[n2]? = some (.cells (rwA (sgA W m)) 77)→Calls Tryz.prog 118 [ptr n2,.agg (bys (decN W m b m)),.int .i64 0].toArray w'' (Ret (.agg (bys (addK W 0 (decN W m b m)))) w''):=fun w'' h=>by_c (r:=0) w'' hk (by omega) hS h
  haveI:NBy (addK W 0 (decN W m b m)) 16:=⟨addK_len _ _ _⟩
  rw [he]
  repeat' (first|(refine wlS ?_)|(refine wlG ?_)|(refine wlB ?_)|((with_reducible refine sel_call ?_);refine wl_rd rfl rfl (rd_call rfl rfl rfl (fun w hm=>by with_reducible exact BY0 w (Has.sees hm))) ?_)|(refine wlE ?_)|(refine efSvao ?_;intro v oa ho)|(refine efG ?_)|(refine efGnn ?_;intro n hn)|(refine efZCnn ?_;intro n hn)|(refine efBnn ?_;intro n hn)|(refine efB ?_)|(refine efBS ?_)|(refine wl_skip rfl rfl ?_)|((with_reducible refine wc_seq ?_);intro K hK)|(refine auC ?_)|(refine wc_cond rfl (fun hc=>?_) (fun hc=>?_))|(refine wc_draw (by kernel_rfl) (by kernel_rfl) (by decide +kernel) ?_;intro w0 hw0 hm0;(try simp only [List.append_eq,List.cons_append,List.nil_append]))|(refine auP ?_)|((refine auR ?_);clear hK K)|(refine auR ?_)|((with_reducible refine hK _ _ ?_);clear hK K)|fail)
  first|refine end_ret (ResP.cell rfl ld_whole ResP.nil) ?_|refine end_normal (ResP.cell rfl ld_whole ResP.nil) ?_
  first|rfl|(show _=_;rfl)|(simp only [tupV, *];done)
end Go.Proofs.YtkendlnjaopbeaaGreatDoor
