/- The package op,walked: keys that do not fit,of kinds 1 to 5. -/
import Derived.Test.YtkendlnjaopbeaaGreatDoorOpH
namespace Go.Proofs.YtkendlnjaopbeaaGreatDoor
open Go.RowKit
attribute [local irreducible] rwA bys
set_option linter.unusedVariables false
set_option linter.unusedSimpArgs false
set_option maxRecDepth 100000
set_option maxHeartbeats 4000000 in
theorem way_no1 (w:World){v:Value}{n:Nat}{p:List Nat}(hp:Cb w v n p)(hn:n≠0){iv W:List Nat}{R:Nat}{e:Int}[hkk:AKey W](hi:B16 iv)(EX:∀ w',Cb w' v n p→Calls Tryz.prog 25 [v].toArray w' (Ret (.tuple #[kv W R,.int .i64 e]) w')) :
  Calls Tryz.prog 18 [.int .i64 1,v,.agg (bys iv)].toArray w (Ret .nilIface w):=by
 have i1:=hp.old
 haveI:NBy iv 16:=⟨hi.len⟩
 obtain ⟨k0,hk0⟩:∃ k,Nat.min n 32=k:=⟨_,rfl⟩
 obtain ⟨q0,hq0⟩:∃ q,(List.replicate 32 0).take 0++(p.take k0++(List.replicate 32 0).drop (0+k0))=q:=⟨_,rfl⟩
 have hfit:0+k0≤(List.replicate 32 0).length:=by rw [←hk0,List.length_replicate,Nat.zero_add];exact Nat.min_le_right _ _
 have hk1:k0≤n:=by rw [←hk0];exact Nat.min_le_left _ _
 have hk2:k0≤32:=by rw [←hk0];exact Nat.min_le_right _ _
 haveI hN:NBy q0 32:=⟨by rw [←hq0,List.take_zero,List.nil_append,List.length_append,List.length_take,List.length_drop,List.length_replicate,hp.ok.len];omega⟩
 have t1:(((n:Nat):Int) == 0)=false:=by rw [beq_eq_false_iff_ne];omega
 clear hp
 refine fn_ret (N:=_) Tryz.func18 rfl Tryz.ntmps18 Tryz.results18 (by simp) ?_
 simp only [initS,Nat.reduceAdd,Nat.zero_add]
 repeat' (first|(refine wlS ?_)|(refine wlG ?_)|(refine wlB ?_)|((with_reducible refine sel_call ?_);refine wl_rd rfl rfl (rd_call rfl rfl rfl (fun w hm=>by with_reducible exact EX w (VwB.out w hm))) ?_)|(refine wlE ?_)|(refine efSvvp ?_;intro v hv hp)|(refine efSvao ?_;intro v oa ho)|(refine efM ?_)|(refine efMvao ?_;intro v oa ho)|((with_reducible refine sel_store ?_);first|(refine wl_putB (e:=5) rfl rfl rfl rfl rfl ?_;intro oa ho))|(refine efG ?_)|(refine efGnn ?_;intro n hn)|(refine efZCnn ?_;intro n hn)|(refine efBnn ?_;intro n hn)|(refine efB ?_)|(refine efBS ?_)|(refine wl_skip rfl rfl ?_)|((with_reducible refine wc_seq ?_);intro K hK)|(refine auC ?_)|(refine wc_cond rfl (fun hc=>?_) (fun hc=>?_))|(refine wc_draw (by kernel_rfl) (by kernel_rfl) (by decide +kernel) ?_;intro w0 hw0 hm0;(try simp only [List.append_eq,List.cons_append,List.nil_append]))|(refine auP ?_)|((refine auR ?_);clear hK K)|(refine auR ?_)|((with_reducible refine hK _ _ ?_);clear hK K)|fail)
 first|refine end_ret (ResP.tmp rfl ResP.nil) ?_|refine end_normal (ResP.tmp rfl ResP.nil) ?_
 first|rfl|(show _=_;rfl)|(simp only [tupV, *];done)
set_option maxHeartbeats 4000000 in
theorem way_no2 (w:World){v:Value}{n:Nat}{p:List Nat}(hp:Cb w v n p){iv W:List Nat}{R:Nat}[hkk:AKey W](hi:B16 iv)(EX:∀ w',Cb w' v n p→Calls Tryz.prog 25 [v].toArray w' (Ret (.tuple #[kv W R,.int .i64 1]) w')) :
  Calls Tryz.prog 18 [.int .i64 2,v,.agg (bys iv)].toArray w (Ret .nilIface w):=by
 have i1:=hp.old
 haveI:NBy iv 16:=⟨hi.len⟩
 obtain ⟨k0,hk0⟩:∃ k,Nat.min n 32=k:=⟨_,rfl⟩
 obtain ⟨q0,hq0⟩:∃ q,(List.replicate 32 0).take 0++(p.take k0++(List.replicate 32 0).drop (0+k0))=q:=⟨_,rfl⟩
 have hfit:0+k0≤(List.replicate 32 0).length:=by rw [←hk0,List.length_replicate,Nat.zero_add];exact Nat.min_le_right _ _
 have hk1:k0≤n:=by rw [←hk0];exact Nat.min_le_left _ _
 have hk2:k0≤32:=by rw [←hk0];exact Nat.min_le_right _ _
 haveI hN:NBy q0 32:=⟨by rw [←hq0,List.take_zero,List.nil_append,List.length_append,List.length_take,List.length_drop,List.length_replicate,hp.ok.len];omega⟩
 have t0:((1:Int) != 0)=true:=rfl
 clear hp
 refine fn_ret (N:=_) Tryz.func18 rfl Tryz.ntmps18 Tryz.results18 (by simp) ?_
 simp only [initS,Nat.reduceAdd,Nat.zero_add]
 repeat' (first|(refine wlS ?_)|(refine wlG ?_)|(refine wlB ?_)|((with_reducible refine sel_call ?_);refine wl_rd rfl rfl (rd_call rfl rfl rfl (fun w hm=>by with_reducible exact EX w (VwB.out w hm))) ?_)|(refine wlE ?_)|(refine efSvvp ?_;intro v hv hp)|(refine efSvao ?_;intro v oa ho)|(refine efM ?_)|(refine efMvao ?_;intro v oa ho)|((with_reducible refine sel_store ?_);first|(refine wl_putB (e:=5) rfl rfl rfl rfl rfl ?_;intro oa ho))|(refine efG ?_)|(refine efGnn ?_;intro n hn)|(refine efZCnn ?_;intro n hn)|(refine efBnn ?_;intro n hn)|(refine efB ?_)|(refine efBS ?_)|(refine wl_skip rfl rfl ?_)|((with_reducible refine wc_seq ?_);intro K hK)|(refine auC ?_)|(refine wc_cond rfl (fun hc=>?_) (fun hc=>?_))|(refine wc_draw (by kernel_rfl) (by kernel_rfl) (by decide +kernel) ?_;intro w0 hw0 hm0;(try simp only [List.append_eq,List.cons_append,List.nil_append]))|(refine auP ?_)|((refine auR ?_);clear hK K)|(refine auR ?_)|((with_reducible refine hK _ _ ?_);clear hK K)|fail)
 first|refine end_ret (ResP.tmp rfl ResP.nil) ?_|refine end_normal (ResP.tmp rfl ResP.nil) ?_
 first|rfl|(show _=_;rfl)|(simp only [tupV, *];done)
set_option maxHeartbeats 4000000 in
theorem way_no3 (w:World){v:Value}{n:Nat}{p:List Nat}(hp:Cb w v n p){iv W:List Nat}{R:Nat}[hkk:AKey W](hi:B16 iv)(EX:∀ w',Cb w' v n p→Calls Tryz.prog 25 [v].toArray w' (Ret (.tuple #[kv W R,.int .i64 1]) w')) :
  Calls Tryz.prog 18 [.int .i64 3,v,.agg (bys iv)].toArray w (Ret .nilIface w):=by
 have i1:=hp.old
 haveI:NBy iv 16:=⟨hi.len⟩
 obtain ⟨k0,hk0⟩:∃ k,Nat.min n 32=k:=⟨_,rfl⟩
 obtain ⟨q0,hq0⟩:∃ q,(List.replicate 32 0).take 0++(p.take k0++(List.replicate 32 0).drop (0+k0))=q:=⟨_,rfl⟩
 have hfit:0+k0≤(List.replicate 32 0).length:=by rw [←hk0,List.length_replicate,Nat.zero_add];exact Nat.min_le_right _ _
 have hk1:k0≤n:=by rw [←hk0];exact Nat.min_le_left _ _
 have hk2:k0≤32:=by rw [←hk0];exact Nat.min_le_right _ _
 haveI hN:NBy q0 32:=⟨by rw [←hq0,List.take_zero,List.nil_append,List.length_append,List.length_take,List.length_drop,List.length_replicate,hp.ok.len];omega⟩
 have t0:((1:Int) != 0)=true:=rfl
 clear hp
 refine fn_ret (N:=_) Tryz.func18 rfl Tryz.ntmps18 Tryz.results18 (by simp) ?_
 simp only [initS,Nat.reduceAdd,Nat.zero_add]
 repeat' (first|(refine wlS ?_)|(refine wlG ?_)|(refine wlB ?_)|((with_reducible refine sel_call ?_);refine wl_rd rfl rfl (rd_call rfl rfl rfl (fun w hm=>by with_reducible exact EX w (VwB.out w hm))) ?_)|(refine wlE ?_)|(refine efSvvp ?_;intro v hv hp)|(refine efSvao ?_;intro v oa ho)|(refine efM ?_)|(refine efMvao ?_;intro v oa ho)|((with_reducible refine sel_store ?_);first|(refine wl_putB (e:=5) rfl rfl rfl rfl rfl ?_;intro oa ho))|(refine efG ?_)|(refine efGnn ?_;intro n hn)|(refine efZCnn ?_;intro n hn)|(refine efBnn ?_;intro n hn)|(refine efB ?_)|(refine efBS ?_)|(refine wl_skip rfl rfl ?_)|((with_reducible refine wc_seq ?_);intro K hK)|(refine auC ?_)|(refine wc_cond rfl (fun hc=>?_) (fun hc=>?_))|(refine wc_draw (by kernel_rfl) (by kernel_rfl) (by decide +kernel) ?_;intro w0 hw0 hm0;(try simp only [List.append_eq,List.cons_append,List.nil_append]))|(refine auP ?_)|((refine auR ?_);clear hK K)|(refine auR ?_)|((with_reducible refine hK _ _ ?_);clear hK K)|fail)
 first|refine end_ret (ResP.tmp rfl ResP.nil) ?_|refine end_normal (ResP.tmp rfl ResP.nil) ?_
 first|rfl|(show _=_;rfl)|(simp only [tupV, *];done)
set_option maxHeartbeats 4000000 in
theorem way_no4 (w:World){v:Value}{n:Nat}{p:List Nat}(hp:Cb w v n p)(hn:n≠32){iv W:List Nat}{R:Nat}{e:Int}[hkk:AKey W](hi:B16 iv)(EX:∀ w',Cb w' v n p→Calls Tryz.prog 25 [v].toArray w' (Ret (.tuple #[kv W R,.int .i64 e]) w')) :
  Calls Tryz.prog 18 [.int .i64 4,v,.agg (bys iv)].toArray w (Ret .nilIface w):=by
 have i1:=hp.old
 haveI:NBy iv 16:=⟨hi.len⟩
 obtain ⟨k0,hk0⟩:∃ k,Nat.min n 32=k:=⟨_,rfl⟩
 obtain ⟨q0,hq0⟩:∃ q,(List.replicate 32 0).take 0++(p.take k0++(List.replicate 32 0).drop (0+k0))=q:=⟨_,rfl⟩
 have hfit:0+k0≤(List.replicate 32 0).length:=by rw [←hk0,List.length_replicate,Nat.zero_add];exact Nat.min_le_right _ _
 have hk1:k0≤n:=by rw [←hk0];exact Nat.min_le_left _ _
 have hk2:k0≤32:=by rw [←hk0];exact Nat.min_le_right _ _
 haveI hN:NBy q0 32:=⟨by rw [←hq0,List.take_zero,List.nil_append,List.length_append,List.length_take,List.length_drop,List.length_replicate,hp.ok.len];omega⟩
 have t1:(((n:Nat):Int) == 32)=false:=by rw [beq_eq_false_iff_ne];omega
 clear hp
 refine fn_ret (N:=_) Tryz.func18 rfl Tryz.ntmps18 Tryz.results18 (by simp) ?_
 simp only [initS,Nat.reduceAdd,Nat.zero_add]
 repeat' (first|(refine wlS ?_)|(refine wlG ?_)|(refine wlB ?_)|((with_reducible refine sel_call ?_);refine wl_rd rfl rfl (rd_call rfl rfl rfl (fun w hm=>by with_reducible exact EX w (VwB.out w hm))) ?_)|(refine wlE ?_)|(refine efSvvp ?_;intro v hv hp)|(refine efSvao ?_;intro v oa ho)|(refine efM ?_)|(refine efMvao ?_;intro v oa ho)|((with_reducible refine sel_store ?_);first|(refine wl_putB (e:=5) rfl rfl rfl rfl rfl ?_;intro oa ho))|(refine efG ?_)|(refine efGnn ?_;intro n hn)|(refine efZCnn ?_;intro n hn)|(refine efBnn ?_;intro n hn)|(refine efB ?_)|(refine efBS ?_)|(refine wl_skip rfl rfl ?_)|((with_reducible refine wc_seq ?_);intro K hK)|(refine auC ?_)|(refine wc_cond rfl (fun hc=>?_) (fun hc=>?_))|(refine wc_draw (by kernel_rfl) (by kernel_rfl) (by decide +kernel) ?_;intro w0 hw0 hm0;(try simp only [List.append_eq,List.cons_append,List.nil_append]))|(refine auP ?_)|((refine auR ?_);clear hK K)|(refine auR ?_)|((with_reducible refine hK _ _ ?_);clear hK K)|fail)
 first|refine end_ret (ResP.tmp rfl ResP.nil) ?_|refine end_normal (ResP.tmp rfl ResP.nil) ?_
 first|rfl|(show _=_;rfl)|(simp only [tupV, *];done)
def upOk' (p:List Nat):Prop:=∃ k,k<T256∧lb k=p∧upOk k
set_option maxHeartbeats 4000000 in
theorem way_no5 (w:World){v:Value}{n:Nat}{p:List Nat}(hp:Cb w v n p)(hn:n=32→¬upOk' p){iv W:List Nat}{R:Nat}{e:Int}[hkk:AKey W](hi:B16 iv)(EX:∀ w',Cb w' v n p→Calls Tryz.prog 25 [v].toArray w' (Ret (.tuple #[kv W R,.int .i64 e]) w')) :
  Calls Tryz.prog 18 [.int .i64 5,v,.agg (bys iv)].toArray w (Ret .nilIface w):=by
 have i1:=hp.old
 haveI:NBy iv 16:=⟨hi.len⟩
 obtain ⟨k0,hk0⟩:∃ k,Nat.min n 32=k:=⟨_,rfl⟩
 obtain ⟨q0,hq0⟩:∃ q,(List.replicate 32 0).take 0++(p.take k0++(List.replicate 32 0).drop (0+k0))=q:=⟨_,rfl⟩
 have hfit:0+k0≤(List.replicate 32 0).length:=by rw [←hk0,List.length_replicate,Nat.zero_add];exact Nat.min_le_right _ _
 have hk1:k0≤n:=by rw [←hk0];exact Nat.min_le_left _ _
 have hk2:k0≤32:=by rw [←hk0];exact Nat.min_le_right _ _
 haveI hN:NBy q0 32:=⟨by rw [←hq0,List.take_zero,List.nil_append,List.length_append,List.length_take,List.length_drop,List.length_replicate,hp.ok.len];omega⟩
 have hB:BL 32 q0:=⟨hN.out,fun x hx=>by
  rw [←hq0] at hx
  simp only [List.take_zero,List.nil_append,List.mem_append] at hx
  rcases hx with hx|hx
  ·exact hp.ok.by' x (List.mem_of_mem_take hx)
  ·rw [(List.mem_replicate.1 (List.mem_of_mem_drop hx)).2];decide⟩
 have hno:n=32→¬upOk' p:=hn
 have hp32:n=32→q0=p:=fun h=>by
  subst h
  rw [←hq0,←hk0,List.take_zero,List.nil_append,List.take_of_length_le (by rw [hp.ok.len];exact Nat.le_refl _),List.drop_of_length_le (by simp),List.append_nil]
 obtain ⟨kk,hkl,hkq⟩:=lb_of hB
 clear hp
 by_cases hu:upOk kk
 ·have UP:∀ w,Calls Tryz.prog 26 [.agg (bys q0)].toArray w (Ret (.tuple #[pv (upPt kk),.int .i64 0]) w):=fun w=>by have:=unpack_yes hkl hu w;rwa [bv_lb,←hkq] at this
  have t0:((0:Int) == 0)=true:=rfl
  have t1:(((n:Nat):Int) == 32)=false:=by
   rw [beq_eq_false_iff_ne]
   intro h
   have h32:n=32:=by omega
   exact hno h32 ⟨kk,hkl,by rw [←hkq,hp32 h32],hu⟩
  clear hno hp32 hkq hB
  refine fn_ret (N:=_) Tryz.func18 rfl Tryz.ntmps18 Tryz.results18 (by simp) ?_
  simp only [initS,Nat.reduceAdd,Nat.zero_add]
  repeat' (first|(refine wlS ?_)|(refine wlG ?_)|(refine wlB ?_)|((with_reducible refine sel_call ?_);refine wl_rd rfl rfl (rd_call rfl rfl rfl (fun w hm=>by with_reducible first|exact EX w (VwB.out w hm)|exact UP w)) ?_)|(refine wlE ?_)|(refine efSvvp ?_;intro v hv hp)|(refine efSvao ?_;intro v oa ho)|(refine efM ?_)|(refine efMvao ?_;intro v oa ho)|((with_reducible refine sel_store ?_);first|(refine wl_putB (e:=5) rfl rfl rfl rfl rfl ?_;intro oa ho))|(refine efG ?_)|(refine efGnn ?_;intro n hn)|(refine efZCnn ?_;intro n hn)|(refine efBnn ?_;intro n hn)|(refine efB ?_)|(refine efBS ?_)|(refine wl_skip rfl rfl ?_)|((with_reducible refine wc_seq ?_);intro K hK)|(refine auC ?_)|(refine wc_cond rfl (fun hc=>?_) (fun hc=>?_))|(refine wc_draw (by kernel_rfl) (by kernel_rfl) (by decide +kernel) ?_;intro w0 hw0 hm0;(try simp only [List.append_eq,List.cons_append,List.nil_append]))|(refine auP ?_)|((refine auR ?_);clear hK K)|(refine auR ?_)|((with_reducible refine hK _ _ ?_);clear hK K)|fail)
  first|refine end_ret (ResP.tmp rfl ResP.nil) ?_|refine end_normal (ResP.tmp rfl ResP.nil) ?_
  first|rfl|(show _=_;rfl)|(simp only [tupV, *];done)
 ·have UP:∀ w,Calls Tryz.prog 26 [.agg (bys q0)].toArray w (Ret (.tuple #[pv ⟨0,0⟩,.int .i64 4]) w):=fun w=>by have:=unpack_no hkl hu w;rwa [bv_lb,←hkq] at this
  have t0:((4:Int) == 0)=false:=rfl
  clear hno hp32 hkq hB
  refine fn_ret (N:=_) Tryz.func18 rfl Tryz.ntmps18 Tryz.results18 (by simp) ?_
  simp only [initS,Nat.reduceAdd,Nat.zero_add]
  repeat' (first|(refine wlS ?_)|(refine wlG ?_)|(refine wlB ?_)|((with_reducible refine sel_call ?_);refine wl_rd rfl rfl (rd_call rfl rfl rfl (fun w hm=>by with_reducible first|exact EX w (VwB.out w hm)|exact UP w)) ?_)|(refine wlE ?_)|(refine efSvvp ?_;intro v hv hp)|(refine efSvao ?_;intro v oa ho)|(refine efM ?_)|(refine efMvao ?_;intro v oa ho)|((with_reducible refine sel_store ?_);first|(refine wl_putB (e:=5) rfl rfl rfl rfl rfl ?_;intro oa ho))|(refine efG ?_)|(refine efGnn ?_;intro n hn)|(refine efZCnn ?_;intro n hn)|(refine efBnn ?_;intro n hn)|(refine efB ?_)|(refine efBS ?_)|(refine wl_skip rfl rfl ?_)|((with_reducible refine wc_seq ?_);intro K hK)|(refine auC ?_)|(refine wc_cond rfl (fun hc=>?_) (fun hc=>?_))|(refine wc_draw (by kernel_rfl) (by kernel_rfl) (by decide +kernel) ?_;intro w0 hw0 hm0;(try simp only [List.append_eq,List.cons_append,List.nil_append]))|(refine auP ?_)|((refine auR ?_);clear hK K)|(refine auR ?_)|((with_reducible refine hK _ _ ?_);clear hK K)|fail)
  first|refine end_ret (ResP.tmp rfl ResP.nil) ?_|refine end_normal (ResP.tmp rfl ResP.nil) ?_
  first|rfl|(show _=_;rfl)|(simp only [tupV, *];done)
end Go.Proofs.YtkendlnjaopbeaaGreatDoor
