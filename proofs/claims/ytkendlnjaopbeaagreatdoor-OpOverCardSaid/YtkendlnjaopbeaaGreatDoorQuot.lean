/- The walks of quot.DivMod and quot.Mod. -/
import Derived.Test.YtkendlnjaopbeaaGreatDoorJnAK
namespace Go.Proofs.YtkendlnjaopbeaaGreatDoor
open Go.RowKit
set_option maxRecDepth 100000
set_option linter.unusedVariables false
set_option linter.unusedSimpArgs false
set_option maxRecDepth 8000
set_option maxHeartbeats 1000000 in
theorem divmod_zero (a:Nat)(w:World):Calls Tryz.prog 74 [wi a,nu 0].toArray w (Ret (.tuple #[wi 0,nu 0,.int .i64 1]) w):=by
 have q:∀ w:World,(Op.equalIn 10000 46 (nu 0) (nu 0)).run Tryz.prog w=.ok true w:=fun w=>by rw [eq_nu 0 0 (by decide) (by decide)];rfl
 refine fn_ret (N:=_) Tryz.func74 rfl Tryz.ntmps74 Tryz.results74 (by simp) ?_
 simp only [initS,Nat.reduceAdd,Nat.zero_add]
 repeat' (first|(refine wlB ?_)|((with_reducible refine sel_b_eql ?_);refine wv rfl rfl (rd_eqlV rfl rfl rfl (by with_reducible exact q)) ?_)|(refine wlE ?_)|(refine efZCnn ?_;intro n hn)|(refine efBnn ?_;intro n hn)|(refine efB ?_)|(refine wl_skip rfl rfl ?_)|(refine wdV ?_)|(refine wdB ?_)|(refine wd_pure hm0 rfl rfl rfl rfl rvB ?_)|((with_reducible refine seld_load ?_);first|refine wd_ld hm0 rfl rfl rfl rfl rfl rfl (by repeat (first|exact Inn.here|refine Inn.there ?_)) (ld_whole (Has.inn Inn.here)) ?_|refine wd_ld hm0 rfl rfl rfl rfl rfl rfl (by repeat (first|exact Inn.here|refine Inn.there ?_)) (ld_cell (Has.inn Inn.here)) ?_|refine wd_ld hm0 rfl rfl rfl rfl rfl rfl (by repeat (first|exact Inn.here|refine Inn.there ?_)) (ld_row (Has.inn Inn.here)) ?_)|(refine wdT ?_)|(refine wd_skip rfl rfl ?_)|((with_reducible refine seld_nil ?_);refine wd_nil hm0 ?_;clear hm0 hw0)|((with_reducible refine wc_seq ?_);intro K hK)|(refine auC ?_)|(refine wc_cond rfl (fun hc=>?_) (fun hc=>?_))|(refine wc_draw (by kernel_rfl) (by kernel_rfl) (by decide +kernel) ?_;intro w0 hw0 hm0;(try simp only [List.append_eq,List.cons_append,List.nil_append]))|(refine wc_drawS [4,5] (by kernel_rfl) (by kernel_rfl) (by decide +kernel) (by decide +kernel) ?_;intro w0 hw0 hm0;(try simp only [List.append_eq,List.cons_append,List.nil_append]))|(refine auP ?_)|((refine auR ?_);clear hK K)|(refine auR ?_)|((with_reducible refine hK _ _ ?_);clear hK K)|fail)
 first|refine end_ret (ResP.cell rfl ld_whole (ResP.cell rfl ld_whole (ResP.tmp rfl ResP.nil))) ?_|refine end_normal (ResP.cell rfl ld_whole (ResP.cell rfl ld_whole (ResP.tmp rfl ResP.nil))) ?_
 first|rfl|(show _=_;rfl)|(simp only [tupV, *];done)
set_option maxHeartbeats 4000000 in
theorem divmod_pos (a m:Nat)(ha:a<T512)(hm:m<T256)(h0:0<m)(w:World):Calls Tryz.prog 74 [wi a,nu m].toArray w (Ret (.tuple #[wi (a / m),nu (a % m),.int .i64 0]) w):=by
 have q:∀ w:World,(Op.equalIn 10000 46 (nu m) (nu 0)).run Tryz.prog w=.ok false w:=fun w=>by rw [eq_nu m 0 hm (by decide),decide_eq_false (by omega)]
 refine fn_ret (N:=_) Tryz.func74 rfl Tryz.ntmps74 Tryz.results74 (by simp) ?_
 simp only [initS,Nat.reduceAdd,Nat.zero_add]
 repeat' (first|(refine wlB ?_)|((with_reducible refine sel_b_eql ?_);refine wv rfl rfl (rd_eqlV rfl rfl rfl (by with_reducible exact q)) ?_)|(refine wlE ?_)|(refine efZCnn ?_;intro n hn)|(refine efBnn ?_;intro n hn)|(refine efB ?_)|(refine wl_skip rfl rfl ?_)|(refine wdV ?_)|(refine wdB ?_)|(refine wd_pure hm0 rfl rfl rfl rfl rvB ?_)|((with_reducible refine seld_load ?_);first|refine wd_ld hm0 rfl rfl rfl rfl rfl rfl (by repeat (first|exact Inn.here|refine Inn.there ?_)) (ld_whole (Has.inn Inn.here)) ?_|refine wd_ld hm0 rfl rfl rfl rfl rfl rfl (by repeat (first|exact Inn.here|refine Inn.there ?_)) (ld_cell (Has.inn Inn.here)) ?_|refine wd_ld hm0 rfl rfl rfl rfl rfl rfl (by repeat (first|exact Inn.here|refine Inn.there ?_)) (ld_row (Has.inn Inn.here)) ?_)|(refine wdT ?_)|(refine wd_skip rfl rfl ?_)|((with_reducible refine seld_nil ?_);refine wd_nil hm0 ?_;clear hm0 hw0)|((with_reducible refine wc_seq ?_);intro K hK)|(refine auC ?_)|(refine wc_cond rfl (fun hc=>?_) (fun hc=>?_))|(refine wc_draw (by kernel_rfl) (by kernel_rfl) (by decide +kernel) ?_;intro w0 hw0 hm0;(try simp only [List.append_eq,List.cons_append,List.nil_append]))|(refine wc_drawS [4,5] (by kernel_rfl) (by kernel_rfl) (by decide +kernel) (by decide +kernel) ?_;intro w0 hw0 hm0;(try simp only [List.append_eq,List.cons_append,List.nil_append]))|(refine auP ?_)|((refine auR ?_);clear hK K)|(refine auR ?_)|((with_reducible refine hK _ _ ?_);clear hK K)|fail)
 rename_i n2 g2 n3 g3 n4 g4 n5 g5 n7 g7
 obtain ⟨n8,rfl⟩:∃ n8,n8=n:=⟨n,rfl⟩
 have ⟨z1,z2⟩:=dv_top a m 512 ha rfl
 refine wc_loop (σ:=Nat) (fun k=>[(2,ptr n2),(3,ptr n3),(4,ptr n4),(5,ptr n5),(7,ptr n7),(8,ptr n8),(9,.int .i64 ((k:Int) - 1))])
  (fun k=>[(n8,numC (dvR a m k),46),(n7,wideC (dvQ a m k),130),(n5,numC 0,46),(n4,wideC 0,130),(n3,numC m,46),(n2,wideC a,130)])
  (fun k=>k≤512) id 512 (Nat.le_refl _) (Fits.of ⟨rfl,rfl,rfl,rfl,rfl,rfl,rfl,trivial⟩ (by
   show SubL [(n8,numC (dvR a m 512),46),(n7,wideC (dvQ a m 512),130),(n5,numC 0,46),(n4,wideC 0,130),(n3,numC m,46),(n2,wideC a,130)] _
   rw [z1,z2]
   repeat (first|exact SubL.nil|exact SubL.refl _|refine SubL.keep ?_|exact SubL.headA _ _|refine SubL.keepA ?_ _|refine SubL.skip ?_|refine SubL.skipA ?_ _)) rfl) ?_
 clear z1 z2
 intro k hk
 rcases k with _|j
 ·have ht:decide ((((0:Nat):Int) - 1)≥0)=false:=rfl
  have d1:dvR a m 0=a % m:=by unfold dvR;rw [Nat.pow_zero,Nat.div_one]
  have d2:dvQ a m 0=a / m:=by unfold dvQ;rw [Nat.pow_zero,Nat.div_one,Nat.mul_one]
  simp only [d1,d2]
  clear d1 d2
  repeat' (first|(refine wlB ?_)|(refine wlE ?_)|(refine efBnn ?_;intro n hn)|(refine efB ?_)|(refine wl_skip rfl rfl ?_)|(refine wdV ?_)|(refine wdB ?_)|(refine wd_pure hm0 rfl rfl rfl rfl rvB ?_)|((with_reducible refine seld_load ?_);first|refine wd_ld hm0 rfl rfl rfl rfl rfl rfl (by repeat (first|exact Inn.here|refine Inn.there ?_)) (ld_whole (Has.inn Inn.here)) ?_|refine wd_ld hm0 rfl rfl rfl rfl rfl rfl (by repeat (first|exact Inn.here|refine Inn.there ?_)) (ld_cell (Has.inn Inn.here)) ?_|refine wd_ld hm0 rfl rfl rfl rfl rfl rfl (by repeat (first|exact Inn.here|refine Inn.there ?_)) (ld_row (Has.inn Inn.here)) ?_)|(refine wdT ?_)|(refine wd_skip rfl rfl ?_)|((with_reducible refine seld_nil ?_);refine wd_nil hm0 ?_;clear hm0 hw0)|((with_reducible refine wc_seq ?_);intro K hK)|(refine auC ?_)|(refine wc_cond rfl (fun hc=>?_) (fun hc=>?_))|(refine wc_draw (by kernel_rfl) (by kernel_rfl) (by decide +kernel) ?_;intro w0 hw0 hm0;(try simp only [List.append_eq,List.cons_append,List.nil_append]))|(refine wc_drawS [4,5] (by kernel_rfl) (by kernel_rfl) (by decide +kernel) (by decide +kernel) ?_;intro w0 hw0 hm0;(try simp only [List.append_eq,List.cons_append,List.nil_append]))|(refine auP ?_)|((refine auR ?_);clear hK K)|(refine auR ?_)|((with_reducible refine hK _ _ ?_);clear hK K)|fail)
  first|refine end_ret (ResP.cell rfl ld_whole (ResP.cell rfl ld_whole (ResP.tmp rfl ResP.nil))) ?_|refine end_normal (ResP.cell rfl ld_whole (ResP.cell rfl ld_whole (ResP.tmp rfl ResP.nil))) ?_
  first|rfl|(show _=_;rfl)|(simp only [tupV, *];done)
 ·have ej:(((j+1:Nat):Int) - 1)=(j:Int):=by omega
  simp only [ej]
  obtain ⟨R,hR⟩:∃ R,R=a / 2 ^ (j+1) % m:=⟨_,rfl⟩
  obtain ⟨Q,hQ⟩:∃ Q,Q=a / 2 ^ (j+1) / m:=⟨_,rfl⟩
  have d1:dvR a m (j+1)=R:=hR.symm
  have d2:dvQ a m (j+1)=Q * 2 ^ (j+1):=by rw [hQ];rfl
  have d3:dvR a m j=a / 2 ^ j % m:=rfl
  have d4:dvQ a m j=a / 2 ^ j / m * 2 ^ j:=rfl
  obtain ⟨B,hB⟩:∃ B,B=a / 2 ^ j % 2:=⟨_,rfl⟩
  have hst:=div_step h0 hR hQ hB
  have hbit:=bit_wide a j
  rw [←hB] at hbit
  rw [d1,d2]
  clear d1 d2
  have hRm:R<m:=by rw [hR];exact Nat.mod_lt _ h0
  have hB2:B<2:=by rw [hB];exact Nat.mod_lt _ (by omega)
  clear hR hQ hB
  obtain ⟨q',hq'⟩:∃ q',q'=Q * 2 ^ (j+1):=⟨_,rfl⟩
  rw [←hq']
  have hpq:=limb_putbit q' j (by omega) (by rw [hq'];exact Nat.mul_mod_left _ _)
  have eq2:(2 * Q+1) * 2 ^ j=q'+2 ^ j:=by rw [hq',Nat.pow_succ,Nat.add_mul,Nat.one_mul,Nat.mul_comm 2 Q,Nat.mul_assoc,Nat.mul_comm 2 (2 ^ j)]
  have eq1:2 * Q * 2 ^ j=q':=by rw [hq',Nat.pow_succ,Nat.mul_comm 2 Q,Nat.mul_assoc,Nat.mul_comm 2 (2 ^ j)]
  have hputq:=wideC_put q' (q'+2 ^ j) (j / 64) _ (by omega) hpq.1 hpq.2
  clear hpq hq'
  have hj:j<512:=by omega
  have ht:decide (((j:Nat):Int)≥0)=true:=decide_eq_true (by omega)
  have hp:0+((j:Int) / 64).toNat * 1=j / 64:=by omega
  have hga:=wideC_get a (j / 64) (by omega)
  have hgq:=wideC_get q' (j / 64) (by omega)
  have hg3:=numC_get R 3 (by omega)
  have htop:=top_bit R (by omega)
  have hsh:IntKind.u64.wrap (1 * 2 ^ (min ((j:Int) % 64).toNat (IntKind.bits .u64)))=(((2 ^ (j % 64):Nat)):Int):=by
   rw [show min ((j:Int) % 64).toNat (IntKind.bits .u64)=j % 64 by show min _ 64=_;omega,show (1:Int)=((1:Nat):Int) from rfl,int_shl,Nat.one_mul]
   congr 1
   exact Nat.mod_eq_of_lt (Nat.pow_lt_pow_right (by omega) (Nat.mod_lt j (by omega)))
  have C1:∀ w,Calls Tryz.prog 62 #[nu R,.int .i64 1] w (Ret (nu (R * 2 ^ 1 % T256)) w):=fun w=>shl_nu R 1 (by omega) (by omega) w
  rw [Nat.pow_one] at C1
  obtain ⟨r1,hr1⟩:∃ r1,r1=R * 2 % T256:=⟨_,rfl⟩
  rw [←hr1] at C1
  have hg0:=numC_get r1 0 (by omega)
  have hpr:=limb_put0 r1 B (by rw [hr1];unfold T256;omega) hB2
  have hputr:=numC_put r1 (r1+B) 0 _ (by omega) hpr.1 hpr.2
  clear hpr
  have hm':=hm
  unfold T256 at hm'
  have e255:(2:Nat) ^ 255=57896044618658097711785492504343953926634992332820282019728792003956564819968:=by decide +kernel
  by_cases h1:R / 2 ^ 255=1
  ·have h2:(limb R 3 / 9223372036854775808 == 1)=true:=by rw [htop.1,h1];rfl
   rw [e255] at h1
   have hT:m≤2 * R+B:=by omega
   have C2:∀ w,Calls Tryz.prog 63 #[nu (r1+B),nu m] w (Ret (.tuple #[nu (2 * R+B - m),.int .u64 1]) w):=fun w=>by
    have:=sub_nu (r1+B) m (by unfold T256 at hr1 ⊢;omega) hm w
    rw [if_pos (by unfold T256 at hr1;omega),show (r1+B+T256 - m) % T256=2 * R+B - m by unfold T256 at hr1 ⊢;omega] at this
    exact this
   obtain ⟨e1,e2⟩:=hst.1 hT
   clear hst htop h1 e255 hr1 hT hm'
   repeat' (first|(refine wlB ?_)|((with_reducible refine sel_call ?_);refine wl_rd rfl rfl (rd_call rfl rfl rfl (fun w hm=>by with_reducible first|exact C1 w|exact C2 w)) ?_)|(refine wlE ?_)|(refine efZCnn ?_;intro n hn)|(refine efBnn ?_;intro n hn)|(refine efB ?_)|(refine wl_skip rfl rfl ?_)|(refine wdV ?_)|(refine wdB ?_)|(refine wd_pure hm0 rfl rfl rfl rfl rvB ?_)|((with_reducible refine seld_load ?_);first|refine wd_ld hm0 rfl rfl rfl rfl rfl rfl (by repeat (first|exact Inn.here|refine Inn.there ?_)) (ld_whole (Has.inn Inn.here)) ?_|refine wd_ld hm0 rfl rfl rfl rfl rfl rfl (by repeat (first|exact Inn.here|refine Inn.there ?_)) (ld_cell (Has.inn Inn.here)) ?_|refine wd_ld hm0 rfl rfl rfl rfl rfl rfl (by repeat (first|exact Inn.here|refine Inn.there ?_)) (ld_row (Has.inn Inn.here)) ?_)|(refine wdT ?_)|(refine wd_skip rfl rfl ?_)|((with_reducible refine seld_nil ?_);refine wd_nil hm0 ?_;clear hm0 hw0)|((with_reducible refine wc_seq ?_);intro K hK)|(refine auC ?_)|(refine wc_cond rfl (fun hc=>?_) (fun hc=>?_))|(refine wc_draw (by kernel_rfl) (by kernel_rfl) (by decide +kernel) ?_;intro w0 hw0 hm0;(try simp only [List.append_eq,List.cons_append,List.nil_append]))|(refine wc_drawS [4,5] (by kernel_rfl) (by kernel_rfl) (by decide +kernel) (by decide +kernel) ?_;intro w0 hw0 hm0;(try simp only [List.append_eq,List.cons_append,List.nil_append]))|(refine auP ?_)|((refine auR ?_);clear hK K)|(refine auR ?_)|((with_reducible refine hK _ _ ?_);clear hK K)|fail)
   refine ⟨j,by omega,Nat.lt_succ_self j,Fits.of ⟨rfl,rfl,rfl,rfl,rfl,rfl,rfl,trivial⟩ (by
    show SubL [(n8,_),_,_,_,_,_] _
    rw [d3,d4,e1,e2,eq2]
    repeat (first|exact SubL.nil|exact SubL.refl _|refine SubL.keep ?_|exact SubL.headA _ _|refine SubL.keepA ?_ _|refine SubL.skip ?_|refine SubL.skipA ?_ _)) rfl⟩
  ·have h2:(limb R 3 / 9223372036854775808 == 1)=false:=by
    have:R / 2 ^ 255=0:=by omega
    rw [htop.1,this];rfl
   rw [e255] at h1 htop
   by_cases hT:m≤2 * R+B
   ·have C2:∀ w,Calls Tryz.prog 63 #[nu (r1+B),nu m] w (Ret (.tuple #[nu (2 * R+B - m),.int .u64 0]) w):=fun w=>by
     have:=sub_nu (r1+B) m (by unfold T256 at hr1 ⊢;omega) hm w
     rw [if_neg (by unfold T256 at hr1;omega),show (r1+B+T256 - m) % T256=2 * R+B - m by unfold T256 at hr1 ⊢;omega] at this
     exact this
    obtain ⟨e1,e2⟩:=hst.1 hT
    clear hst htop h1 e255 hr1 hT hm'
    repeat' (first|(refine wlB ?_)|((with_reducible refine sel_call ?_);refine wl_rd rfl rfl (rd_call rfl rfl rfl (fun w hm=>by with_reducible first|exact C1 w|exact C2 w)) ?_)|(refine wlE ?_)|(refine efZCnn ?_;intro n hn)|(refine efBnn ?_;intro n hn)|(refine efB ?_)|(refine wl_skip rfl rfl ?_)|(refine wdV ?_)|(refine wdB ?_)|(refine wd_pure hm0 rfl rfl rfl rfl rvB ?_)|((with_reducible refine seld_load ?_);first|refine wd_ld hm0 rfl rfl rfl rfl rfl rfl (by repeat (first|exact Inn.here|refine Inn.there ?_)) (ld_whole (Has.inn Inn.here)) ?_|refine wd_ld hm0 rfl rfl rfl rfl rfl rfl (by repeat (first|exact Inn.here|refine Inn.there ?_)) (ld_cell (Has.inn Inn.here)) ?_|refine wd_ld hm0 rfl rfl rfl rfl rfl rfl (by repeat (first|exact Inn.here|refine Inn.there ?_)) (ld_row (Has.inn Inn.here)) ?_)|(refine wdT ?_)|(refine wd_skip rfl rfl ?_)|((with_reducible refine seld_nil ?_);refine wd_nil hm0 ?_;clear hm0 hw0)|((with_reducible refine wc_seq ?_);intro K hK)|(refine auC ?_)|(refine wc_cond rfl (fun hc=>?_) (fun hc=>?_))|(refine wc_draw (by kernel_rfl) (by kernel_rfl) (by decide +kernel) ?_;intro w0 hw0 hm0;(try simp only [List.append_eq,List.cons_append,List.nil_append]))|(refine wc_drawS [4,5] (by kernel_rfl) (by kernel_rfl) (by decide +kernel) (by decide +kernel) ?_;intro w0 hw0 hm0;(try simp only [List.append_eq,List.cons_append,List.nil_append]))|(refine auP ?_)|((refine auR ?_);clear hK K)|(refine auR ?_)|((with_reducible refine hK _ _ ?_);clear hK K)|fail)
    refine ⟨j,by omega,Nat.lt_succ_self j,Fits.of ⟨rfl,rfl,rfl,rfl,rfl,rfl,rfl,trivial⟩ (by
     show SubL [(n8,_),_,_,_,_,_] _
     rw [d3,d4,e1,e2,eq2]
     repeat (first|exact SubL.nil|exact SubL.refl _|refine SubL.keep ?_|exact SubL.headA _ _|refine SubL.keepA ?_ _|refine SubL.skip ?_|refine SubL.skipA ?_ _)) rfl⟩
   ·have C2:∀ w,Calls Tryz.prog 63 #[nu (r1+B),nu m] w (Ret (.tuple #[nu ((r1+B+T256 - m) % T256),.int .u64 1]) w):=fun w=>by
     have:=sub_nu (r1+B) m (by unfold T256 at hr1 ⊢;omega) hm w
     rw [if_pos (by unfold T256 at hr1;omega)] at this
     exact this
    obtain ⟨e1,e2⟩:=hst.2 (by omega)
    rw [show 2 * R+B=r1+B by unfold T256 at hr1;omega] at e1
    clear hst htop h1 e255 hr1 hT hm'
    repeat' (first|(refine wlB ?_)|((with_reducible refine sel_call ?_);refine wl_rd rfl rfl (rd_call rfl rfl rfl (fun w hm=>by with_reducible first|exact C1 w|exact C2 w)) ?_)|(refine wlE ?_)|(refine efZCnn ?_;intro n hn)|(refine efBnn ?_;intro n hn)|(refine efB ?_)|(refine wl_skip rfl rfl ?_)|(refine wdV ?_)|(refine wdB ?_)|(refine wd_pure hm0 rfl rfl rfl rfl rvB ?_)|((with_reducible refine seld_load ?_);first|refine wd_ld hm0 rfl rfl rfl rfl rfl rfl (by repeat (first|exact Inn.here|refine Inn.there ?_)) (ld_whole (Has.inn Inn.here)) ?_|refine wd_ld hm0 rfl rfl rfl rfl rfl rfl (by repeat (first|exact Inn.here|refine Inn.there ?_)) (ld_cell (Has.inn Inn.here)) ?_|refine wd_ld hm0 rfl rfl rfl rfl rfl rfl (by repeat (first|exact Inn.here|refine Inn.there ?_)) (ld_row (Has.inn Inn.here)) ?_)|(refine wdT ?_)|(refine wd_skip rfl rfl ?_)|((with_reducible refine seld_nil ?_);refine wd_nil hm0 ?_;clear hm0 hw0)|((with_reducible refine wc_seq ?_);intro K hK)|(refine auC ?_)|(refine wc_cond rfl (fun hc=>?_) (fun hc=>?_))|(refine wc_draw (by kernel_rfl) (by kernel_rfl) (by decide +kernel) ?_;intro w0 hw0 hm0;(try simp only [List.append_eq,List.cons_append,List.nil_append]))|(refine wc_drawS [4,5] (by kernel_rfl) (by kernel_rfl) (by decide +kernel) (by decide +kernel) ?_;intro w0 hw0 hm0;(try simp only [List.append_eq,List.cons_append,List.nil_append]))|(refine auP ?_)|((refine auR ?_);clear hK K)|(refine auR ?_)|((with_reducible refine hK _ _ ?_);clear hK K)|fail)
    refine ⟨j,by omega,Nat.lt_succ_self j,Fits.of ⟨rfl,rfl,rfl,rfl,rfl,rfl,rfl,trivial⟩ (by
     show SubL [(n8,_),_,_,_,_,_] _
     rw [d3,d4,e1,e2,eq1]
     repeat (first|exact SubL.nil|exact SubL.refl _|refine SubL.keep ?_|exact SubL.headA _ _|refine SubL.keepA ?_ _|refine SubL.skip ?_|refine SubL.skipA ?_ _)) rfl⟩
set_option maxHeartbeats 1000000 in
theorem mod_pos (a m:Nat)(ha:a<T512)(hm:m<T256)(h0:0<m)(w:World):Calls Tryz.prog 66 [wi a,nu m].toArray w (Ret (.tuple #[nu (a % m),.int .i64 0]) w):=by
 have C:=divmod_pos a m ha hm h0
 clear ha hm h0
 refine fn_ret (N:=_) Tryz.func66 rfl Tryz.ntmps66 Tryz.results66 (by simp) ?_
 simp only [initS,Nat.reduceAdd,Nat.zero_add]
 repeat' (first|(refine wlB ?_)|((with_reducible refine sel_call ?_);refine wl_rd rfl rfl (rd_call rfl rfl rfl (fun w hm=>by with_reducible exact C w)) ?_)|(refine wlE ?_)|(refine efZCnn ?_;intro n hn)|(refine efBnn ?_;intro n hn)|(refine efB ?_)|(refine wl_skip rfl rfl ?_)|((with_reducible refine wc_seq ?_);intro K hK)|(refine auC ?_)|(refine wc_cond rfl (fun hc=>?_) (fun hc=>?_))|(refine wc_draw (by kernel_rfl) (by kernel_rfl) (by decide +kernel) ?_;intro w0 hw0 hm0;(try simp only [List.append_eq,List.cons_append,List.nil_append]))|(refine auP ?_)|((refine auR ?_);clear hK K)|(refine auR ?_)|((with_reducible refine hK _ _ ?_);clear hK K)|fail)
 first|refine end_ret (ResP.cell rfl ld_whole (ResP.tmp rfl ResP.nil)) ?_|refine end_normal (ResP.cell rfl ld_whole (ResP.tmp rfl ResP.nil)) ?_
 first|rfl|(show _=_;rfl)|(simp only [tupV, *];done)
end Go.Proofs.YtkendlnjaopbeaaGreatDoor
