/- field.P,Low,Add,Sub. field.Mul. The contracts of field,in the words fadd,fmul,fsub,flow. field.pow,Inv,Sqrt. curve.d,Zero,Base,quadOf,plus,point,On,Neg,Add. curve.On,Neg,Add,Times. Packs of points: definitions. curve.Pack. -/
import Derived.Test.YtkendlnjaopbeaaGreatDoorJnAL
import Derived.Test.YtkendlnjaopbeaaGreatDoorJnAK
namespace Go.Proofs.YtkendlnjaopbeaaGreatDoor
open Go.RowKit
set_option linter.unusedVariables false
set_option linter.unusedSimpArgs false
set_option maxRecDepth 8000
theorem PP_val:Value.agg [.int .u64 18446744073709551597,.int .u64 18446744073709551615,.int .u64 18446744073709551615,.int .u64 9223372036854775807].toArray=nu PP:=by
 rw [←nu_num]
 have e0:limb PP 0=18446744073709551597:=by decide +kernel
 have e1:limb PP 1=18446744073709551615:=by decide +kernel
 have e2:limb PP 2=18446744073709551615:=by decide +kernel
 have e3:limb PP 3=9223372036854775807:=by decide +kernel
 unfold num
 rw [e0,e1,e2,e3]
theorem p_f (w:World):Calls Tryz.prog 65 [].toArray w (Ret (nu PP) w):=by
 refine fn_ret (N:=_) Tryz.func65 rfl Tryz.ntmps65 Tryz.results65 (by simp) ?_
 simp only [initS,Nat.reduceAdd,Nat.zero_add]
 repeat' (first|((with_reducible refine sel_build ?_);refine wv rfl rfl (rd_cast (rd_buildA rfl rfl) PP_val) ?_)|(refine wlE ?_)|(refine efZCnn ?_;intro n hn)|(refine efBnn ?_;intro n hn)|(refine efB ?_)|(refine wl_skip rfl rfl ?_)|((with_reducible refine wc_seq ?_);intro K hK)|(refine auC ?_)|(refine wc_cond rfl (fun hc=>?_) (fun hc=>?_))|(refine wc_draw (by kernel_rfl) (by kernel_rfl) (by decide +kernel) ?_;intro w0 hw0 hm0;(try simp only [List.append_eq,List.cons_append,List.nil_append]))|(refine auP ?_)|((refine auR ?_);clear hK K)|(refine auR ?_)|((with_reducible refine hK _ _ ?_);clear hK K)|fail)
 first|refine end_ret (ResP.cell rfl ld_whole ResP.nil) ?_|refine end_normal (ResP.cell rfl ld_whole ResP.nil) ?_
 first|rfl|(show _=_;rfl)|(simp only [tupV, *];done)
set_option maxHeartbeats 4000000 in
theorem low_f (a:Nat)(ha:a<T256)(w:World):Calls Tryz.prog 43 [nu a].toArray w (Ret (nu (a % PP)) w):=by
 have hT:=PP_T
 have hP:=PP_pos
 rw [←sinkP_two ha]
 refine fn_ret (N:=_) Tryz.func43 rfl Tryz.ntmps43 Tryz.results43 (by simp) ?_
 simp only [initS,Nat.reduceAdd,Nat.zero_add]
 repeat' (first|(refine wlB ?_)|(refine efZCnn ?_;intro n hn)|(refine efBnn ?_;intro n hn)|(refine efB ?_)|(refine wl_skip rfl rfl ?_)|(refine wdV ?_)|(refine wdB ?_)|(refine wdE ?_)|(refine wd_allocC hm0 rfl rfl rfl ?_;intro n hn hn0)|(refine wd_alloc hm0 rfl rfl rfl ?_;intro n hn hn0)|(refine wdT ?_)|(refine wd_skip rfl rfl ?_)|((with_reducible refine seld_nil ?_);refine wd_nil hm0 ?_;clear hm0 hw0)|((with_reducible refine wc_seq ?_);intro K hK)|(refine auC ?_)|(refine wc_cond rfl (fun hc=>?_) (fun hc=>?_))|(refine wc_draw (by kernel_rfl) (by kernel_rfl) (by decide +kernel) ?_;intro w0 hw0 hm0;(try simp only [List.append_eq,List.cons_append,List.nil_append]))|(refine auP ?_)|((refine auR ?_);clear hK K)|(refine auR ?_)|((with_reducible refine hK _ _ ?_);clear hK K)|fail)
 rename_i n1 g1
 obtain ⟨n2,rfl⟩:∃ n2,n2=n:=⟨n,rfl⟩
 refine wc_loop (σ:=Nat) (fun i=>[(1,ptr n1),(2,ptr n2),(5,.int .i64 (i:Int))]) (fun i=>[(n2,(numC 0,46)),(n1,(numC (sinkP a i),46))])
  (fun i=>i≤2) (fun i=>2 - i) 0 (Nat.zero_le _) (Fits.of ⟨rfl,rfl,rfl,trivial⟩ (by
   repeat (first|exact SubL.nil|exact SubL.refl _|refine SubL.keep ?_|exact SubL.headA _ _|refine SubL.keepA ?_ _|refine SubL.skip ?_|refine SubL.skipA ?_ _)) rfl) ?_
 intro i hi
 by_cases hlt:i<2
 ·have t1:decide ((i:Int)<2)=true:=decide_eq_true (by omega)
  have hi1:IntKind.i64.wrap ((i:Int)+1)=((i+1:Nat):Int):=wrap_i64 _ (by omega) (by omega)
  have hx:=sinkP_lt ha i
  have P:=p_f
  have Sc:=sub_nu (sinkP a i) PP hx (by omega)
  have e:sinkP a (i+1)=if PP≤sinkP a i then sinkP a i - PP else sinkP a i:=rfl
  by_cases h:PP≤sinkP a i
  ·rw [if_pos h] at e
   rw [if_neg (by omega),show (sinkP a i+T256 - PP) % T256=sinkP a i - PP by rw [show sinkP a i+T256 - PP=(sinkP a i - PP)+T256 by omega,Nat.add_mod_right,Nat.mod_eq_of_lt (by omega)],←e] at Sc
   clear e h hx hi ha hT hP
   repeat' (first|(refine wlB ?_)|(refine efZCnn ?_;intro n hn)|(refine efBnn ?_;intro n hn)|(refine efB ?_)|(refine wl_skip rfl rfl ?_)|(refine wdV ?_)|(refine wdB ?_)|((with_reducible refine seld_call ?_);refine wd_rd hm0 rfl rfl rfl rfl (rd_call rfl rfl rfl (fun w hm=>by with_reducible first|exact P w|exact Sc w)) ?_)|(refine wdE ?_)|(refine wd_allocC hm0 rfl rfl rfl ?_;intro n hn hn0)|(refine wd_alloc hm0 rfl rfl rfl ?_;intro n hn hn0)|(refine wdT ?_)|(refine wd_skip rfl rfl ?_)|((with_reducible refine seld_nil ?_);refine wd_nil hm0 ?_;clear hm0 hw0)|((with_reducible refine wc_seq ?_);intro K hK)|(refine auC ?_)|(refine wc_cond rfl (fun hc=>?_) (fun hc=>?_))|(refine wc_draw (by kernel_rfl) (by kernel_rfl) (by decide +kernel) ?_;intro w0 hw0 hm0;(try simp only [List.append_eq,List.cons_append,List.nil_append]))|(refine auP ?_)|((refine auR ?_);clear hK K)|(refine auR ?_)|((with_reducible refine hK _ _ ?_);clear hK K)|fail)
   exact ⟨i+1,hlt,by omega,Fits.of ⟨rfl,rfl,rfl,trivial⟩ (by
    repeat (first|exact SubL.nil|exact SubL.refl _|refine SubL.keep ?_|exact SubL.headA _ _|refine SubL.keepA ?_ _|refine SubL.skip ?_|refine SubL.skipA ?_ _)) rfl⟩
  ·rw [if_neg h] at e
   rw [if_pos (by omega)] at Sc
   generalize (sinkP a i+T256 - PP) % T256=z at Sc
   clear h hx hi ha hT hP
   repeat' (first|(refine wlB ?_)|(refine efZCnn ?_;intro n hn)|(refine efBnn ?_;intro n hn)|(refine efB ?_)|(refine wl_skip rfl rfl ?_)|(refine wdV ?_)|(refine wdB ?_)|((with_reducible refine seld_call ?_);refine wd_rd hm0 rfl rfl rfl rfl (rd_call rfl rfl rfl (fun w hm=>by with_reducible first|exact P w|exact Sc w)) ?_)|(refine wdE ?_)|(refine wd_allocC hm0 rfl rfl rfl ?_;intro n hn hn0)|(refine wd_alloc hm0 rfl rfl rfl ?_;intro n hn hn0)|(refine wdT ?_)|(refine wd_skip rfl rfl ?_)|((with_reducible refine seld_nil ?_);refine wd_nil hm0 ?_;clear hm0 hw0)|((with_reducible refine wc_seq ?_);intro K hK)|(refine auC ?_)|(refine wc_cond rfl (fun hc=>?_) (fun hc=>?_))|(refine wc_draw (by kernel_rfl) (by kernel_rfl) (by decide +kernel) ?_;intro w0 hw0 hm0;(try simp only [List.append_eq,List.cons_append,List.nil_append]))|(refine auP ?_)|((refine auR ?_);clear hK K)|(refine auR ?_)|((with_reducible refine hK _ _ ?_);clear hK K)|fail)
   exact ⟨i+1,hlt,by omega,Fits.of ⟨rfl,rfl,rfl,trivial⟩ (by
    rw [e]
    repeat (first|exact SubL.nil|exact SubL.refl _|refine SubL.keep ?_|exact SubL.headA _ _|refine SubL.keepA ?_ _|refine SubL.skip ?_|refine SubL.skipA ?_ _)) rfl⟩
 ·obtain rfl:i=2:=by omega
  have t1:decide (((2:Nat):Int)<2)=false:=rfl
  clear hi hlt ha hT hP
  repeat' (first|(refine wlB ?_)|(refine efBnn ?_;intro n hn)|(refine efB ?_)|(refine wl_skip rfl rfl ?_)|(refine wdV ?_)|(refine wdB ?_)|(refine wdE ?_)|(refine wd_alloc hm0 rfl rfl rfl ?_;intro n hn hn0)|(refine wdT ?_)|(refine wd_skip rfl rfl ?_)|((with_reducible refine seld_nil ?_);refine wd_nil hm0 ?_;clear hm0 hw0)|((with_reducible refine wc_seq ?_);intro K hK)|(refine auC ?_)|(refine wc_cond rfl (fun hc=>?_) (fun hc=>?_))|(refine wc_draw (by kernel_rfl) (by kernel_rfl) (by decide +kernel) ?_;intro w0 hw0 hm0;(try simp only [List.append_eq,List.cons_append,List.nil_append]))|(refine auP ?_)|((refine auR ?_);clear hK K)|(refine auR ?_)|((with_reducible refine hK _ _ ?_);clear hK K)|fail)
  first|refine end_ret (ResP.cell rfl ld_whole ResP.nil) ?_|refine end_normal (ResP.cell rfl ld_whole ResP.nil) ?_
  first|rfl|(show _=_;rfl)|(simp only [tupV, *];done)
set_option maxHeartbeats 4000000 in
theorem add_f (a b:Nat)(ha:a<T256)(hb:b<T256)(w:World):Calls Tryz.prog 41 [nu a,nu b].toArray w (Ret (nu ((a+b) % PP)) w):=by
 have hT:=PP_T
 have hP:=PP_pos
 have h1:a % PP<PP:=Nat.mod_lt _ (by omega)
 have h2:b % PP<PP:=Nat.mod_lt _ (by omega)
 have L1:=low_f a ha
 have L2:=low_f b hb
 have A:=add_nu (a % PP) (b % PP) (by omega) (by omega)
 rw [Nat.mod_eq_of_lt (show a % PP+b % PP<T256 by omega)] at A
 have L3:=low_f (a % PP+b % PP) (by omega)
 rw [←Nat.add_mod] at L3
 clear hT hP h1 h2 ha hb
 refine fn_ret (N:=_) Tryz.func41 rfl Tryz.ntmps41 Tryz.results41 (by simp) ?_
 simp only [initS,Nat.reduceAdd,Nat.zero_add]
 repeat' (first|(refine wlB ?_)|((with_reducible refine sel_call ?_);refine wl_rd rfl rfl (rd_call rfl rfl rfl (fun w hm=>by with_reducible first|exact L1 w|exact L2 w|exact A w|exact L3 w)) ?_)|(refine wlE ?_)|(refine efZCnn ?_;intro n hn)|(refine efBnn ?_;intro n hn)|(refine efB ?_)|(refine wl_skip rfl rfl ?_)|(refine wdV ?_)|(refine wdB ?_)|((with_reducible refine seld_call ?_);refine wd_rd hm0 rfl rfl rfl rfl (rd_call rfl rfl rfl (fun w hm=>by with_reducible first|exact L1 w|exact L2 w|exact A w|exact L3 w)) ?_)|(refine wdE ?_)|(refine wd_allocC hm0 rfl rfl rfl ?_;intro n hn hn0)|(refine wd_alloc hm0 rfl rfl rfl ?_;intro n hn hn0)|(refine wdT ?_)|(refine wd_skip rfl rfl ?_)|((with_reducible refine seld_nil ?_);refine wd_nil hm0 ?_;clear hm0 hw0)|((with_reducible refine wc_seq ?_);intro K hK)|(refine auC ?_)|(refine wc_cond rfl (fun hc=>?_) (fun hc=>?_))|(refine wc_draw (by kernel_rfl) (by kernel_rfl) (by decide +kernel) ?_;intro w0 hw0 hm0;(try simp only [List.append_eq,List.cons_append,List.nil_append]))|(refine auP ?_)|((refine auR ?_);clear hK K)|(refine auR ?_)|((with_reducible refine hK _ _ ?_);clear hK K)|fail)
 first|refine end_ret (ResP.cell rfl ld_whole ResP.nil) ?_|refine end_normal (ResP.cell rfl ld_whole ResP.nil) ?_
 first|rfl|(show _=_;rfl)|(simp only [tupV, *];done)
set_option maxHeartbeats 4000000 in
theorem sub_f (a b:Nat)(ha:a<T256)(hb:b<T256)(w:World):Calls Tryz.prog 39 [nu a,nu b].toArray w (Ret (nu ((a % PP+PP - b % PP) % PP)) w):=by
 have hT:=PP_T
 have hP:=PP_pos
 have h1:a % PP<PP:=Nat.mod_lt _ (by omega)
 have h2:b % PP<PP:=Nat.mod_lt _ (by omega)
 have L1:=low_f a ha
 have L2:=low_f b hb
 have P:=p_f
 have Sc:=sub_nu (a % PP) (b % PP) (by omega) (by omega)
 by_cases h:a % PP<b % PP
 ·rw [if_pos h,Nat.mod_eq_of_lt (show a % PP+T256 - b % PP<T256 by omega)] at Sc
  have A:=add_nu (a % PP+T256 - b % PP) PP (by omega) (by omega)
  rw [show (a % PP+T256 - b % PP+PP) % T256=a % PP+PP - b % PP by rw [show a % PP+T256 - b % PP+PP=(a % PP+PP - b % PP)+T256 by omega,Nat.add_mod_right,Nat.mod_eq_of_lt (by omega)]] at A
  rw [Nat.mod_eq_of_lt (show a % PP+PP - b % PP<PP by omega)]
  clear hT hP h1 h2 ha hb h
  refine fn_ret (N:=_) Tryz.func39 rfl Tryz.ntmps39 Tryz.results39 (by simp) ?_
  simp only [initS,Nat.reduceAdd,Nat.zero_add]
  repeat' (first|(refine wlB ?_)|(refine efZCnn ?_;intro n hn)|(refine efBnn ?_;intro n hn)|(refine efB ?_)|(refine wl_skip rfl rfl ?_)|(refine wdV ?_)|(refine wdB ?_)|((with_reducible refine seld_call ?_);refine wd_rd hm0 rfl rfl rfl rfl (rd_call rfl rfl rfl (fun w hm=>by with_reducible first|exact L1 w|exact L2 w|exact P w|exact Sc w|exact A w)) ?_)|(refine wdE ?_)|(refine wd_allocC hm0 rfl rfl rfl ?_;intro n hn hn0)|(refine wd_alloc hm0 rfl rfl rfl ?_;intro n hn hn0)|(refine wdT ?_)|(refine wd_skip rfl rfl ?_)|((with_reducible refine seld_nil ?_);refine wd_nil hm0 ?_;clear hm0 hw0)|((with_reducible refine wc_seq ?_);intro K hK)|(refine auC ?_)|(refine wc_cond rfl (fun hc=>?_) (fun hc=>?_))|(refine wc_draw (by kernel_rfl) (by kernel_rfl) (by decide +kernel) ?_;intro w0 hw0 hm0;(try simp only [List.append_eq,List.cons_append,List.nil_append]))|(refine auP ?_)|((refine auR ?_);clear hK K)|(refine auR ?_)|((with_reducible refine hK _ _ ?_);clear hK K)|fail)
  first|refine end_ret (ResP.cell rfl ld_whole ResP.nil) ?_|refine end_normal (ResP.cell rfl ld_whole ResP.nil) ?_
  first|rfl|(show _=_;rfl)|(simp only [tupV, *];done)
 ·have e:(a % PP+T256 - b % PP) % T256=(a % PP+PP - b % PP) % PP:=by
   rw [show a % PP+T256 - b % PP=(a % PP - b % PP)+T256 by omega,Nat.add_mod_right,Nat.mod_eq_of_lt (show a % PP - b % PP<T256 by omega),show a % PP+PP - b % PP=(a % PP - b % PP)+PP by omega,Nat.add_mod_right,Nat.mod_eq_of_lt (show a % PP - b % PP<PP by omega)]
  rw [if_neg h,e] at Sc
  clear hT hP h1 h2 ha hb h e
  refine fn_ret (N:=_) Tryz.func39 rfl Tryz.ntmps39 Tryz.results39 (by simp) ?_
  simp only [initS,Nat.reduceAdd,Nat.zero_add]
  repeat' (first|(refine wlB ?_)|(refine efZCnn ?_;intro n hn)|(refine efBnn ?_;intro n hn)|(refine efB ?_)|(refine wl_skip rfl rfl ?_)|(refine wdV ?_)|(refine wdB ?_)|((with_reducible refine seld_call ?_);refine wd_rd hm0 rfl rfl rfl rfl (rd_call rfl rfl rfl (fun w hm=>by with_reducible first|exact L1 w|exact L2 w|exact P w|exact Sc w)) ?_)|(refine wdE ?_)|(refine wd_allocC hm0 rfl rfl rfl ?_;intro n hn hn0)|(refine wd_alloc hm0 rfl rfl rfl ?_;intro n hn hn0)|(refine wdT ?_)|(refine wd_skip rfl rfl ?_)|((with_reducible refine seld_nil ?_);refine wd_nil hm0 ?_;clear hm0 hw0)|((with_reducible refine wc_seq ?_);intro K hK)|(refine auC ?_)|(refine wc_cond rfl (fun hc=>?_) (fun hc=>?_))|(refine wc_draw (by kernel_rfl) (by kernel_rfl) (by decide +kernel) ?_;intro w0 hw0 hm0;(try simp only [List.append_eq,List.cons_append,List.nil_append]))|(refine auP ?_)|((refine auR ?_);clear hK K)|(refine auR ?_)|((with_reducible refine hK _ _ ?_);clear hK K)|fail)
  first|refine end_ret (ResP.cell rfl ld_whole ResP.nil) ?_|refine end_normal (ResP.cell rfl ld_whole ResP.nil) ?_
  first|rfl|(show _=_;rfl)|(simp only [tupV, *];done)
end Go.Proofs.YtkendlnjaopbeaaGreatDoor
namespace Go.Proofs.YtkendlnjaopbeaaGreatDoor
open Go.RowKit
set_option linter.unusedVariables false
set_option linter.unusedSimpArgs false
set_option maxRecDepth 8000
theorem mul64_38 (A:Nat)(hA:A<18446744073709551616):∃ hi lo:Nat,A * 38=lo+18446744073709551616 * hi∧lo<18446744073709551616∧hi<38∧
  ∀ w,Calls Tryz.prog 59 #[.int .u64 A,.int .u64 38] w (Ret (.tuple #[.int .u64 hi,.int .u64 lo]) w):=
 ⟨A * 38 / 18446744073709551616,A * 38 % 18446744073709551616,by omega,by omega,by omega,fun w=>(mul64 A 38 hA (by omega) w).mono fun e w' ⟨h1,h2⟩=>by
  subst h2;exact ⟨h1,Below.refl _ _⟩⟩
theorem add64_nat (x y:Nat)(hx:x<18446744073709551616)(hy:y<18446744073709551616):∃ lo c:Nat,x+y=lo+18446744073709551616 * c∧lo<18446744073709551616∧c≤1∧
  ∀ w:World,(callFunc 60 #[.int .u64 (x:Int),.int .u64 (y:Int),.int .u64 0]).run Tryz.prog w=.ok (.value (.tuple #[.int .u64 (lo:Int),.int .u64 (c:Int)])) w:=
 ⟨(x+y) % 18446744073709551616,(x+y) / 18446744073709551616,by omega,by omega,by omega,fun w=>by
  have h:=run_add (x:Int) (y:Int) 0 ⟨by omega,by omega⟩ ⟨by omega,by omega⟩ (by omega) (by omega) w
  rw [h]
  unfold sumLo sumHi
  congr 5⟩
set_option maxHeartbeats 4000000 in
theorem mul_f (a b:Nat)(ha:a<T256)(hb:b<T256)(w:World):Calls Tryz.prog 37 [nu a,nu b].toArray w (Ret (nu (a * b % PP)) w):=by
 have Mc:=mul_nu a b ha hb
 have hW:a * b<T512:=Nat.mul_lt_mul'' ha hb
 obtain ⟨W,eW⟩:∃ W,W=a * b:=⟨_,rfl⟩
 rw [←eW] at Mc hW ⊢
 have z:=fm_zero W
 refine fn_ret (N:=_) Tryz.func37 rfl Tryz.ntmps37 Tryz.results37 (by simp) ?_
 simp only [initS,Nat.reduceAdd,Nat.zero_add]
 repeat' (first|(refine wlB ?_)|((with_reducible refine sel_call ?_);refine wl_rd rfl rfl (rd_call rfl rfl rfl (fun w hm=>by with_reducible exact Mc w)) ?_)|(refine wlE ?_)|(refine efZCnn ?_;intro n hn)|(refine efBnn ?_;intro n hn)|(refine efB ?_)|(refine wl_skip rfl rfl ?_)|((with_reducible refine wc_seq ?_);intro K hK)|(refine auC ?_)|(refine wc_cond rfl (fun hc=>?_) (fun hc=>?_))|(refine wc_draw (by kernel_rfl) (by kernel_rfl) (by decide +kernel) ?_;intro w0 hw0 hm0;(try simp only [List.append_eq,List.cons_append,List.nil_append]))|(refine auP ?_)|((refine auR ?_);clear hK K)|(refine auR ?_)|((with_reducible refine hK _ _ ?_);clear hK K)|fail)
 rename_i n2 g2 n3 g3 n4 g4 n5 g5
 obtain ⟨n6,rfl⟩:∃ n6,n6=n:=⟨n,rfl⟩
 refine wc_loop (σ:=Nat) (fun i=>[(2,ptr n2),(3,ptr n3),(4,ptr n4),(5,ptr n5),(6,ptr n6),(7,.int .u64 (fmC W i:Nat)),(16,.int .i64 (i:Int))])
  (fun i=>[(n6,numC (fmO W i),46),(n5,wideC W,130),(n4,numC 0,46),(n3,numC b,46),(n2,numC a,46)])
  (fun i=>i≤4) (fun i=>4 - i) 0 (Nat.zero_le _) (Fits.of (by rw [z.2];exact ⟨rfl,rfl,rfl,rfl,rfl,rfl,rfl,trivial⟩) (by
   rw [z.1]
   repeat (first|exact SubL.nil|exact SubL.refl _|refine SubL.keep ?_|exact SubL.headA _ _|refine SubL.keepA ?_ _|refine SubL.skip ?_|refine SubL.skipA ?_ _)) rfl) ?_
 clear z Mc
 intro i hi
 by_cases hlt:i<4
 ·have t1:decide ((i:Int)<4)=true:=decide_eq_true (by omega)
  have h4:IntKind.i64.wrap ((i:Int)+4)=((i+4:Nat):Int):=wrap_i64 _ (by omega) (by omega)
  have h1:IntKind.i64.wrap ((i:Int)+1)=((i+1:Nat):Int):=wrap_i64 _ (by omega) (by omega)
  have p4:0+((i+4:Nat):Int).toNat * 1=i+4:=by omega
  have p0:0+(i:Int).toNat * 1=i:=by omega
  have l4:=wideC_get W (i+4) (by omega)
  have l0:=wideC_get W i (by omega)
  rw [limb_lw] at l4 l0
  obtain ⟨A,hA⟩:∃ A,A=lw W (i+4):=⟨_,rfl⟩
  obtain ⟨B,hB⟩:∃ B,B=lw W i:=⟨_,rfl⟩
  have bA:A<18446744073709551616:=by rw [hA];exact lw_lt _ _
  have bB:B<18446744073709551616:=by rw [hB];exact lw_lt _ _
  rw [←hA] at l4
  rw [←hB] at l0
  have hC:=fmC_lt W i
  obtain ⟨hi',lo,q1,q2,q3,X1⟩:=mul64_38 A bA
  obtain ⟨lo1,c1,q4,q5,q6,X2⟩:=add64_nat lo B q2 bB
  obtain ⟨lo2,c2,q7,q8,q9,X3⟩:=add64_nat lo1 (fmC W i) q5 (by omega)
  have s1:IntKind.u64.wrap ((hi':Int)+(c1:Int))=((hi'+c1:Nat):Int):=by rw [wrap_u64 _ (by omega) (by omega)];omega
  have s2:IntKind.u64.wrap (((hi'+c1:Nat):Int)+(c2:Int))=((hi'+c1+c2:Nat):Int):=by rw [wrap_u64 _ (by omega) (by omega)];omega
  obtain ⟨e1,e2⟩:=fm_step (c:=hi'+c1+c2) hA hB (by omega) q8
  obtain ⟨f1,f2⟩:=limb_top (fmO W i) i lo2 (fmO_lt W i) q8
  rw [←e2] at f1 f2
  have hput:=numC_put (fmO W i) (fmO W (i+1)) i _ hlt f1 (fun k _ h=>f2 k h)
  clear q1 q2 q3 q4 q5 q6 q7 q8 q9 hC bA bB hA hB e2 f1 f2 ha hb hW eW hi
  repeat' (first|(refine wlB ?_)|((with_reducible refine sel_call ?_);refine wl_rd rfl rfl (rd_call rfl rfl rfl (fun w hm=>by with_reducible exact X1 w)) ?_)|((with_reducible refine sel_call ?_);refine wv rfl rfl (rd_ext rfl rfl rfl (by with_reducible exact X2)) ?_)|((with_reducible refine sel_call ?_);refine wv rfl rfl (rd_ext rfl rfl rfl (by with_reducible exact X3)) ?_)|(refine wlE ?_)|(refine efZCnn ?_;intro n hn)|(refine efBnn ?_;intro n hn)|(refine efB ?_)|(refine wl_skip rfl rfl ?_)|((with_reducible refine wc_seq ?_);intro K hK)|(refine auC ?_)|(refine wc_cond rfl (fun hc=>?_) (fun hc=>?_))|(refine wc_draw (by kernel_rfl) (by kernel_rfl) (by decide +kernel) ?_;intro w0 hw0 hm0;(try simp only [List.append_eq,List.cons_append,List.nil_append]))|(refine auP ?_)|((refine auR ?_);clear hK K)|(refine auR ?_)|((with_reducible refine hK _ _ ?_);clear hK K)|fail)
  exact ⟨i+1,hlt,by omega,Fits.of (by rw [e1];exact ⟨rfl,rfl,rfl,rfl,rfl,rfl,rfl,trivial⟩) (by
   repeat (first|exact SubL.nil|exact SubL.refl _|refine SubL.keep ?_|exact SubL.headA _ _|refine SubL.keepA ?_ _|refine SubL.skip ?_|refine SubL.skipA ?_ _)) rfl⟩
 ·obtain rfl:i=4:=by omega
  have t1:decide (((4:Nat):Int)<4)=false:=rfl
  obtain ⟨k1,k2⟩:=fm_end W hW
  have hT:=PP_T
  have hP:=PP_pos
  have hC:=fmC_lt W 4
  have hO:fmO W 4<T256:=by have:=fmO_lt W 4;rwa [show 2 ^ (64 * 4)=T256 from T256_eq.symm] at this
  generalize fmO W 4=O at *
  generalize fmC W 4=C at *
  have kf:=fm_fold hT k2
  rw [k1] at kf
  have m1:IntKind.u64.wrap ((C:Int) * 38)=((C * 38:Nat):Int):=by rw [wrap_u64 _ (by omega) (by omega)];omega
  have v1:=nu_lit (C * 38) (by omega)
  have hB:5000<T256:=by decide +kernel
  have A1:=add_nu O (C * 38) hO (by omega)
  by_cases ho:O+C * 38<T256
  ·rw [Nat.mod_eq_of_lt ho,Nat.div_eq_of_lt ho] at A1
   have L:=low_f (O+C * 38) ho
   rw [Nat.mul_comm C 38,kf,Nat.mul_comm 38 C] at L
   have t2:((((0:Nat)):Int) == 1)=false:=rfl
   clear k1 k2 kf hT hP hC hO ho hB ha hb hW eW hi hlt
   repeat' (first|(refine wlB ?_)|((with_reducible refine sel_build ?_);refine wv rfl rfl (rd_cast (rd_buildA rfl rfl) v1) ?_)|((with_reducible refine sel_call ?_);refine wl_rd rfl rfl (rd_call rfl rfl rfl (fun w hm=>by with_reducible first|exact A1 w|exact L w)) ?_)|(refine wlE ?_)|(refine efZCnn ?_;intro n hn)|(refine efBnn ?_;intro n hn)|(refine efB ?_)|(refine wl_skip rfl rfl ?_)|((with_reducible refine wc_seq ?_);intro K hK)|(refine auC ?_)|(refine wc_cond rfl (fun hc=>?_) (fun hc=>?_))|(refine wc_draw (by kernel_rfl) (by kernel_rfl) (by decide +kernel) ?_;intro w0 hw0 hm0;(try simp only [List.append_eq,List.cons_append,List.nil_append]))|(refine auP ?_)|((refine auR ?_);clear hK K)|(refine auR ?_)|((with_reducible refine hK _ _ ?_);clear hK K)|fail)
   first|refine end_ret (ResP.cell rfl ld_whole ResP.nil) ?_|refine end_normal (ResP.cell rfl ld_whole ResP.nil) ?_
   first|rfl|(show _=_;rfl)|(simp only [tupV, *];done)
  ·have e1:(O+C * 38) % T256=O+C * 38 - T256:=by rw [Nat.mod_eq_sub_mod (by omega),Nat.mod_eq_of_lt (by omega)]
   have e2:(O+C * 38) / T256=1:=by
    rw [Nat.div_eq_sub_div (by omega) (by omega),Nat.div_eq_of_lt (by omega)]
   rw [e1,e2] at A1
   have A2:=add_nu (O+C * 38 - T256) 38 (by omega) (by omega)
   rw [Nat.mod_eq_of_lt (show O+C * 38 - T256+38<T256 by omega)] at A2
   have L:=low_f (O+C * 38 - T256+38) (by omega)
   have e3:(O+C * 38 - T256+38) % PP=W % PP:=by
    rw [←kf,show O+38 * C=(O+C * 38 - T256+38)+PP * 2 by omega,Nat.add_mul_mod_self_left]
   rw [e3] at L
   have t2:((((1:Nat)):Int) == 1)=true:=rfl
   generalize O+C * 38 - T256+38=y at *
   generalize O+C * 38 - T256=x at *
   generalize (x+38) / T256=z at *
   clear k1 k2 kf hT hP hC hO ho hB ha hb hW eW hi hlt e1 e2 e3
   repeat' (first|(refine wlB ?_)|((with_reducible refine sel_build ?_);refine wv rfl rfl (rd_cast (rd_buildA rfl rfl) v1) ?_)|(refine wlNL ?_)|((with_reducible refine sel_call ?_);refine wl_rd rfl rfl (rd_call rfl rfl rfl (fun w hm=>by with_reducible first|exact A1 w|exact A2 w|exact L w)) ?_)|(refine wlE ?_)|(refine efZCnn ?_;intro n hn)|(refine efBnn ?_;intro n hn)|(refine efB ?_)|(refine wl_skip rfl rfl ?_)|((with_reducible refine wc_seq ?_);intro K hK)|(refine auC ?_)|(refine wc_cond rfl (fun hc=>?_) (fun hc=>?_))|(refine wc_draw (by kernel_rfl) (by kernel_rfl) (by decide +kernel) ?_;intro w0 hw0 hm0;(try simp only [List.append_eq,List.cons_append,List.nil_append]))|(refine auP ?_)|((refine auR ?_);clear hK K)|(refine auR ?_)|((with_reducible refine hK _ _ ?_);clear hK K)|fail)
   first|refine end_ret (ResP.cell rfl ld_whole ResP.nil) ?_|refine end_normal (ResP.cell rfl ld_whole ResP.nil) ?_
   first|rfl|(show _=_;rfl)|(simp only [tupV, *];done)
end Go.Proofs.YtkendlnjaopbeaaGreatDoor
namespace Go.Proofs.YtkendlnjaopbeaaGreatDoor
open Go.RowKit
set_option linter.unusedVariables false
theorem addG (a b:Nat)(ha:a<T256)(hb:b<T256)(w:World):Calls Tryz.prog 41 [nu a,nu b].toArray w (Ret (nu (fadd a b)) w):=by rw [fadd_def];exact add_f a b ha hb w
theorem subG (a b:Nat)(ha:a<T256)(hb:b<T256)(w:World):Calls Tryz.prog 39 [nu a,nu b].toArray w (Ret (nu (fsub a b)) w):=by rw [fsub_def];exact sub_f a b ha hb w
theorem mulG (a b:Nat)(ha:a<T256)(hb:b<T256)(w:World):Calls Tryz.prog 37 [nu a,nu b].toArray w (Ret (nu (fmul a b)) w):=by rw [fmul_def];exact mul_f a b ha hb w
theorem lowG (a:Nat)(ha:a<T256)(w:World):Calls Tryz.prog 43 [nu a].toArray w (Ret (nu (flow a)) w):=by rw [flow_def];exact low_f a ha w
end Go.Proofs.YtkendlnjaopbeaaGreatDoor
namespace Go.Proofs.YtkendlnjaopbeaaGreatDoor
open Go.RowKit
set_option maxRecDepth 100000
set_option linter.unusedVariables false
set_option linter.unusedSimpArgs false
set_option maxRecDepth 8000
set_option maxHeartbeats 4000000 in
theorem powG (a q:Nat)(ha:a<T256)(hq:q<T256)(w:World):Calls Tryz.prog 64 [nu a,nu q].toArray w (Ret (nu (fpow a q)) w):=by
 have hlen:=len_nu q hq
 have h256:blen q≤256:=blen_le.2 (by rw [←T256_eq];exact hq)
 have htop:=fpow_top a q
 obtain ⟨k0,hk0⟩:∃ k0,k0=blen q:=⟨_,rfl⟩
 rw [←hk0] at hlen h256 htop
 clear hk0
 have s0:IntKind.i64.wrap ((k0:Int) - 1)=(k0:Int) - 1:=wrap_i64 _ (by omega) (by omega)
 refine fn_ret (N:=_) Tryz.func64 rfl Tryz.ntmps64 Tryz.results64 (by simp) ?_
 simp only [initS,Nat.reduceAdd,Nat.zero_add]
 repeat' (first|(refine wlB ?_)|(refine wlNL ?_)|((with_reducible refine sel_call ?_);refine wl_rd rfl rfl (rd_call rfl rfl rfl (fun w hm=>by with_reducible exact hlen w)) ?_)|(refine wlE ?_)|(refine efZCnn ?_;intro n hn)|(refine efBnn ?_;intro n hn)|(refine efB ?_)|(refine wl_skip rfl rfl ?_)|((with_reducible refine wc_seq ?_);intro K hK)|(refine auC ?_)|(refine wc_cond rfl (fun hc=>?_) (fun hc=>?_))|(refine wc_draw (by kernel_rfl) (by kernel_rfl) (by decide +kernel) ?_;intro w0 hw0 hm0;(try simp only [List.append_eq,List.cons_append,List.nil_append]))|(refine auP ?_)|((refine auR ?_);clear hK K)|(refine auR ?_)|((with_reducible refine hK _ _ ?_);clear hK K)|fail)
 rename_i n2 g2 n3 g3 n4 g4
 obtain ⟨n5,rfl⟩:∃ n5,n5=n:=⟨_,rfl⟩
 refine wc_loop (σ:=Nat) (fun k=>[(2,ptr n2),(3,ptr n3),(4,ptr n4),(5,ptr n5),(6,.int .i64 ((k:Int) - 1))])
  (fun k=>[(n5,numC (fpow a (q / 2 ^ k)),46),(n4,numC 0,46),(n3,numC q,46),(n2,numC a,46)])
  (fun k=>k≤256) id k0 h256 (Fits.of ⟨rfl,rfl,rfl,rfl,rfl,trivial⟩ (by
   rw [htop]
   repeat (first|exact SubL.nil|exact SubL.refl _|refine SubL.keep ?_|exact SubL.headA _ _|refine SubL.keepA ?_ _|refine SubL.skip ?_|refine SubL.skipA ?_ _)) rfl) ?_
 clear hlen htop s0 h256
 intro k hk
 rcases k with _|j
 ·have ht:decide ((((0:Nat):Int) - 1)≥0)=false:=rfl
  rw [Nat.pow_zero,Nat.div_one]
  clear ha hq
  repeat' (first|(refine wlB ?_)|(refine wlE ?_)|(refine efBnn ?_;intro n hn)|(refine efB ?_)|(refine wl_skip rfl rfl ?_)|((with_reducible refine wc_seq ?_);intro K hK)|(refine auC ?_)|(refine wc_cond rfl (fun hc=>?_) (fun hc=>?_))|(refine wc_draw (by kernel_rfl) (by kernel_rfl) (by decide +kernel) ?_;intro w0 hw0 hm0;(try simp only [List.append_eq,List.cons_append,List.nil_append]))|(refine auP ?_)|((refine auR ?_);clear hK K)|(refine auR ?_)|((with_reducible refine hK _ _ ?_);clear hK K)|fail)
  first|refine end_ret (ResP.cell rfl ld_whole ResP.nil) ?_|refine end_normal (ResP.cell rfl ld_whole ResP.nil) ?_
  first|rfl|(show _=_;rfl)|(simp only [tupV, *];done)
 ·have ej:(((j+1:Nat):Int) - 1)=(j:Int):=by omega
  simp only [ej]
  have ht:decide ((j:Int)≥0)=true:=decide_eq_true (by omega)
  have s1:IntKind.i64.wrap ((j:Int) - 1)=(j:Int) - 1:=wrap_i64 _ (by omega) (by omega)
  have hb:=bit_nu q j hq (by omega)
  have hs:=fpow_bit a q j
  have hX:=fpow_lt a (q / 2 ^ (j+1))
  generalize fpow a (q / 2 ^ (j+1))=X at *
  obtain ⟨Y,hY⟩:∃ Y,Y=fpow a (q / 2 ^ j):=⟨_,rfl⟩
  obtain ⟨b,hb2⟩:∃ b,b=q / 2 ^ j % 2:=⟨_,rfl⟩
  rw [←hb2] at hb hs
  rw [←hY] at hs
  have M1:=mulG X X hX hX
  have M2:=mulG (fmul X X) a (fmul_lt _ _) ha
  by_cases h1:b=1
  ·subst h1
   rw [if_pos rfl] at hs
   have t1:((((1:Nat)):Int) == 1)=true:=rfl
   clear hb2 ha hq hX
   repeat' (first|(refine wlB ?_)|((with_reducible refine sel_call ?_);refine wl_rd rfl rfl (rd_call rfl rfl rfl (fun w hm=>by with_reducible first|exact hb w|exact M1 w|exact M2 w)) ?_)|(refine wlE ?_)|(refine efZCnn ?_;intro n hn)|(refine efBnn ?_;intro n hn)|(refine efB ?_)|(refine wl_skip rfl rfl ?_)|((with_reducible refine wc_seq ?_);intro K hK)|(refine auC ?_)|(refine wc_cond rfl (fun hc=>?_) (fun hc=>?_))|(refine wc_draw (by kernel_rfl) (by kernel_rfl) (by decide +kernel) ?_;intro w0 hw0 hm0;(try simp only [List.append_eq,List.cons_append,List.nil_append]))|(refine auP ?_)|((refine auR ?_);clear hK K)|(refine auR ?_)|((with_reducible refine hK _ _ ?_);clear hK K)|fail)
   exact ⟨j,by omega,Nat.lt_succ_self j,Fits.of ⟨rfl,rfl,rfl,rfl,rfl,trivial⟩ (by
    rw [←hY,hs]
    repeat (first|exact SubL.nil|exact SubL.refl _|refine SubL.keep ?_|exact SubL.headA _ _|refine SubL.keepA ?_ _|refine SubL.skip ?_|refine SubL.skipA ?_ _)) rfl⟩
  ·obtain rfl:b=0:=by omega
   rw [if_neg h1] at hs
   have t1:((((0:Nat)):Int) == 1)=false:=rfl
   clear hb2 ha hq hX h1 M2
   repeat' (first|(refine wlB ?_)|((with_reducible refine sel_call ?_);refine wl_rd rfl rfl (rd_call rfl rfl rfl (fun w hm=>by with_reducible first|exact hb w|exact M1 w)) ?_)|(refine wlE ?_)|(refine efZCnn ?_;intro n hn)|(refine efBnn ?_;intro n hn)|(refine efB ?_)|(refine wl_skip rfl rfl ?_)|((with_reducible refine wc_seq ?_);intro K hK)|(refine auC ?_)|(refine wc_cond rfl (fun hc=>?_) (fun hc=>?_))|(refine wc_draw (by kernel_rfl) (by kernel_rfl) (by decide +kernel) ?_;intro w0 hw0 hm0;(try simp only [List.append_eq,List.cons_append,List.nil_append]))|(refine auP ?_)|((refine auR ?_);clear hK K)|(refine auR ?_)|((with_reducible refine hK _ _ ?_);clear hK K)|fail)
   exact ⟨j,by omega,Nat.lt_succ_self j,Fits.of ⟨rfl,rfl,rfl,rfl,rfl,trivial⟩ (by
    rw [←hY,hs]
    repeat (first|exact SubL.nil|exact SubL.refl _|refine SubL.keep ?_|exact SubL.headA _ _|refine SubL.keepA ?_ _|refine SubL.skip ?_|refine SubL.skipA ?_ _)) rfl⟩
set_option maxHeartbeats 1000000 in
theorem invG (a:Nat)(ha:a<T256)(w:World):Calls Tryz.prog 40 [nu a].toArray w (Ret (nu (finv a)) w):=by
 have P:=p_f
 have hP:=PP_pos
 have Sc:=sub_nu PP 2 PP_lt (by decide)
 have e:(PP+T256 - 2) % T256=PP - 2:=by
  have:=PP_lt
  rw [show PP+T256 - 2=(PP - 2)+T256 by omega,Nat.add_mod_right,Nat.mod_eq_of_lt (by omega)]
 rw [e,if_neg (by omega)] at Sc
 have W:=powG a (PP - 2) ha (by have:=PP_lt;omega)
 rw [show fpow a (PP - 2)=finv a from rfl] at W
 generalize PP - 2=z at *
 clear hP e ha
 refine fn_ret (N:=_) Tryz.func40 rfl Tryz.ntmps40 Tryz.results40 (by simp) ?_
 simp only [initS,Nat.reduceAdd,Nat.zero_add]
 repeat' (first|(refine wlB ?_)|(refine wlNL ?_)|((with_reducible refine sel_call ?_);refine wl_rd rfl rfl (rd_call rfl rfl rfl (fun w hm=>by with_reducible first|exact P w|exact Sc w|exact W w)) ?_)|(refine wlE ?_)|(refine efZCnn ?_;intro n hn)|(refine efBnn ?_;intro n hn)|(refine efB ?_)|(refine wl_skip rfl rfl ?_)|((with_reducible refine wc_seq ?_);intro K hK)|(refine auC ?_)|(refine wc_cond rfl (fun hc=>?_) (fun hc=>?_))|(refine wc_draw (by kernel_rfl) (by kernel_rfl) (by decide +kernel) ?_;intro w0 hw0 hm0;(try simp only [List.append_eq,List.cons_append,List.nil_append]))|(refine auP ?_)|((refine auR ?_);clear hK K)|(refine auR ?_)|((with_reducible refine hK _ _ ?_);clear hK K)|fail)
 first|refine end_ret (ResP.cell rfl ld_whole ResP.nil) ?_|refine end_normal (ResP.cell rfl ld_whole ResP.nil) ?_
 first|rfl|(show _=_;rfl)|(simp only [tupV, *];done)
theorem sqrt_n1:∃ z y,(∀ w,Calls Tryz.prog 62 [nu 1,.int .i64 252].toArray w (Ret (nu z) w))∧(∀ w,Calls Tryz.prog 63 [nu z,nu 2].toArray w (Ret (.tuple #[nu E1,.int .u64 y]) w)):=by
 have e2:(1 * 2 ^ 252 % T256+T256 - 2) % T256=E1:=by decide +kernel
 have D:=sub_nu (1 * 2 ^ 252 % T256) 2 (Nat.mod_lt _ (by decide)) (by decide)
 rw [e2] at D
 exact ⟨_,_,fun w=>shl_nu 1 252 (by decide) (by decide) w,D⟩
theorem sqrt_n2:∃ z y,(∀ w,Calls Tryz.prog 62 [nu 1,.int .i64 253].toArray w (Ret (nu z) w))∧(∀ w,Calls Tryz.prog 63 [nu z,nu 5].toArray w (Ret (.tuple #[nu E2,.int .u64 y]) w)):=by
 have e2:(1 * 2 ^ 253 % T256+T256 - 5) % T256=E2:=by decide +kernel
 have D:=sub_nu (1 * 2 ^ 253 % T256) 5 (Nat.mod_lt _ (by decide)) (by decide)
 rw [e2] at D
 exact ⟨_,_,fun w=>shl_nu 1 253 (by decide) (by decide) w,D⟩
theorem odd_word (n:Nat):bits .and .u64 (limb n 0) 1=((n % 2:Nat):Int):=by
 have h:=bits_and_u64_nat (n % 18446744073709551616) 1 (Nat.mod_lt _ (by decide)) (by omega)
 rw [Nat.and_one_is_mod] at h
 rw [limb0]
 refine h.trans ?_
 congr 1
 omega
set_option maxHeartbeats 8000000 in
theorem sqrtG (a:Nat)(ha:a<T256)(w:World):Calls Tryz.prog 38 [nu a].toArray w (Ret (.tuple #[nu (froot a),.bool (isSq a)]) w):=by
 obtain ⟨z1,y1,S1,D1⟩:=sqrt_n1
 obtain ⟨z2,y2,S2,D2⟩:=sqrt_n2
 have L:=lowG a ha
 have W1:=powG a E1 ha (by decide)
 have W2:=powG 2 E2 (by decide) (by decide)
 rw [show fpow a E1=rootA a from rfl] at W1
 have hA:rootA a<T256:=fpow_lt _ _
 have hlow:=flow_lt a
 have M1:=mulG (rootA a) (rootA a) hA hA
 have M2:=mulG (rootA a) (fpow 2 E2) hA (fpow_lt _ _)
 have hB:=rootB_lt a
 have MB:=mulG (rootB a) (rootB a) hB hB
 have SB:=subG 0 (rootB a) (by decide) hB
 have hand:=odd_word (rootB a)
 have g0:=numC_get (rootB a) 0 (by decide)
 have ho2:rootB a % 2<2:=by omega
 have dq:isSq a=decide (fmul (rootB a) (rootB a)=flow a):=rfl
 have df:froot a=if isSq a=true then rootC a else 0:=rfl
 have dc:rootC a=if rootB a % 2=1 then fsub 0 (rootB a) else rootB a:=rfl
 have db:rootB a=if fmul (rootA a) (rootA a)=flow a then rootA a else fmul (rootA a) (fpow 2 E2):=rfl
 generalize rootA a=rA at *
 generalize fpow 2 E2=r2 at *
 by_cases h1:fmul rA rA=flow a
 ·rw [if_pos h1] at db
  have e1:(decide (fmul rA rA=flow a))=true:=decide_eq_true h1
  rw [db] at hB MB SB hand g0 ho2 dq dc
  rw [e1] at dq
  rw [dq,if_pos rfl,dc] at df
  rw [dq,df]
  clear dq df dc db h1 D2 S2 W2 M2 MB ha
  generalize rA % 2=o at *
  by_cases h2:o=1
  ·subst h2
   rw [if_pos rfl]
   have t1:((((1:Nat)):Int) == 1)=true:=rfl
   clear ho2
   refine fn_ret (N:=_) Tryz.func38 rfl Tryz.ntmps38 Tryz.results38 (by simp) ?_
   simp only [initS,Nat.reduceAdd,Nat.zero_add]
   repeat' (first|(refine wlB ?_)|(refine wlNL ?_)|((with_reducible refine sel_call ?_);refine wl_rd rfl rfl (rd_call rfl rfl rfl (fun w hm=>by with_reducible first|exact S1 w|exact D1 w|exact W1 w|exact M1 w|exact L w|exact SB w)) ?_)|(refine wlEQ ?_)|(refine wlE ?_)|(refine efZCnn ?_;intro n hn)|(refine efBnn ?_;intro n hn)|(refine efB ?_)|(refine wl_skip rfl rfl ?_)|(refine wdV ?_)|(refine wdB ?_)|(refine wdNL ?_)|((with_reducible refine seld_call ?_);refine wd_rd hm0 rfl rfl rfl rfl (rd_call rfl rfl rfl (fun w hm=>by with_reducible first|exact S1 w|exact D1 w|exact W1 w|exact M1 w|exact L w|exact SB w)) ?_)|(refine wdEQ ?_)|(refine wdE ?_)|(refine wdT ?_)|(refine wd_skip rfl rfl ?_)|((with_reducible refine seld_nil ?_);refine wd_nil hm0 ?_;clear hm0 hw0)|((with_reducible refine wc_seq ?_);intro K hK)|(refine auC ?_)|(refine wc_cond rfl (fun hc=>?_) (fun hc=>?_))|(refine wc_draw (by kernel_rfl) (by kernel_rfl) (by decide +kernel) ?_;intro w0 hw0 hm0;(try simp only [List.append_eq,List.cons_append,List.nil_append]))|(refine auP ?_)|((refine auR ?_);clear hK K)|(refine auR ?_)|((with_reducible refine hK _ _ ?_);clear hK K)|fail)
   first|refine end_ret (ResP.cell rfl ld_whole (ResP.tmp rfl ResP.nil)) ?_|refine end_normal (ResP.cell rfl ld_whole (ResP.tmp rfl ResP.nil)) ?_
   first|rfl|(show _=_;rfl)|(simp only [tupV, *];done)
  ·rw [if_neg h2]
   obtain rfl:o=0:=by omega
   have t1:((((0:Nat)):Int) == 1)=false:=rfl
   clear ho2 SB h2
   refine fn_ret (N:=_) Tryz.func38 rfl Tryz.ntmps38 Tryz.results38 (by simp) ?_
   simp only [initS,Nat.reduceAdd,Nat.zero_add]
   repeat' (first|(refine wlB ?_)|(refine wlNL ?_)|((with_reducible refine sel_call ?_);refine wl_rd rfl rfl (rd_call rfl rfl rfl (fun w hm=>by with_reducible first|exact S1 w|exact D1 w|exact W1 w|exact M1 w|exact L w)) ?_)|(refine wlEQ ?_)|(refine wlE ?_)|(refine efZCnn ?_;intro n hn)|(refine efBnn ?_;intro n hn)|(refine efB ?_)|(refine wl_skip rfl rfl ?_)|(refine wdV ?_)|(refine wdB ?_)|(refine wdNL ?_)|((with_reducible refine seld_call ?_);refine wd_rd hm0 rfl rfl rfl rfl (rd_call rfl rfl rfl (fun w hm=>by with_reducible first|exact S1 w|exact D1 w|exact W1 w|exact M1 w|exact L w)) ?_)|(refine wdEQ ?_)|(refine wdE ?_)|(refine wdT ?_)|(refine wd_skip rfl rfl ?_)|((with_reducible refine seld_nil ?_);refine wd_nil hm0 ?_;clear hm0 hw0)|((with_reducible refine wc_seq ?_);intro K hK)|(refine auC ?_)|(refine wc_cond rfl (fun hc=>?_) (fun hc=>?_))|(refine wc_draw (by kernel_rfl) (by kernel_rfl) (by decide +kernel) ?_;intro w0 hw0 hm0;(try simp only [List.append_eq,List.cons_append,List.nil_append]))|(refine auP ?_)|((refine auR ?_);clear hK K)|(refine auR ?_)|((with_reducible refine hK _ _ ?_);clear hK K)|fail)
   first|refine end_ret (ResP.cell rfl ld_whole (ResP.tmp rfl ResP.nil)) ?_|refine end_normal (ResP.cell rfl ld_whole (ResP.tmp rfl ResP.nil)) ?_
   first|rfl|(show _=_;rfl)|(simp only [tupV, *];done)
 ·rw [if_neg h1] at db
  have e1:(decide (fmul rA rA=flow a))=false:=decide_eq_false h1
  rw [←db] at M2
  clear db h1
  generalize rootB a=rB at *
  by_cases h3:fmul rB rB=flow a
  ·have e3:(decide (fmul rB rB=flow a))=true:=decide_eq_true h3
   rw [e3] at dq
   rw [dq,if_pos rfl,dc] at df
   rw [dq,df]
   clear dq df dc h3 ha
   generalize rB % 2=o at *
   by_cases h2:o=1
   ·subst h2
    rw [if_pos rfl]
    have t1:((((1:Nat)):Int) == 1)=true:=rfl
    clear ho2
    refine fn_ret (N:=_) Tryz.func38 rfl Tryz.ntmps38 Tryz.results38 (by simp) ?_
    simp only [initS,Nat.reduceAdd,Nat.zero_add]
    repeat' (first|(refine wlB ?_)|(refine wlNL ?_)|((with_reducible refine sel_call ?_);refine wl_rd rfl rfl (rd_call rfl rfl rfl (fun w hm=>by with_reducible first|exact S1 w|exact D1 w|exact W1 w|exact M1 w|exact L w|exact S2 w|exact D2 w|exact W2 w|exact M2 w|exact MB w|exact SB w)) ?_)|(refine wlEQ ?_)|(refine wlE ?_)|(refine efZCnn ?_;intro n hn)|(refine efBnn ?_;intro n hn)|(refine efB ?_)|(refine wl_skip rfl rfl ?_)|(refine wdV ?_)|(refine wdB ?_)|(refine wdNL ?_)|((with_reducible refine seld_call ?_);refine wd_rd hm0 rfl rfl rfl rfl (rd_call rfl rfl rfl (fun w hm=>by with_reducible first|exact S1 w|exact D1 w|exact W1 w|exact M1 w|exact L w|exact S2 w|exact D2 w|exact W2 w|exact M2 w|exact MB w|exact SB w)) ?_)|(refine wdEQ ?_)|(refine wdE ?_)|(refine wdT ?_)|(refine wd_skip rfl rfl ?_)|((with_reducible refine seld_nil ?_);refine wd_nil hm0 ?_;clear hm0 hw0)|((with_reducible refine wc_seq ?_);intro K hK)|(refine auC ?_)|(refine wc_cond rfl (fun hc=>?_) (fun hc=>?_))|(refine wc_draw (by kernel_rfl) (by kernel_rfl) (by decide +kernel) ?_;intro w0 hw0 hm0;(try simp only [List.append_eq,List.cons_append,List.nil_append]))|(refine auP ?_)|((refine auR ?_);clear hK K)|(refine auR ?_)|((with_reducible refine hK _ _ ?_);clear hK K)|fail)
    first|refine end_ret (ResP.cell rfl ld_whole (ResP.tmp rfl ResP.nil)) ?_|refine end_normal (ResP.cell rfl ld_whole (ResP.tmp rfl ResP.nil)) ?_
    first|rfl|(show _=_;rfl)|(simp only [tupV, *];done)
   ·rw [if_neg h2]
    obtain rfl:o=0:=by omega
    have t1:((((0:Nat)):Int) == 1)=false:=rfl
    clear ho2 SB h2
    refine fn_ret (N:=_) Tryz.func38 rfl Tryz.ntmps38 Tryz.results38 (by simp) ?_
    simp only [initS,Nat.reduceAdd,Nat.zero_add]
    repeat' (first|(refine wlB ?_)|(refine wlNL ?_)|((with_reducible refine sel_call ?_);refine wl_rd rfl rfl (rd_call rfl rfl rfl (fun w hm=>by with_reducible first|exact S1 w|exact D1 w|exact W1 w|exact M1 w|exact L w|exact S2 w|exact D2 w|exact W2 w|exact M2 w|exact MB w)) ?_)|(refine wlEQ ?_)|(refine wlE ?_)|(refine efZCnn ?_;intro n hn)|(refine efBnn ?_;intro n hn)|(refine efB ?_)|(refine wl_skip rfl rfl ?_)|(refine wdV ?_)|(refine wdB ?_)|(refine wdNL ?_)|((with_reducible refine seld_call ?_);refine wd_rd hm0 rfl rfl rfl rfl (rd_call rfl rfl rfl (fun w hm=>by with_reducible first|exact S1 w|exact D1 w|exact W1 w|exact M1 w|exact L w|exact S2 w|exact D2 w|exact W2 w|exact M2 w|exact MB w)) ?_)|(refine wdEQ ?_)|(refine wdE ?_)|(refine wdT ?_)|(refine wd_skip rfl rfl ?_)|((with_reducible refine seld_nil ?_);refine wd_nil hm0 ?_;clear hm0 hw0)|((with_reducible refine wc_seq ?_);intro K hK)|(refine auC ?_)|(refine wc_cond rfl (fun hc=>?_) (fun hc=>?_))|(refine wc_draw (by kernel_rfl) (by kernel_rfl) (by decide +kernel) ?_;intro w0 hw0 hm0;(try simp only [List.append_eq,List.cons_append,List.nil_append]))|(refine auP ?_)|((refine auR ?_);clear hK K)|(refine auR ?_)|((with_reducible refine hK _ _ ?_);clear hK K)|fail)
    first|refine end_ret (ResP.cell rfl ld_whole (ResP.tmp rfl ResP.nil)) ?_|refine end_normal (ResP.cell rfl ld_whole (ResP.tmp rfl ResP.nil)) ?_
    first|rfl|(show _=_;rfl)|(simp only [tupV, *];done)
  ·have e3:(decide (fmul rB rB=flow a))=false:=decide_eq_false h3
   rw [e3] at dq
   rw [dq,if_neg Bool.false_ne_true] at df
   rw [dq,df]
   clear dq df dc h3 ha ho2 hand g0 SB
   refine fn_ret (N:=_) Tryz.func38 rfl Tryz.ntmps38 Tryz.results38 (by simp) ?_
   simp only [initS,Nat.reduceAdd,Nat.zero_add]
   repeat' (first|(refine wlB ?_)|(refine wlNL ?_)|((with_reducible refine sel_call ?_);refine wl_rd rfl rfl (rd_call rfl rfl rfl (fun w hm=>by with_reducible first|exact S1 w|exact D1 w|exact W1 w|exact M1 w|exact L w|exact S2 w|exact D2 w|exact W2 w|exact M2 w|exact MB w)) ?_)|(refine wlEQ ?_)|(refine wlE ?_)|(refine efZCnn ?_;intro n hn)|(refine efBnn ?_;intro n hn)|(refine efB ?_)|(refine wl_skip rfl rfl ?_)|(refine wdV ?_)|(refine wdB ?_)|(refine wdNL ?_)|((with_reducible refine seld_call ?_);refine wd_rd hm0 rfl rfl rfl rfl (rd_call rfl rfl rfl (fun w hm=>by with_reducible first|exact S1 w|exact D1 w|exact W1 w|exact M1 w|exact L w|exact S2 w|exact D2 w|exact W2 w|exact M2 w|exact MB w)) ?_)|(refine wdEQ ?_)|(refine wdE ?_)|(refine wdT ?_)|(refine wd_skip rfl rfl ?_)|((with_reducible refine seld_nil ?_);refine wd_nil hm0 ?_;clear hm0 hw0)|((with_reducible refine wc_seq ?_);intro K hK)|(refine auC ?_)|(refine wc_cond rfl (fun hc=>?_) (fun hc=>?_))|(refine wc_draw (by kernel_rfl) (by kernel_rfl) (by decide +kernel) ?_;intro w0 hw0 hm0;(try simp only [List.append_eq,List.cons_append,List.nil_append]))|(refine auP ?_)|((refine auR ?_);clear hK K)|(refine auR ?_)|((with_reducible refine hK _ _ ?_);clear hK K)|fail)
   first|refine end_ret (ResP.cell rfl ld_whole (ResP.tmp rfl ResP.nil)) ?_|refine end_normal (ResP.cell rfl ld_whole (ResP.tmp rfl ResP.nil)) ?_
   first|rfl|(show _=_;rfl)|(simp only [tupV, *];done)
end Go.Proofs.YtkendlnjaopbeaaGreatDoor
namespace Go.Proofs.YtkendlnjaopbeaaGreatDoor
open Go.RowKit
set_option maxRecDepth 100000
set_option linter.unusedVariables false
set_option linter.unusedSimpArgs false
set_option maxRecDepth 8000
instance r2_point:R2 Tryz.prog 89:=⟨⟨by kernel_rfl⟩,⟨by kernel_rfl⟩⟩
instance r4_quad:R4 Tryz.prog 137:=⟨⟨by kernel_rfl⟩,⟨by kernel_rfl⟩⟩
instance zc_point:ZC Tryz.prog 89 (rowC [0,0]):=zc_r2 r2_point
instance zc_quad:ZC Tryz.prog 137 (rowC [0,0,0,0]):=zc_r4 r4_quad
abbrev pv (p:Pt):Value:=ro [p.x,p.y]
abbrev qv (q:Qd):Value:=ro [q.x,q.y,q.z,q.t]
theorem DD_val:Value.agg [.int .u64 8496970652267935907,.int .u64 31536524315187371,.int .u64 10144147576115030168,.int .u64 5909686906226998899].toArray=nu DD:=four_val 8496970652267935907 31536524315187371 10144147576115030168 5909686906226998899 DD (by decide +kernel) (by decide +kernel) (by decide +kernel) (by decide +kernel)
theorem BX_val:Value.agg [.int .u64 14507833142362363162,.int .u64 7578651490590762930,.int .u64 13881468655802702940,.int .u64 2407515759118799870].toArray=nu BX:=four_val 14507833142362363162 7578651490590762930 13881468655802702940 2407515759118799870 BX (by decide +kernel) (by decide +kernel) (by decide +kernel) (by decide +kernel)
theorem BY_val:Value.agg [.int .u64 7378697629483820632,.int .u64 7378697629483820646,.int .u64 7378697629483820646,.int .u64 7378697629483820646].toArray=nu BY:=four_val 7378697629483820632 7378697629483820646 7378697629483820646 7378697629483820646 BY (by decide +kernel) (by decide +kernel) (by decide +kernel) (by decide +kernel)
theorem d_c (w:World):Calls Tryz.prog 42 [].toArray w (Ret (nu DD) w):=by
 refine fn_ret (N:=_) Tryz.func42 rfl Tryz.ntmps42 Tryz.results42 (by simp) ?_
 simp only [initS,Nat.reduceAdd,Nat.zero_add]
 repeat' (first|((with_reducible refine sel_build ?_);refine wv rfl rfl (rd_cast (rd_buildA rfl rfl) DD_val) ?_)|(refine wlE ?_)|(refine efZCnn ?_;intro n hn)|(refine efBnn ?_;intro n hn)|(refine efB ?_)|(refine wl_skip rfl rfl ?_)|((with_reducible refine wc_seq ?_);intro K hK)|(refine auC ?_)|(refine wc_cond rfl (fun hc=>?_) (fun hc=>?_))|(refine wc_draw (by kernel_rfl) (by kernel_rfl) (by decide +kernel) ?_;intro w0 hw0 hm0;(try simp only [List.append_eq,List.cons_append,List.nil_append]))|(refine auP ?_)|((refine auR ?_);clear hK K)|(refine auR ?_)|((with_reducible refine hK _ _ ?_);clear hK K)|fail)
 first|refine end_ret (ResP.cell rfl ld_whole ResP.nil) ?_|refine end_normal (ResP.cell rfl ld_whole ResP.nil) ?_
 first|rfl|(show _=_;rfl)|(simp only [tupV, *];done)
theorem zero_c (w:World):Calls Tryz.prog 50 [].toArray w (Ret (pv Pt.zero) w):=by
 refine fn_ret (N:=_) Tryz.func50 rfl Tryz.ntmps50 Tryz.results50 (by simp) ?_
 simp only [initS,Nat.reduceAdd,Nat.zero_add]
 repeat' (first|(refine wlR ?_)|(refine wlNL ?_)|(refine wlE ?_)|(refine efR ?_)|(refine efZCnn ?_;intro n hn)|(refine efBnn ?_;intro n hn)|(refine efB ?_)|(refine wl_skip rfl rfl ?_)|((with_reducible refine wc_seq ?_);intro K hK)|(refine auC ?_)|(refine wc_cond rfl (fun hc=>?_) (fun hc=>?_))|(refine wc_draw (by kernel_rfl) (by kernel_rfl) (by decide +kernel) ?_;intro w0 hw0 hm0;(try simp only [List.append_eq,List.cons_append,List.nil_append]))|(refine auP ?_)|((refine auR ?_);clear hK K)|(refine auR ?_)|((with_reducible refine hK _ _ ?_);clear hK K)|fail)
 first|refine end_ret (ResP.cell rfl ld_whole ResP.nil) ?_|refine end_normal (ResP.cell rfl ld_whole ResP.nil) ?_
 first|rfl|(show _=_;rfl)|(simp only [tupV, *];done)
theorem base_c (w:World):Calls Tryz.prog 32 [].toArray w (Ret (pv Pt.base) w):=by
 refine fn_ret (N:=_) Tryz.func32 rfl Tryz.ntmps32 Tryz.results32 (by simp) ?_
 simp only [initS,Nat.reduceAdd,Nat.zero_add]
 repeat' (first|(refine wlR ?_)|((with_reducible refine sel_build ?_);refine wv rfl rfl (rd_cast (rd_buildA rfl rfl) BX_val) ?_)|((with_reducible refine sel_build ?_);refine wv rfl rfl (rd_cast (rd_buildA rfl rfl) BY_val) ?_)|(refine wlE ?_)|(refine efR ?_)|(refine efZCnn ?_;intro n hn)|(refine efBnn ?_;intro n hn)|(refine efB ?_)|(refine wl_skip rfl rfl ?_)|((with_reducible refine wc_seq ?_);intro K hK)|(refine auC ?_)|(refine wc_cond rfl (fun hc=>?_) (fun hc=>?_))|(refine wc_draw (by kernel_rfl) (by kernel_rfl) (by decide +kernel) ?_;intro w0 hw0 hm0;(try simp only [List.append_eq,List.cons_append,List.nil_append]))|(refine auP ?_)|((refine auR ?_);clear hK K)|(refine auR ?_)|((with_reducible refine hK _ _ ?_);clear hK K)|fail)
 first|refine end_ret (ResP.cell rfl ld_whole ResP.nil) ?_|refine end_normal (ResP.cell rfl ld_whole ResP.nil) ?_
 first|rfl|(show _=_;rfl)|(simp only [tupV, *];done)
set_option maxHeartbeats 2000000 in
theorem quadOf_c (p:Pt)(hp:p.lt)(w:World):Calls Tryz.prog 49 [pv p].toArray w (Ret (qv p.quad) w):=by
 obtain ⟨h1,h2⟩:=hp
 refine fn_ret (N:=_) Tryz.func49 rfl Tryz.ntmps49 Tryz.results49 (by simp) ?_
 simp only [initS,Nat.reduceAdd,Nat.zero_add]
 repeat' (first|(refine efZCnn ?_;intro n hn)|(refine efBnn ?_;intro n hn)|(refine wl_skip rfl rfl ?_)|(refine wdR ?_)|(refine wdV ?_)|(refine wdB ?_)|(refine wdNL ?_)|((with_reducible refine seld_call ?_);refine wd_rd hm0 rfl rfl rfl rfl (rd_call rfl rfl rfl (fun w _=>by with_reducible exact mulG _ _ (by first|(with_reducible assumption)|(with_reducible exact SmT.out)|decide) (by first|(with_reducible assumption)|(with_reducible exact SmT.out)|decide) w)) ?_)|(refine wdE ?_)|(refine wdT ?_)|(refine wd_skip rfl rfl ?_)|((with_reducible refine seld_nil ?_);refine wd_nil hm0 ?_;clear hm0 hw0)|((with_reducible refine wc_seq ?_);intro K hK)|(refine auC ?_)|(refine wc_cond rfl (fun hc=>?_) (fun hc=>?_))|(refine wc_draw (by kernel_rfl) (by kernel_rfl) (by decide +kernel) ?_;intro w0 hw0 hm0;(try simp only [List.append_eq,List.cons_append,List.nil_append]))|(refine auP ?_)|((refine auR ?_);clear hK K)|(refine auR ?_)|((with_reducible refine hK _ _ ?_);clear hK K)|fail)
 first|refine end_ret (ResP.cell rfl ld_whole ResP.nil) ?_|refine end_normal (ResP.cell rfl ld_whole ResP.nil) ?_
 first|rfl|(show _=_;rfl)|(simp only [tupV, *];done)
set_option maxHeartbeats 2000000 in
theorem point_c (q:Qd)(hq:q.lt)(w:World):Calls Tryz.prog 54 [qv q].toArray w (Ret (pv q.point) w):=by
 obtain ⟨h1,h2,h3,h4⟩:=hq
 refine fn_ret (N:=_) Tryz.func54 rfl Tryz.ntmps54 Tryz.results54 (by simp) ?_
 simp only [initS,Nat.reduceAdd,Nat.zero_add]
 repeat' (first|(refine wlR ?_)|(refine wlB ?_)|((with_reducible refine sel_call ?_);first|refine wl_rd rfl rfl (rd_call rfl rfl rfl (fun w _=>by with_reducible exact mulG _ _ (by first|(with_reducible assumption)|(with_reducible exact SmT.out)|decide) (by first|(with_reducible assumption)|(with_reducible exact SmT.out)|decide) w)) ?_|refine wl_rd rfl rfl (rd_call rfl rfl rfl (fun w _=>by with_reducible exact invG _ (by first|(with_reducible assumption)|(with_reducible exact SmT.out)|decide) w)) ?_)|(refine wlE ?_)|(refine efR ?_)|(refine efZCnn ?_;intro n hn)|(refine efBnn ?_;intro n hn)|(refine efB ?_)|(refine wl_skip rfl rfl ?_)|(refine wdR ?_)|(refine wdV ?_)|(refine wdB ?_)|(refine wdNL ?_)|((with_reducible refine seld_call ?_);refine wd_rd hm0 rfl rfl rfl rfl (rd_call rfl rfl rfl (fun w _=>by with_reducible exact mulG _ _ (by first|(with_reducible assumption)|(with_reducible exact SmT.out)|decide) (by first|(with_reducible assumption)|(with_reducible exact SmT.out)|decide) w)) ?_)|((with_reducible refine seld_call ?_);refine wd_rd hm0 rfl rfl rfl rfl (rd_call rfl rfl rfl (fun w _=>by with_reducible exact invG _ (by first|(with_reducible assumption)|(with_reducible exact SmT.out)|decide) w)) ?_)|(refine wdE ?_)|(refine wdT ?_)|(refine wd_skip rfl rfl ?_)|((with_reducible refine seld_nil ?_);refine wd_nil hm0 ?_;clear hm0 hw0)|((with_reducible refine wc_seq ?_);intro K hK)|(refine auC ?_)|(refine wc_cond rfl (fun hc=>?_) (fun hc=>?_))|(refine wc_draw (by kernel_rfl) (by kernel_rfl) (by decide +kernel) ?_;intro w0 hw0 hm0;(try simp only [List.append_eq,List.cons_append,List.nil_append]))|(refine auP ?_)|((refine auR ?_);clear hK K)|(refine auR ?_)|((with_reducible refine hK _ _ ?_);clear hK K)|fail)
 first|refine end_ret (ResP.cell rfl ld_whole ResP.nil) ?_|refine end_normal (ResP.cell rfl ld_whole ResP.nil) ?_
 first|rfl|(show _=_;rfl)|(simp only [tupV, *];done)
set_option maxHeartbeats 8000000 in
theorem plus_c (q r:Qd)(hq:q.lt)(hr:r.lt)(w:World):Calls Tryz.prog 52 [qv q,qv r].toArray w (Ret (qv (q.plus r)) w):=by
 obtain ⟨h1,h2,h3,h4⟩:=hq
 obtain ⟨k1,k2,k3,k4⟩:=hr
 have hD:=DD_lt
 have D:=d_c
 refine fn_ret (N:=_) Tryz.func52 rfl Tryz.ntmps52 Tryz.results52 (by simp) ?_
 simp only [initS,Nat.reduceAdd,Nat.zero_add]
 repeat' (first|(refine wlR ?_)|(refine wlB ?_)|((with_reducible refine sel_call ?_);first|refine wl_rd rfl rfl (rd_call rfl rfl rfl (fun w _=>by with_reducible exact mulG _ _ (by first|(with_reducible assumption)|(with_reducible exact SmT.out)|decide) (by first|(with_reducible assumption)|(with_reducible exact SmT.out)|decide) w)) ?_|refine wl_rd rfl rfl (rd_call rfl rfl rfl (fun w _=>by with_reducible exact addG _ _ (by first|(with_reducible assumption)|(with_reducible exact SmT.out)|decide) (by first|(with_reducible assumption)|(with_reducible exact SmT.out)|decide) w)) ?_|refine wl_rd rfl rfl (rd_call rfl rfl rfl (fun w _=>by with_reducible exact subG _ _ (by first|(with_reducible assumption)|(with_reducible exact SmT.out)|decide) (by first|(with_reducible assumption)|(with_reducible exact SmT.out)|decide) w)) ?_|refine wl_rd rfl rfl (rd_call rfl rfl rfl (fun w hm=>by with_reducible exact D w)) ?_)|(refine wlE ?_)|(refine efR ?_)|(refine efZCnn ?_;intro n hn)|(refine efBnn ?_;intro n hn)|(refine efB ?_)|(refine wl_skip rfl rfl ?_)|(refine wdR ?_)|(refine wdV ?_)|(refine wdB ?_)|(refine wdNL ?_)|((with_reducible refine seld_call ?_);refine wd_rd hm0 rfl rfl rfl rfl (rd_call rfl rfl rfl (fun w _=>by with_reducible exact mulG _ _ (by first|(with_reducible assumption)|(with_reducible exact SmT.out)|decide) (by first|(with_reducible assumption)|(with_reducible exact SmT.out)|decide) w)) ?_)|((with_reducible refine seld_call ?_);refine wd_rd hm0 rfl rfl rfl rfl (rd_call rfl rfl rfl (fun w _=>by with_reducible exact addG _ _ (by first|(with_reducible assumption)|(with_reducible exact SmT.out)|decide) (by first|(with_reducible assumption)|(with_reducible exact SmT.out)|decide) w)) ?_)|((with_reducible refine seld_call ?_);refine wd_rd hm0 rfl rfl rfl rfl (rd_call rfl rfl rfl (fun w _=>by with_reducible exact subG _ _ (by first|(with_reducible assumption)|(with_reducible exact SmT.out)|decide) (by first|(with_reducible assumption)|(with_reducible exact SmT.out)|decide) w)) ?_)|((with_reducible refine seld_call ?_);refine wd_rd hm0 rfl rfl rfl rfl (rd_call rfl rfl rfl (fun w hm=>by with_reducible exact D w)) ?_)|(refine wdE ?_)|(refine wd_allocC hm0 rfl rfl rfl ?_;intro n hn hn0)|(refine wd_alloc hm0 rfl rfl rfl ?_;intro n hn hn0)|(refine wdT ?_)|(refine wd_skip rfl rfl ?_)|((with_reducible refine seld_nil ?_);refine wd_nil hm0 ?_;clear hm0 hw0)|((with_reducible refine wc_seq ?_);intro K hK)|(refine auC ?_)|(refine wc_cond rfl (fun hc=>?_) (fun hc=>?_))|(refine wc_draw (by kernel_rfl) (by kernel_rfl) (by decide +kernel) ?_;intro w0 hw0 hm0;(try simp only [List.append_eq,List.cons_append,List.nil_append]))|(refine auP ?_)|((refine auR ?_);clear hK K)|(refine auR ?_)|((with_reducible refine hK _ _ ?_);clear hK K)|fail)
 first|refine end_ret (ResP.cell rfl ld_whole ResP.nil) ?_|refine end_normal (ResP.cell rfl ld_whole ResP.nil) ?_
 first|rfl|(show _=_;rfl)|(simp only [tupV, *];done)
end Go.Proofs.YtkendlnjaopbeaaGreatDoor
namespace Go.Proofs.YtkendlnjaopbeaaGreatDoor
open Go.RowKit
set_option linter.unusedVariables false
set_option linter.unusedSimpArgs false
set_option maxRecDepth 8000
set_option maxHeartbeats 4000000 in
theorem on_c (p:Pt)(hp:p.lt)(w:World):Calls Tryz.prog 48 [pv p].toArray w (Ret (.bool (decide p.on)) w):=by
 obtain ⟨h1,h2⟩:=hp
 have hD:=DD_lt
 have D:=d_c
 by_cases k1:p.x=flow p.x
 ·have e1:=decide_eq_true k1
  by_cases k2:p.y=flow p.y
  ·have e2:=decide_eq_true k2
   have e3:decide p.on=decide p.eqn:=by rw [decide_eq_decide];exact ⟨fun h=>h.2.2,fun h=>⟨k1,k2,h⟩⟩
   have e4:decide (fsub (fmul p.y p.y) (fmul p.x p.x)=fadd 1 (fmul DD (fmul (fmul p.x p.x) (fmul p.y p.y))))=decide p.eqn:=by rw [decide_eq_decide];exact Iff.rfl
   rw [e3]
   clear k1 k2 e3
   generalize decide p.eqn=b at *
   refine fn_ret (N:=_) Tryz.func48 rfl Tryz.ntmps48 Tryz.results48 (by simp) ?_
   simp only [initS,Nat.reduceAdd,Nat.zero_add]
   repeat' (first|(refine wlB ?_)|(refine efBnn ?_;intro n hn)|(refine wl_skip rfl rfl ?_)|(refine wdR ?_)|(refine wdV ?_)|(refine wdB ?_)|(refine wdNL ?_)|((with_reducible refine seld_call ?_);refine wd_rd hm0 rfl rfl rfl rfl (rd_call rfl rfl rfl (fun w _=>by with_reducible exact mulG _ _ (by first|(with_reducible assumption)|(with_reducible exact SmT.out)|decide) (by first|(with_reducible assumption)|(with_reducible exact SmT.out)|decide) w)) ?_)|((with_reducible refine seld_call ?_);refine wd_rd hm0 rfl rfl rfl rfl (rd_call rfl rfl rfl (fun w _=>by with_reducible exact addG _ _ (by first|(with_reducible assumption)|(with_reducible exact SmT.out)|decide) (by first|(with_reducible assumption)|(with_reducible exact SmT.out)|decide) w)) ?_)|((with_reducible refine seld_call ?_);refine wd_rd hm0 rfl rfl rfl rfl (rd_call rfl rfl rfl (fun w _=>by with_reducible exact subG _ _ (by first|(with_reducible assumption)|(with_reducible exact SmT.out)|decide) (by first|(with_reducible assumption)|(with_reducible exact SmT.out)|decide) w)) ?_)|((with_reducible refine seld_call ?_);refine wd_rd hm0 rfl rfl rfl rfl (rd_call rfl rfl rfl (fun w _=>by with_reducible exact lowG _ (by first|(with_reducible assumption)|(with_reducible exact SmT.out)|decide) w)) ?_)|((with_reducible refine seld_call ?_);refine wd_rd hm0 rfl rfl rfl rfl (rd_call rfl rfl rfl (fun w hm=>by with_reducible exact D w)) ?_)|(refine wdEQ ?_)|(refine wdE ?_)|(refine wd_allocC hm0 rfl rfl rfl ?_;intro n hn hn0)|(refine wd_alloc hm0 rfl rfl rfl ?_;intro n hn hn0)|(refine wdT ?_)|(refine wd_skip rfl rfl ?_)|((with_reducible refine seld_nil ?_);refine wd_nil hm0 ?_;clear hm0 hw0)|((with_reducible refine wc_seq ?_);intro K hK)|(refine auC ?_)|(refine wc_cond rfl (fun hc=>?_) (fun hc=>?_))|(refine wc_draw (by kernel_rfl) (by kernel_rfl) (by decide +kernel) ?_;intro w0 hw0 hm0;(try simp only [List.append_eq,List.cons_append,List.nil_append]))|(refine auP ?_)|((refine auR ?_);clear hK K)|(refine auR ?_)|((with_reducible refine hK _ _ ?_);clear hK K)|fail)
   first|refine end_ret (ResP.tmp rfl ResP.nil) ?_|refine end_normal (ResP.tmp rfl ResP.nil) ?_
   first|rfl|(show _=_;rfl)|(simp only [tupV, *];done)
  ·have e2:=decide_eq_false k2
   rw [decide_eq_false (fun h:p.on=>k2 h.2.1)]
   clear k1 k2
   refine fn_ret (N:=_) Tryz.func48 rfl Tryz.ntmps48 Tryz.results48 (by simp) ?_
   simp only [initS,Nat.reduceAdd,Nat.zero_add]
   repeat' (first|(refine wlB ?_)|(refine efBnn ?_;intro n hn)|(refine wl_skip rfl rfl ?_)|(refine wdR ?_)|(refine wdV ?_)|(refine wdB ?_)|(refine wdNL ?_)|((with_reducible refine seld_call ?_);refine wd_rd hm0 rfl rfl rfl rfl (rd_call rfl rfl rfl (fun w _=>by with_reducible exact lowG _ (by first|(with_reducible assumption)|(with_reducible exact SmT.out)|decide) w)) ?_)|(refine wdEQ ?_)|(refine wdE ?_)|(refine wd_allocC hm0 rfl rfl rfl ?_;intro n hn hn0)|(refine wd_alloc hm0 rfl rfl rfl ?_;intro n hn hn0)|(refine wdT ?_)|(refine wd_skip rfl rfl ?_)|((with_reducible refine seld_nil ?_);refine wd_nil hm0 ?_;clear hm0 hw0)|((with_reducible refine wc_seq ?_);intro K hK)|(refine auC ?_)|(refine wc_cond rfl (fun hc=>?_) (fun hc=>?_))|(refine wc_draw (by kernel_rfl) (by kernel_rfl) (by decide +kernel) ?_;intro w0 hw0 hm0;(try simp only [List.append_eq,List.cons_append,List.nil_append]))|(refine auP ?_)|((refine auR ?_);clear hK K)|(refine auR ?_)|((with_reducible refine hK _ _ ?_);clear hK K)|fail)
   first|refine end_ret (ResP.tmp rfl ResP.nil) ?_|refine end_normal (ResP.tmp rfl ResP.nil) ?_
   first|rfl|(show _=_;rfl)|(simp only [tupV, *];done)
 ·have e1:=decide_eq_false k1
  rw [decide_eq_false (fun h:p.on=>k1 h.1)]
  clear k1
  refine fn_ret (N:=_) Tryz.func48 rfl Tryz.ntmps48 Tryz.results48 (by simp) ?_
  simp only [initS,Nat.reduceAdd,Nat.zero_add]
  repeat' (first|(refine wlB ?_)|(refine efBnn ?_;intro n hn)|(refine wl_skip rfl rfl ?_)|(refine wdR ?_)|(refine wdV ?_)|(refine wdB ?_)|(refine wdNL ?_)|((with_reducible refine seld_call ?_);refine wd_rd hm0 rfl rfl rfl rfl (rd_call rfl rfl rfl (fun w _=>by with_reducible exact lowG _ (by first|(with_reducible assumption)|(with_reducible exact SmT.out)|decide) w)) ?_)|(refine wdEQ ?_)|(refine wdE ?_)|(refine wd_allocC hm0 rfl rfl rfl ?_;intro n hn hn0)|(refine wd_alloc hm0 rfl rfl rfl ?_;intro n hn hn0)|(refine wdT ?_)|(refine wd_skip rfl rfl ?_)|((with_reducible refine seld_nil ?_);refine wd_nil hm0 ?_;clear hm0 hw0)|((with_reducible refine wc_seq ?_);intro K hK)|(refine auC ?_)|(refine wc_cond rfl (fun hc=>?_) (fun hc=>?_))|(refine wc_draw (by kernel_rfl) (by kernel_rfl) (by decide +kernel) ?_;intro w0 hw0 hm0;(try simp only [List.append_eq,List.cons_append,List.nil_append]))|(refine auP ?_)|((refine auR ?_);clear hK K)|(refine auR ?_)|((with_reducible refine hK _ _ ?_);clear hK K)|fail)
  first|refine end_ret (ResP.tmp rfl ResP.nil) ?_|refine end_normal (ResP.tmp rfl ResP.nil) ?_
  first|rfl|(show _=_;rfl)|(simp only [tupV, *];done)
theorem on_yes {p:Pt}(hp:p.lt)(h:p.on)(w:World):Calls Tryz.prog 48 [pv p].toArray w (Ret (.bool true) w):=by
 have:=on_c p hp w
 rwa [decide_eq_true h] at this
set_option maxHeartbeats 2000000 in
theorem add_yes {p q:Pt}(hp:p.lt)(h:p.on)(hq:q.lt)(k:q.on)(w:World):Calls Tryz.prog 106 [pv p,pv q].toArray w (Ret (.tuple #[pv (p.add q),.int .i64 0]) w):=by
 have OP:=on_yes hp h
 have OQ:=on_yes hq k
 have Q:=quadOf_c p hp
 have Q2:=quadOf_c q hq
 have A:=plus_c p.quad q.quad (Pt.quad_lt hp) (Pt.quad_lt hq)
 have B:=point_c (p.quad.plus q.quad) (Qd.plus_lt _ _)
 rw [show (p.quad.plus q.quad).point=p.add q from rfl] at B
 clear h hp k hq
 generalize p.quad.plus q.quad=s at *
 generalize p.quad=a at *
 generalize q.quad=b at *
 generalize p.add q=c at *
 refine fn_ret (N:=_) Tryz.func106 rfl Tryz.ntmps106 Tryz.results106 (by simp) ?_
 simp only [initS,Nat.reduceAdd,Nat.zero_add]
 repeat' (first|(refine wlR ?_)|(refine wlB ?_)|(refine wlNL ?_)|((with_reducible refine sel_call ?_);refine wl_rd rfl rfl (rd_call rfl rfl rfl (fun w hm=>by with_reducible first|exact OP w|exact OQ w|exact Q w|exact Q2 w|exact A w|exact B w)) ?_)|(refine wlE ?_)|(refine efR ?_)|(refine efZCnn ?_;intro n hn)|(refine efBnn ?_;intro n hn)|(refine efB ?_)|(refine wl_skip rfl rfl ?_)|(refine wdR ?_)|(refine wdV ?_)|(refine wdB ?_)|((with_reducible refine seld_call ?_);refine wd_rd hm0 rfl rfl rfl rfl (rd_call rfl rfl rfl (fun w hm=>by with_reducible first|exact OP w|exact OQ w|exact Q w|exact Q2 w|exact A w|exact B w)) ?_)|(refine wdE ?_)|(refine wdT ?_)|(refine wd_skip rfl rfl ?_)|((with_reducible refine seld_nil ?_);refine wd_nil hm0 ?_;clear hm0 hw0)|((with_reducible refine wc_seq ?_);intro K hK)|(refine auC ?_)|(refine wc_cond rfl (fun hc=>?_) (fun hc=>?_))|(refine wc_draw (by kernel_rfl) (by kernel_rfl) (by decide +kernel) ?_;intro w0 hw0 hm0;(try simp only [List.append_eq,List.cons_append,List.nil_append]))|(refine auP ?_)|((refine auR ?_);clear hK K)|(refine auR ?_)|((with_reducible refine hK _ _ ?_);clear hK K)|fail)
 first|refine end_ret (ResP.cell rfl ld_whole (ResP.tmp rfl ResP.nil)) ?_|refine end_normal (ResP.cell rfl ld_whole (ResP.tmp rfl ResP.nil)) ?_
 first|rfl|(show _=_;rfl)|(simp only [tupV, *];done)
set_option maxHeartbeats 4000000 in
theorem times_yes {p:Pt}(m:Nat)(hm:m<T256)(hp:p.lt)(h:p.on)(w:World):Calls Tryz.prog 31 [nu m,pv p].toArray w (Ret (.tuple #[pv (p.times m),.int .i64 0]) w):=by
 have OP:=on_yes hp h
 have Z:=zero_c
 have Q:=quadOf_c p hp
 have Q0:=quadOf_c Pt.zero Pt.zero_lt
 have hlen:=len_nu m hm
 have h256:blen m≤256:=blen_le.2 (by rw [←T256_eq];exact hm)
 have qlt:=Pt.quad_lt hp
 have et:p.times m=(p.quad.rep m (blen m)).point:=rfl
 have PC:=fun x=>point_c x
 have hstep:∀ j,p.quad.rep m (j+1)=if m / 2 ^ (blen m - (j+1)) % 2=1 then ((p.quad.rep m j).plus (p.quad.rep m j)).plus p.quad else (p.quad.rep m j).plus (p.quad.rep m j):=fun j=>rfl
 have hlt:∀ j,(p.quad.rep m j).lt:=fun j=>Qd.rep_lt m j
 have h0:p.quad.rep m 0=Pt.zero.quad:=rfl
 rw [et]
 generalize blen m=L at *
 obtain ⟨f,hf⟩:∃ f:Nat→Qd,f=p.quad.rep m:=⟨_,rfl⟩
 rw [←hf] at hstep hlt h0 ⊢
 rw [←h0] at Q0
 clear et hf
 generalize p.quad=q at *
 have s0:IntKind.i64.wrap ((L:Int) - 1)=(L:Int) - 1:=wrap_i64 _ (by omega) (by omega)
 have hz:f (L - L)=f 0:=by rw [Nat.sub_self]
 clear h0 hp h
 refine fn_ret (N:=_) Tryz.func31 rfl Tryz.ntmps31 Tryz.results31 (by simp) ?_
 simp only [initS,Nat.reduceAdd,Nat.zero_add]
 repeat' (first|(refine wlR ?_)|(refine wlB ?_)|(refine wlNL ?_)|((with_reducible refine sel_call ?_);refine wl_rd rfl rfl (rd_call rfl rfl rfl (fun w hm=>by with_reducible first|exact OP w|exact Z w|exact Q w|exact Q0 w|exact hlen w)) ?_)|(refine wlE ?_)|(refine efR ?_)|(refine efZCnn ?_;intro n hn)|(refine efBnn ?_;intro n hn)|(refine efB ?_)|(refine wl_skip rfl rfl ?_)|(refine wdR ?_)|(refine wdV ?_)|(refine wdB ?_)|((with_reducible refine seld_call ?_);refine wd_rd hm0 rfl rfl rfl rfl (rd_call rfl rfl rfl (fun w hm=>by with_reducible first|exact OP w|exact Z w|exact Q w|exact Q0 w|exact hlen w)) ?_)|(refine wdE ?_)|(refine wd_allocC hm0 rfl rfl rfl ?_;intro n hn hn0)|(refine wd_alloc hm0 rfl rfl rfl ?_;intro n hn hn0)|(refine wdT ?_)|(refine wd_skip rfl rfl ?_)|((with_reducible refine seld_nil ?_);refine wd_nil hm0 ?_;clear hm0 hw0)|((with_reducible refine wc_seq ?_);intro K hK)|(refine auC ?_)|(refine wc_cond rfl (fun hc=>?_) (fun hc=>?_))|(refine wc_draw (by kernel_rfl) (by kernel_rfl) (by decide +kernel) ?_;intro w0 hw0 hm0;(try simp only [List.append_eq,List.cons_append,List.nil_append]))|(refine auP ?_)|((refine auR ?_);clear hK K)|(refine auR ?_)|((with_reducible refine hK _ _ ?_);clear hK K)|fail)
 rename_i n2 g2 n3 g3 n4 g4 n6 g6 g66
 obtain ⟨n7,rfl⟩:∃ n7,n7=n:=⟨n,rfl⟩
 refine wc_loop (σ:=Nat) (fun k=>[(2,ptr n2),(3,ptr n3),(4,ptr n4),(5,.int .i64 0),(6,ptr n6),(7,ptr n7),(8,.int .i64 ((k:Int) - 1))])
  (fun k=>[(n7,rowC [q.x,q.y,q.z,q.t],137),(n6,rowC [(f (L - k)).x,(f (L - k)).y,(f (L - k)).z,(f (L - k)).t],137),(n4,rowC [0,0],89),(n3,rowC [p.x,p.y],89),(n2,numC m,46)])
  (fun k=>k≤L) id L (Nat.le_refl _) (Fits.of ⟨rfl,rfl,rfl,rfl,rfl,rfl,rfl,trivial⟩ (by
   rw [hz]
   repeat (first|exact SubL.nil|exact SubL.refl _|refine SubL.keep ?_|exact SubL.headA _ _|refine SubL.keepA ?_ _|refine SubL.skip ?_|refine SubL.skipA ?_ _)) rfl) ?_
 clear OP Z Q Q0 hlen s0 hz
 intro k hk
 rcases k with _|j
 ·have ht:decide ((((0:Nat):Int) - 1)≥0)=false:=rfl
  rw [Nat.sub_zero]
  have P:=PC (f L) (hlt L)
  generalize f L=x at *
  clear hstep hlt PC hm qlt
  repeat' (first|(refine wlR ?_)|(refine wlB ?_)|((with_reducible refine sel_call ?_);refine wl_rd rfl rfl (rd_call rfl rfl rfl (fun w hm=>by with_reducible exact P w)) ?_)|(refine wlE ?_)|(refine efR ?_)|(refine efBnn ?_;intro n hn)|(refine efB ?_)|(refine wl_skip rfl rfl ?_)|(refine wdR ?_)|(refine wdV ?_)|(refine wdB ?_)|((with_reducible refine seld_call ?_);refine wd_rd hm0 rfl rfl rfl rfl (rd_call rfl rfl rfl (fun w hm=>by with_reducible exact P w)) ?_)|(refine wdE ?_)|(refine wd_alloc hm0 rfl rfl rfl ?_;intro n hn hn0)|(refine wdT ?_)|(refine wd_skip rfl rfl ?_)|((with_reducible refine seld_nil ?_);refine wd_nil hm0 ?_;clear hm0 hw0)|((with_reducible refine wc_seq ?_);intro K hK)|(refine auC ?_)|(refine wc_cond rfl (fun hc=>?_) (fun hc=>?_))|(refine wc_draw (by kernel_rfl) (by kernel_rfl) (by decide +kernel) ?_;intro w0 hw0 hm0;(try simp only [List.append_eq,List.cons_append,List.nil_append]))|(refine auP ?_)|((refine auR ?_);clear hK K)|(refine auR ?_)|((with_reducible refine hK _ _ ?_);clear hK K)|fail)
  first|refine end_ret (ResP.cell rfl ld_whole (ResP.tmp rfl ResP.nil)) ?_|refine end_normal (ResP.cell rfl ld_whole (ResP.tmp rfl ResP.nil)) ?_
  first|rfl|(show _=_;rfl)|(simp only [tupV, *];done)
 ·have ej:(((j+1:Nat):Int) - 1)=(j:Int):=by omega
  simp only [ej]
  have ht:decide ((j:Int)≥0)=true:=decide_eq_true (by omega)
  have s1:IntKind.i64.wrap ((j:Int) - 1)=(j:Int) - 1:=wrap_i64 _ (by omega) (by omega)
  have hb:=bit_nu m j hm (by omega)
  have hs:=hstep (L - (j+1))
  rw [show L - (j+1)+1=L - j by omega,show L - (L - j)=j by omega] at hs
  have hX:=hlt (L - (j+1))
  generalize f (L - (j+1))=X at *
  have M1:=plus_c X X hX hX
  have M2:=plus_c (X.plus X) q (Qd.plus_lt _ _) qlt
  generalize X.plus X=Y at *
  generalize Y.plus q=Z at *
  obtain ⟨b,hb2⟩:∃ b,b=m / 2 ^ j % 2:=⟨_,rfl⟩
  rw [←hb2] at hb hs
  by_cases h1:b=1
  ·subst h1
   rw [if_pos rfl] at hs
   have t1:((((1:Nat)):Int) == 1)=true:=rfl
   clear hb2 hm hX hstep hlt PC qlt
   repeat' (first|(refine wlR ?_)|(refine wlB ?_)|((with_reducible refine sel_call ?_);refine wl_rd rfl rfl (rd_call rfl rfl rfl (fun w hm=>by with_reducible first|exact hb w|exact M1 w|exact M2 w)) ?_)|(refine wlE ?_)|(refine efR ?_)|(refine efZCnn ?_;intro n hn)|(refine efBnn ?_;intro n hn)|(refine efB ?_)|(refine wl_skip rfl rfl ?_)|(refine wdR ?_)|(refine wdV ?_)|(refine wdB ?_)|((with_reducible refine seld_call ?_);refine wd_rd hm0 rfl rfl rfl rfl (rd_call rfl rfl rfl (fun w hm=>by with_reducible first|exact hb w|exact M1 w|exact M2 w)) ?_)|(refine wdE ?_)|(refine wd_allocC hm0 rfl rfl rfl ?_;intro n hn hn0)|(refine wd_alloc hm0 rfl rfl rfl ?_;intro n hn hn0)|(refine wdT ?_)|(refine wd_skip rfl rfl ?_)|((with_reducible refine seld_nil ?_);refine wd_nil hm0 ?_;clear hm0 hw0)|((with_reducible refine wc_seq ?_);intro K hK)|(refine auC ?_)|(refine wc_cond rfl (fun hc=>?_) (fun hc=>?_))|(refine wc_draw (by kernel_rfl) (by kernel_rfl) (by decide +kernel) ?_;intro w0 hw0 hm0;(try simp only [List.append_eq,List.cons_append,List.nil_append]))|(refine auP ?_)|((refine auR ?_);clear hK K)|(refine auR ?_)|((with_reducible refine hK _ _ ?_);clear hK K)|fail)
   exact ⟨j,by omega,Nat.lt_succ_self j,Fits.of ⟨rfl,rfl,rfl,rfl,rfl,rfl,rfl,trivial⟩ (by
    rw [hs]
    repeat (first|exact SubL.nil|exact SubL.refl _|refine SubL.keep ?_|exact SubL.headA _ _|refine SubL.keepA ?_ _|refine SubL.skip ?_|refine SubL.skipA ?_ _)) rfl⟩
  ·obtain rfl:b=0:=by omega
   rw [if_neg h1] at hs
   have t1:((((0:Nat)):Int) == 1)=false:=rfl
   clear hb2 hm hX hstep hlt PC qlt h1 M2
   repeat' (first|(refine wlR ?_)|(refine wlB ?_)|((with_reducible refine sel_call ?_);refine wl_rd rfl rfl (rd_call rfl rfl rfl (fun w hm=>by with_reducible first|exact hb w|exact M1 w)) ?_)|(refine wlE ?_)|(refine efR ?_)|(refine efZCnn ?_;intro n hn)|(refine efBnn ?_;intro n hn)|(refine efB ?_)|(refine wl_skip rfl rfl ?_)|(refine wdR ?_)|(refine wdV ?_)|(refine wdB ?_)|((with_reducible refine seld_call ?_);refine wd_rd hm0 rfl rfl rfl rfl (rd_call rfl rfl rfl (fun w hm=>by with_reducible first|exact hb w|exact M1 w)) ?_)|(refine wdE ?_)|(refine wd_allocC hm0 rfl rfl rfl ?_;intro n hn hn0)|(refine wd_alloc hm0 rfl rfl rfl ?_;intro n hn hn0)|(refine wdT ?_)|(refine wd_skip rfl rfl ?_)|((with_reducible refine seld_nil ?_);refine wd_nil hm0 ?_;clear hm0 hw0)|((with_reducible refine wc_seq ?_);intro K hK)|(refine auC ?_)|(refine wc_cond rfl (fun hc=>?_) (fun hc=>?_))|(refine wc_draw (by kernel_rfl) (by kernel_rfl) (by decide +kernel) ?_;intro w0 hw0 hm0;(try simp only [List.append_eq,List.cons_append,List.nil_append]))|(refine auP ?_)|((refine auR ?_);clear hK K)|(refine auR ?_)|((with_reducible refine hK _ _ ?_);clear hK K)|fail)
   exact ⟨j,by omega,Nat.lt_succ_self j,Fits.of ⟨rfl,rfl,rfl,rfl,rfl,rfl,rfl,trivial⟩ (by
    rw [hs]
    repeat (first|exact SubL.nil|exact SubL.refl _|refine SubL.keep ?_|exact SubL.headA _ _|refine SubL.keepA ?_ _|refine SubL.skip ?_|refine SubL.skipA ?_ _)) rfl⟩
end Go.Proofs.YtkendlnjaopbeaaGreatDoor
namespace Go.Proofs.YtkendlnjaopbeaaGreatDoor
def Pt.pack (p:Pt):Nat:=p.y+2 ^ 255 * (p.x % 2)
def upY (k:Nat):Nat:=k % 2 ^ 255
def upO (k:Nat):Nat:=k / 2 ^ 255
def upV (k:Nat):Nat:=fmul (fsub (fmul (upY k) (upY k)) 1) (finv (fadd (fmul DD (fmul (upY k) (upY k))) 1))
def upOk (k:Nat):Prop:=isSq (upV k)=true∧upY k=flow (upY k)∧¬(upO k=1∧froot (upV k)=0)
def upPt (k:Nat):Pt:=⟨if upO k=1 then fsub 0 (froot (upV k)) else froot (upV k),upY k⟩
end Go.Proofs.YtkendlnjaopbeaaGreatDoor
namespace Go.Proofs.YtkendlnjaopbeaaGreatDoor
open Go.RowKit
set_option linter.unusedVariables false
set_option linter.unusedSimpArgs false
set_option maxRecDepth 8000
theorem bv_zero:Value.agg (List.replicate 32 (Value.int .u8 0)).toArray=bv 0:=by
 have:bytesC 0=(List.replicate 32 (Value.int .u8 0)).toArray:=by
  apply Array.ext_getElem?
  intro i
  by_cases hi:i<32
  ·rw [bytesC_get 0 i hi]
   unfold byteN
   rw [Nat.zero_div,Nat.zero_mod]
   rw [List.getElem?_toArray,List.getElem?_replicate,if_pos hi]
   rfl
  ·rw [Array.getElem?_eq_none (by rw [bytesC_size];omega),Array.getElem?_eq_none (by simp;omega)]
 rw [bv,this]
theorem b32_zero:((Tryz.prog.info? 43).bind (·.zero)).map (·.cells)=some (List.replicate 32 (Value.int .u8 0)).toArray:=by kernel_rfl
theorem b32_zero':(List.replicate 32 (Value.int .u8 0)).toArray=bytesC 0:=by
 have h:=bv_zero
 injection h
instance zc_b32:ZC Tryz.prog 43 (bytesC 0):=⟨b32_zero.trans (congrArg some b32_zero')⟩
theorem or_top:∀ b:Nat,b<128→∀ o:Nat,o<2→bits .or .u8 (b:Int) ((o * 128:Nat):Int)=((b+o * 128:Nat):Int):=by decide +kernel
theorem byteN_top {y:Nat}(hy:y<2 ^ 255):byteN y 31<128:=by
 unfold byteN
 have:y / 2 ^ (8 * 31)<128:=by
  rw [Nat.div_lt_iff_lt_mul (by decide)]
  have e:(2:Nat) ^ 255=128 * 2 ^ (8 * 31):=by decide +kernel
  omega
 omega
theorem byteN_put {y o:Nat}(hy:y<2 ^ 255)(ho:o<2):byteN y 31+o * 128=byteN (y+2 ^ 255 * o) 31∧∀ j,j<32→j≠31→byteN y j=byteN (y+2 ^ 255 * o) j:=by
 have h:=byteN_top hy
 constructor
 ·unfold byteN at *
  have e:y+2 ^ 255 * o=y+2 ^ (8 * 31) * (128 * o):=by
   rw [←Nat.mul_assoc]
  rw [e,Nat.add_mul_div_left _ _ (by decide)]
  omega
 ·intro j hj hne
  unfold byteN
  have e:y+2 ^ 255 * o=y+2 ^ (8 * j) * (256 * (2 ^ (247 - 8 * j) * o)):=by
   rw [←Nat.mul_assoc,←Nat.mul_assoc,show 2 ^ (8 * j) * 256 * 2 ^ (247 - 8 * j)=2 ^ 255 by
    rw [show (256:Nat)=2 ^ 8 from rfl,←Nat.pow_add,←Nat.pow_add];congr 1;omega]
  rw [e,Nat.add_mul_div_left _ _ (Nat.pow_pos (by decide)),Nat.add_mul_mod_self_left]
theorem rowC_cell (x:Nat)(r:List Nat)(k:Nat)(hk:k<4):(rowC (x::r))[k]? = some (.int .u64 (limb x k)):=by
 unfold rowC
 rw [Array.getElem?_append_left (by rw [(numC_cells x).size];exact hk),numC_get x k hk]
set_option maxHeartbeats 2000000 in
theorem pack_yes {p:Pt}(hp:p.lt)(h:p.on)(hy:p.y<2 ^ 255)(w:World):Calls Tryz.prog 33 [pv p].toArray w (Ret (.tuple #[bv p.pack,.int .i64 0]) w):=by
 have OP:=on_yes hp h
 have BB:=bytes_bv p.y hp.2
 have hand:=odd_word p.x
 have ho:p.x % 2<2:=by omega
 have ep:p.pack=p.y+2 ^ 255 * (p.x % 2):=rfl
 generalize p.x % 2=o at *
 obtain ⟨b1,b2⟩:=byteN_put hy ho
 rw [←ep] at b1 b2
 have hput:=bytesC_put p.y p.pack 31 _ (by decide) b1 b2
 have hor:=or_top _ (byteN_top hy) o ho
 have hc:IntKind.u8.wrap ((o:Nat):Int)=(o:Int):=wrap_u8 _ (by omega) (by omega)
 have hs:IntKind.u8.wrap (((o:Nat):Int) * 2 ^ (min (7:Int).toNat (IntKind.bits .u8)))=((o * 128:Nat):Int):=by
  rw [show min (7:Int).toNat (IntKind.bits .u8)=7 from rfl,wrap_u8 _ (by omega) (by omega)];omega
 have g31:=bytesC_get p.y 31 (by decide)
 have x0:=rowC_cell p.x [p.y] 0 (by decide)
 clear ep b1 b2 ho h hp hy
 refine fn_ret (N:=_) Tryz.func33 rfl Tryz.ntmps33 Tryz.results33 (by simp) ?_
 simp only [initS,Nat.reduceAdd,Nat.zero_add]
 repeat' (first|(refine wlR ?_)|(refine wlB ?_)|((with_reducible refine sel_call ?_);refine wl_rd rfl rfl (rd_call rfl rfl rfl (fun w hm=>by with_reducible first|exact OP w|exact BB w)) ?_)|(refine wlE ?_)|(refine efR ?_)|(refine efZCnn ?_;intro n hn)|(refine efBnn ?_;intro n hn)|(refine efB ?_)|(refine wl_skip rfl rfl ?_)|((with_reducible refine wc_seq ?_);intro K hK)|(refine auC ?_)|(refine wc_cond rfl (fun hc=>?_) (fun hc=>?_))|(refine wc_draw (by kernel_rfl) (by kernel_rfl) (by decide +kernel) ?_;intro w0 hw0 hm0;(try simp only [List.append_eq,List.cons_append,List.nil_append]))|(refine auP ?_)|((refine auR ?_);clear hK K)|(refine auR ?_)|((with_reducible refine hK _ _ ?_);clear hK K)|fail)
 first|refine end_ret (ResP.cell rfl ld_whole (ResP.tmp rfl ResP.nil)) ?_|refine end_normal (ResP.cell rfl ld_whole (ResP.tmp rfl ResP.nil)) ?_
 first|rfl|(show _=_;rfl)|(simp only [tupV, *];done)
end Go.Proofs.YtkendlnjaopbeaaGreatDoor
