/- The walks of math/bits.Mul64,limb.step and limb.Mul. -/
import Derived.Test.YtkendlnjaopbeaaGreatDoorJnAI
import Derived.Lib.Mul64
import Derived.Laws.Bits64b
import Derived.Deep.RegionWith
namespace Go.Proofs.YtkendlnjaopbeaaGreatDoor
open Go.RowKit
theorem maskN (a:Nat)(ha:a<18446744073709551616):bits .and .u64 (a:Int) 4294967295=((a % 4294967296:Nat):Int):=by
 have h:=bits_and_u64_nat a 4294967295 ha (by omega)
 have e:a &&& 4294967295=a % 4294967296:=Nat.and_two_pow_sub_one_eq_mod a 32
 rw [e] at h
 exact h
theorem divN (a:Nat):(a:Int) / 4294967296=((a / 4294967296:Nat):Int):=by omega
theorem mulN (a b:Nat):(a:Int) * (b:Int)=((a * b:Nat):Int):=(Int.natCast_mul a b).symm
theorem addN (a b:Nat):(a:Int)+(b:Int)=((a+b:Nat):Int):=(Int.natCast_add a b).symm
theorem wrapN (a:Nat)(ha:a<18446744073709551616):IntKind.u64.wrap (a:Int)=(a:Int):=by rw [IntKind.wrap_u64];omega
theorem wrapM (a:Nat):IntKind.u64.wrap (a:Int)=((a % 18446744073709551616:Nat):Int):=by rw [IntKind.wrap_u64];omega
set_option maxHeartbeats 1000000 in
theorem mul64 (x y:Nat)(hx:x<18446744073709551616)(hy:y<18446744073709551616)(w:World) :
  Calls Tryz.prog 59 #[.int .u64 x,.int .u64 y] w fun e w'=>e=.returned (.tuple #[.int .u64 ((x * y / 18446744073709551616:Nat):Int),.int .u64 ((x * y % 18446744073709551616:Nat):Int)])∧w=w':=by
 obtain ⟨bd,bt,bw,hhi⟩:=Lib.mul64_hi x y hx hy
 have ba:=Lib.half_mul_le (a:=x / 4294967296) (b:=y / 4294967296) (by omega) (by omega)
 have bb:=Lib.half_mul_le (a:=x / 4294967296) (b:=y % 4294967296) (by omega) (by omega)
 have bc:=Lib.half_mul_le (a:=x % 4294967296) (b:=y / 4294967296) (by omega) (by omega)
 have ba':x / 4294967296 * (y / 4294967296)<18446744073709551616:=by omega
 have bb':x / 4294967296 * (y % 4294967296)<18446744073709551616:=by omega
 have bc':x % 4294967296 * (y / 4294967296)<18446744073709551616:=by omega
 have bh1:x / 4294967296 * (y / 4294967296)+(x / 4294967296 * (y % 4294967296)+x % 4294967296 * (y % 4294967296) / 4294967296) / 4294967296<18446744073709551616:=by omega
 have bh:x / 4294967296 * (y / 4294967296)+(x / 4294967296 * (y % 4294967296)+x % 4294967296 * (y % 4294967296) / 4294967296) / 4294967296+((x / 4294967296 * (y % 4294967296)+x % 4294967296 * (y % 4294967296) / 4294967296) % 4294967296+x % 4294967296 * (y / 4294967296)) / 4294967296<18446744073709551616:=by omega
 go_enter Tryz.func59,Tryz.ntmps59
 go_wp2
 simp only [maskN x hx,maskN y hy,divN,mulN,addN,wrapN _ bd,wrapN _ bb',wrapN _ bt,maskN _ bt,wrapN _ bc',wrapN _ bw,wrapN _ ba',wrapN _ bh1,wrapN _ bh,wrapM (x * y)]
 rw [hhi]
 go_ret2
 exact ⟨rfl,rfl⟩
theorem prod_lt {a b:Nat}(ha:a<18446744073709551616)(hb:b<18446744073709551616):a * b≤340282366920938463426481119284349108225:=
 Nat.mul_le_mul (Nat.le_of_lt_succ ha) (Nat.le_of_lt_succ hb)
theorem step_any (a b c d:Nat)(ha:a<18446744073709551616)(hb:b<18446744073709551616)(hc:c<18446744073709551616)(hd:d<18446744073709551616) :
  ∃ r s:Nat,Hid (a * b+c+d=r+18446744073709551616 * s)∧r<18446744073709551616∧s<18446744073709551616∧
  ∀ w,Calls Tryz.prog 72 #[.int .u64 a,.int .u64 b,.int .u64 c,.int .u64 d] w (Ret (.tuple #[.int .u64 (r:Nat),.int .u64 (s:Nat)]) w):=by
 have hp:=prod_lt ha hb
 have hm:=fun w=>mul64 a b ha hb w
 generalize a * b=p at *
 obtain ⟨hi,hhi⟩:∃ x:Nat,x=p / 18446744073709551616:=⟨_,rfl⟩
 obtain ⟨lo,hlo⟩:∃ x:Nat,x=p % 18446744073709551616:=⟨_,rfl⟩
 rw [←hhi,←hlo] at hm
 obtain ⟨l1,hl1⟩:∃ x:Nat,x=(lo+c) % 18446744073709551616:=⟨_,rfl⟩
 obtain ⟨o1,ho1⟩:∃ x:Nat,x=(lo+c) / 18446744073709551616:=⟨_,rfl⟩
 obtain ⟨l2,hl2⟩:∃ x:Nat,x=(l1+d) % 18446744073709551616:=⟨_,rfl⟩
 obtain ⟨o2,ho2⟩:∃ x:Nat,x=(l1+d) / 18446744073709551616:=⟨_,rfl⟩
 refine ⟨l2,hi+o1+o2,by show _=_;omega,by omega,by omega,fun w=>?_⟩
 have k1:=run_add lo c 0 ⟨by omega,by omega⟩ ⟨by omega,by omega⟩ (by omega) (by omega)
 rw [show sumLo lo c 0=(l1:Int) by unfold sumLo;omega,show sumHi lo c 0=(o1:Int) by unfold sumHi;omega] at k1
 have k2:=run_add l1 d 0 ⟨by omega,by omega⟩ ⟨by omega,by omega⟩ (by omega) (by omega)
 rw [show sumLo l1 d 0=(l2:Int) by unfold sumLo;omega,show sumHi l1 d 0=(o2:Int) by unfold sumHi;omega] at k2
 have e1:IntKind.u64.wrap ((hi:Int)+o1)=((hi+o1:Nat):Int):=by rw [IntKind.wrap_u64];omega
 have e2:IntKind.u64.wrap (((hi:Int)+o1)+o2)=((hi+o1+o2:Nat):Int):=by rw [IntKind.wrap_u64];omega
 replace e2:=Lib.hid e2
 replace e1:=Lib.hid e1
 replace hm:=Lib.hid hm
 clear ha hb hc hd hp hhi hlo hl1 ho1 hl2 ho2
 go_enter Tryz.func72,Tryz.ntmps72
 go_wp2_with (first|(go_at_call 59;with_reducible refine (hm.out _).mono ?_;rintro _ _ ⟨rfl,rfl⟩))
 simp only [e1.out,e2.out,Int.natCast_add]
 go_ret2
 exact ⟨rfl,Below.refl _ _⟩
theorem mul_plain (a0 a1 a2 a3 b0 b1 b2 b3 r00 s00 r01 s01 r02 s02 r03 s03 r10 s10 r11 s11 r12 s12 r13 s13 r20 s20 r21 s21 r22 s22 r23 s23 r30 s30 r31 s31 r32 s32 r33 s33:Nat)
  (e00:Hid (a0 * b0+0+0=r00+18446744073709551616 * s00))
  (e01:Hid (a0 * b1+0+s00=r01+18446744073709551616 * s01))
  (e02:Hid (a0 * b2+0+s01=r02+18446744073709551616 * s02))
  (e03:Hid (a0 * b3+0+s02=r03+18446744073709551616 * s03))
  (e10:Hid (a1 * b0+r01+0=r10+18446744073709551616 * s10))
  (e11:Hid (a1 * b1+r02+s10=r11+18446744073709551616 * s11))
  (e12:Hid (a1 * b2+r03+s11=r12+18446744073709551616 * s12))
  (e13:Hid (a1 * b3+s03+s12=r13+18446744073709551616 * s13))
  (e20:Hid (a2 * b0+r11+0=r20+18446744073709551616 * s20))
  (e21:Hid (a2 * b1+r12+s20=r21+18446744073709551616 * s21))
  (e22:Hid (a2 * b2+r13+s21=r22+18446744073709551616 * s22))
  (e23:Hid (a2 * b3+s13+s22=r23+18446744073709551616 * s23))
  (e30:Hid (a3 * b0+r21+0=r30+18446744073709551616 * s30))
  (e31:Hid (a3 * b1+r22+s30=r31+18446744073709551616 * s31))
  (e32:Hid (a3 * b2+r23+s31=r32+18446744073709551616 * s32))
  (e33:Hid (a3 * b3+s23+s32=r33+18446744073709551616 * s33))
  : four a0 a1 a2 a3 * four b0 b1 b2 b3=four r00 r10 r20 r30+T256 * four r31 r32 r33 s33:=by
 replace e00:=e00.out
 replace e01:=e01.out
 replace e02:=e02.out
 replace e03:=e03.out
 replace e10:=e10.out
 replace e11:=e11.out
 replace e12:=e12.out
 replace e13:=e13.out
 replace e20:=e20.out
 replace e21:=e21.out
 replace e22:=e22.out
 replace e23:=e23.out
 replace e30:=e30.out
 replace e31:=e31.out
 replace e32:=e32.out
 replace e33:=e33.out
 have h:four a0 a1 a2 a3 * four b0 b1 b2 b3=(a0 * b0)+18446744073709551616 * (a0 * b1)+340282366920938463463374607431768211456 * (a0 * b2)+6277101735386680763835789423207666416102355444464034512896 * (a0 * b3)+18446744073709551616 * (a1 * b0)+340282366920938463463374607431768211456 * (a1 * b1)+6277101735386680763835789423207666416102355444464034512896 * (a1 * b2)+115792089237316195423570985008687907853269984665640564039457584007913129639936 * (a1 * b3)+340282366920938463463374607431768211456 * (a2 * b0)+6277101735386680763835789423207666416102355444464034512896 * (a2 * b1)+115792089237316195423570985008687907853269984665640564039457584007913129639936 * (a2 * b2)+2135987035920910082395021706169552114602704522356652769947041607822219725780640550022962086936576 * (a2 * b3)+6277101735386680763835789423207666416102355444464034512896 * (a3 * b0)+115792089237316195423570985008687907853269984665640564039457584007913129639936 * (a3 * b1)+2135987035920910082395021706169552114602704522356652769947041607822219725780640550022962086936576 * (a3 * b2)+39402006196394479212279040100143613805079739270465446667948293404245721771497210611414266254884915640806627990306816 * (a3 * b3):=by
  unfold four;grind
 rw [h]
 clear h
 generalize a0 * b0=p00 at *
 generalize a0 * b1=p01 at *
 generalize a0 * b2=p02 at *
 generalize a0 * b3=p03 at *
 generalize a1 * b0=p10 at *
 generalize a1 * b1=p11 at *
 generalize a1 * b2=p12 at *
 generalize a1 * b3=p13 at *
 generalize a2 * b0=p20 at *
 generalize a2 * b1=p21 at *
 generalize a2 * b2=p22 at *
 generalize a2 * b3=p23 at *
 generalize a3 * b0=p30 at *
 generalize a3 * b1=p31 at *
 generalize a3 * b2=p32 at *
 generalize a3 * b3=p33 at *
 unfold four T256
 omega
set_option maxHeartbeats 4000000 in
theorem mul_words (a0 a1 a2 a3 b0 b1 b2 b3:Nat)(ha0:a0<18446744073709551616)(ha1:a1<18446744073709551616)(ha2:a2<18446744073709551616)(ha3:a3<18446744073709551616)(hb0:b0<18446744073709551616)(hb1:b1<18446744073709551616)(hb2:b2<18446744073709551616)(hb3:b3<18446744073709551616) :
  ∃ x0 x1 x2 x3 x4 x5 x6 x7:Nat,four a0 a1 a2 a3 * four b0 b1 b2 b3=four x0 x1 x2 x3+T256 * four x4 x5 x6 x7∧x0<18446744073709551616∧x1<18446744073709551616∧x2<18446744073709551616∧x3<18446744073709551616∧x4<18446744073709551616∧x5<18446744073709551616∧x6<18446744073709551616∧x7<18446744073709551616∧
  ∀ w,Calls Tryz.prog 58 #[.agg #[.int .u64 a0,.int .u64 a1,.int .u64 a2,.int .u64 a3],.agg #[.int .u64 b0,.int .u64 b1,.int .u64 b2,.int .u64 b3]] w
   (Ret (.agg #[.int .u64 x0,.int .u64 x1,.int .u64 x2,.int .u64 x3,.int .u64 x4,.int .u64 x5,.int .u64 x6,.int .u64 x7]) w):=by
 have z:(0:Nat)<18446744073709551616:=by omega
 obtain ⟨r00,s00,e00,hr00,hs00,C00⟩:=step_any a0 b0 0 0 ha0 hb0 z z
 obtain ⟨r01,s01,e01,hr01,hs01,C01⟩:=step_any a0 b1 0 s00 ha0 hb1 z hs00
 obtain ⟨r02,s02,e02,hr02,hs02,C02⟩:=step_any a0 b2 0 s01 ha0 hb2 z hs01
 obtain ⟨r03,s03,e03,hr03,hs03,C03⟩:=step_any a0 b3 0 s02 ha0 hb3 z hs02
 obtain ⟨r10,s10,e10,hr10,hs10,C10⟩:=step_any a1 b0 r01 0 ha1 hb0 hr01 z
 obtain ⟨r11,s11,e11,hr11,hs11,C11⟩:=step_any a1 b1 r02 s10 ha1 hb1 hr02 hs10
 obtain ⟨r12,s12,e12,hr12,hs12,C12⟩:=step_any a1 b2 r03 s11 ha1 hb2 hr03 hs11
 obtain ⟨r13,s13,e13,hr13,hs13,C13⟩:=step_any a1 b3 s03 s12 ha1 hb3 hs03 hs12
 obtain ⟨r20,s20,e20,hr20,hs20,C20⟩:=step_any a2 b0 r11 0 ha2 hb0 hr11 z
 obtain ⟨r21,s21,e21,hr21,hs21,C21⟩:=step_any a2 b1 r12 s20 ha2 hb1 hr12 hs20
 obtain ⟨r22,s22,e22,hr22,hs22,C22⟩:=step_any a2 b2 r13 s21 ha2 hb2 hr13 hs21
 obtain ⟨r23,s23,e23,hr23,hs23,C23⟩:=step_any a2 b3 s13 s22 ha2 hb3 hs13 hs22
 obtain ⟨r30,s30,e30,hr30,hs30,C30⟩:=step_any a3 b0 r21 0 ha3 hb0 hr21 z
 obtain ⟨r31,s31,e31,hr31,hs31,C31⟩:=step_any a3 b1 r22 s30 ha3 hb1 hr22 hs30
 obtain ⟨r32,s32,e32,hr32,hs32,C32⟩:=step_any a3 b2 r23 s31 ha3 hb2 hr23 hs31
 obtain ⟨r33,s33,e33,hr33,hs33,C33⟩:=step_any a3 b3 s23 s32 ha3 hb3 hs23 hs32
 refine ⟨r00,r10,r20,r30,r31,r32,r33,s33,mul_plain _ _ _ _ _ _ _ _ _ _ _ _ _ _ _ _ _ _ _ _ _ _ _ _ _ _ _ _ _ _ _ _ _ _ _ _ _ _ _ _ e00 e01 e02 e03 e10 e11 e12 e13 e20 e21 e22 e23 e30 e31 e32 e33,hr00,hr10,hr20,hr30,hr31,hr32,hr33,hs33,fun w=>?_⟩
 have z0:((0:Nat):Int)=0:=rfl
 rw [z0] at C00 C01 C02 C03 C10 C20 C30
 clear z z0 e00 e01 e02 e03 e10 e11 e12 e13 e20 e21 e22 e23 e30 e31 e32 e33 ha0 ha1 ha2 ha3 hb0 hb1 hb2 hb3
 clear hr00 hs00 hr01 hs01 hr02 hs02 hr03 hs03 hr10 hs10 hr11 hs11 hr12 hs12 hr13 hs13 hr20 hs20 hr21 hs21 hr22 hs22 hr23 hs23 hr30 hs30 hr31 hs31 hr32 hs32 hr33 hs33
 replace C00:=Lib.hid C00
 replace C01:=Lib.hid C01
 replace C02:=Lib.hid C02
 replace C03:=Lib.hid C03
 replace C10:=Lib.hid C10
 replace C11:=Lib.hid C11
 replace C12:=Lib.hid C12
 replace C13:=Lib.hid C13
 replace C20:=Lib.hid C20
 replace C21:=Lib.hid C21
 replace C22:=Lib.hid C22
 replace C23:=Lib.hid C23
 replace C30:=Lib.hid C30
 replace C31:=Lib.hid C31
 replace C32:=Lib.hid C32
 replace C33:=Lib.hid C33
 go_enter Tryz.func58,Tryz.ntmps58
 go_wp2
 refine wp_loop_rounds 5 ?_
 rw [rounds_succ]
 go_wp2
 refine wp_loop_rounds 5 ?_
 rw [rounds_succ]
 go_wp2
 refine wp_region_mild (by kernel_rfl) (by kernel_rfl) (by kernel_rfl) ?_
 repeat ((first|(refine wpM_skip rfl ?_)|(apply wpM_plain rfl rfl;(focus (go_simp;first|done|with_reducible rfl)))|(refine wpM_alloc rfl rfl (by first|exact zNum|exact zWide) ?_;intro n hn hf;(try have hne:=put_ne hf))|(apply wpM_row rfl rfl rfl;(focus (go_simp;first|done|with_reducible rfl));(focus (first|(with_reducible exact cur_same _ _)|(rw [cur_put _ _ _ _ _ hne];exact cur_same _ _)|(rw [cur_put _ _ _ _ _ hne.symm];exact cur_same _ _)|(apply cur_old;(repeat' (first|(with_reducible exact nw)|(with_reducible exact nw1)|(with_reducible exact nw2)|(with_reducible exact nw3)|(with_reducible exact nw4)|(with_reducible exact nw5)|(with_reducible assumption)|(with_reducible apply ho)|(with_reducible apply hdr)|(with_reducible apply Grow.heap)|(with_reducible apply hrow)|(with_reducible apply hset)|(with_reducible apply hrow_other)|(with_reducible apply hset_other)|(go_simp;done)|omega)))));(focus kernel_rfl);(focus rfl);(focus (simp [Value.oneCell'];done));(focus (first|(intro _;omega)|(exact notFresh (by kernel_rfl)))))|(apply wpM_cell rfl rfl rfl;(focus (go_simp;first|done|with_reducible rfl));(focus (first|(with_reducible exact cur_same _ _)|(rw [cur_put _ _ _ _ _ hne];exact cur_same _ _)|(rw [cur_put _ _ _ _ _ hne.symm];exact cur_same _ _)|(apply cur_old;(repeat' (first|(with_reducible exact nw)|(with_reducible exact nw1)|(with_reducible exact nw2)|(with_reducible exact nw3)|(with_reducible exact nw4)|(with_reducible exact nw5)|(with_reducible assumption)|(with_reducible apply ho)|(with_reducible apply hdr)|(with_reducible apply Grow.heap)|(with_reducible apply hrow)|(with_reducible apply hset)|(with_reducible apply hrow_other)|(with_reducible apply hset_other)|(go_simp;done)|omega)))));(focus kernel_rfl);(focus rfl);(focus (first|(simp;done)|(simp;omega)));(focus (first|(intro _;omega)|(exact notFresh (by kernel_rfl)))))|(apply wpM_mild rfl rfl;(focus (intro x;go_simp;(try go_ints);first|done|(with_reducible rfl)|(with_reducible exact C00.out _)))));(try simp only [Act.put,List.setIfInBounds_toArray,List.set_cons_zero,List.set_cons_succ]))
 refine wpM_nil ?_
 intro w' hc
 obtain ⟨y,rfl⟩:=convS hc (by (repeat' (first|(with_reducible exact nw)|(with_reducible exact nw1)|(with_reducible exact nw2)|(with_reducible exact nw3)|(with_reducible exact nw4)|(with_reducible exact nw5)|(with_reducible assumption)|(with_reducible apply ho)|(with_reducible apply hdr)|(with_reducible apply Grow.heap)|(with_reducible apply hrow)|(with_reducible apply hset)|(with_reducible apply hrow_other)|(with_reducible apply hset_other)|(go_simp;done)|omega))) (fun k hk=>by rw [Mu.put_f,if_neg hk];rfl) (Mu.put_same _ _ _)
 clear hc
 go_wp2
 rw [rounds_succ]
 go_wp2
 refine wp_region_mild (by kernel_rfl) (by kernel_rfl) (by kernel_rfl) ?_
 repeat ((first|(refine wpM_skip rfl ?_)|(apply wpM_plain rfl rfl;(focus (go_simp;first|done|with_reducible rfl)))|(refine wpM_alloc rfl rfl (by first|exact zNum|exact zWide) ?_;intro n hn hf;(try have hne:=put_ne hf))|(apply wpM_row rfl rfl rfl;(focus (go_simp;first|done|with_reducible rfl));(focus (first|(with_reducible exact cur_same _ _)|(rw [cur_put _ _ _ _ _ hne];exact cur_same _ _)|(rw [cur_put _ _ _ _ _ hne.symm];exact cur_same _ _)|(apply cur_old;(repeat' (first|(with_reducible exact nw)|(with_reducible exact nw1)|(with_reducible exact nw2)|(with_reducible exact nw3)|(with_reducible exact nw4)|(with_reducible exact nw5)|(with_reducible assumption)|(with_reducible apply ho)|(with_reducible apply hdr)|(with_reducible apply Grow.heap)|(with_reducible apply hrow)|(with_reducible apply hset)|(with_reducible apply hrow_other)|(with_reducible apply hset_other)|(go_simp;done)|omega)))));(focus kernel_rfl);(focus rfl);(focus (simp [Value.oneCell'];done));(focus (first|(intro _;omega)|(exact notFresh (by kernel_rfl)))))|(apply wpM_cell rfl rfl rfl;(focus (go_simp;first|done|with_reducible rfl));(focus (first|(with_reducible exact cur_same _ _)|(rw [cur_put _ _ _ _ _ hne];exact cur_same _ _)|(rw [cur_put _ _ _ _ _ hne.symm];exact cur_same _ _)|(apply cur_old;(repeat' (first|(with_reducible exact nw)|(with_reducible exact nw1)|(with_reducible exact nw2)|(with_reducible exact nw3)|(with_reducible exact nw4)|(with_reducible exact nw5)|(with_reducible assumption)|(with_reducible apply ho)|(with_reducible apply hdr)|(with_reducible apply Grow.heap)|(with_reducible apply hrow)|(with_reducible apply hset)|(with_reducible apply hrow_other)|(with_reducible apply hset_other)|(go_simp;done)|omega)))));(focus kernel_rfl);(focus rfl);(focus (first|(simp;done)|(simp;omega)));(focus (first|(intro _;omega)|(exact notFresh (by kernel_rfl)))))|(apply wpM_mild rfl rfl;(focus (intro x;go_simp;(try go_ints);first|done|(with_reducible rfl)|(with_reducible exact C01.out _)))));(try simp only [Act.put,List.setIfInBounds_toArray,List.set_cons_zero,List.set_cons_succ]))
 refine wpM_nil ?_
 intro w' hc
 obtain ⟨y0,hy⟩:=convS hc (by (repeat' (first|(with_reducible exact nw)|(with_reducible exact nw1)|(with_reducible exact nw2)|(with_reducible exact nw3)|(with_reducible exact nw4)|(with_reducible exact nw5)|(with_reducible assumption)|(with_reducible apply ho)|(with_reducible apply hdr)|(with_reducible apply Grow.heap)|(with_reducible apply hrow)|(with_reducible apply hset)|(with_reducible apply hrow_other)|(with_reducible apply hset_other)|(go_simp;done)|omega))) (fun k hk=>by rw [Mu.put_f,if_neg hk];rfl) (Mu.put_same _ _ _)
 obtain ⟨y,hz⟩:=(by first|exact collapse y0|exact collapse1 y0:∃ z,y0.to=Grow.to z)
 obtain rfl:=hy.trans hz
 clear hy hz y0
 clear hc
 go_wp2
 rw [rounds_succ]
 go_wp2
 refine wp_region_mild (by kernel_rfl) (by kernel_rfl) (by kernel_rfl) ?_
 repeat ((first|(refine wpM_skip rfl ?_)|(apply wpM_plain rfl rfl;(focus (go_simp;first|done|with_reducible rfl)))|(refine wpM_alloc rfl rfl (by first|exact zNum|exact zWide) ?_;intro n hn hf;(try have hne:=put_ne hf))|(apply wpM_row rfl rfl rfl;(focus (go_simp;first|done|with_reducible rfl));(focus (first|(with_reducible exact cur_same _ _)|(rw [cur_put _ _ _ _ _ hne];exact cur_same _ _)|(rw [cur_put _ _ _ _ _ hne.symm];exact cur_same _ _)|(apply cur_old;(repeat' (first|(with_reducible exact nw)|(with_reducible exact nw1)|(with_reducible exact nw2)|(with_reducible exact nw3)|(with_reducible exact nw4)|(with_reducible exact nw5)|(with_reducible assumption)|(with_reducible apply ho)|(with_reducible apply hdr)|(with_reducible apply Grow.heap)|(with_reducible apply hrow)|(with_reducible apply hset)|(with_reducible apply hrow_other)|(with_reducible apply hset_other)|(go_simp;done)|omega)))));(focus kernel_rfl);(focus rfl);(focus (simp [Value.oneCell'];done));(focus (first|(intro _;omega)|(exact notFresh (by kernel_rfl)))))|(apply wpM_cell rfl rfl rfl;(focus (go_simp;first|done|with_reducible rfl));(focus (first|(with_reducible exact cur_same _ _)|(rw [cur_put _ _ _ _ _ hne];exact cur_same _ _)|(rw [cur_put _ _ _ _ _ hne.symm];exact cur_same _ _)|(apply cur_old;(repeat' (first|(with_reducible exact nw)|(with_reducible exact nw1)|(with_reducible exact nw2)|(with_reducible exact nw3)|(with_reducible exact nw4)|(with_reducible exact nw5)|(with_reducible assumption)|(with_reducible apply ho)|(with_reducible apply hdr)|(with_reducible apply Grow.heap)|(with_reducible apply hrow)|(with_reducible apply hset)|(with_reducible apply hrow_other)|(with_reducible apply hset_other)|(go_simp;done)|omega)))));(focus kernel_rfl);(focus rfl);(focus (first|(simp;done)|(simp;omega)));(focus (first|(intro _;omega)|(exact notFresh (by kernel_rfl)))))|(apply wpM_mild rfl rfl;(focus (intro x;go_simp;(try go_ints);first|done|(with_reducible rfl)|(with_reducible exact C02.out _)))));(try simp only [Act.put,List.setIfInBounds_toArray,List.set_cons_zero,List.set_cons_succ]))
 refine wpM_nil ?_
 intro w' hc
 obtain ⟨y0,hy⟩:=convS hc (by (repeat' (first|(with_reducible exact nw)|(with_reducible exact nw1)|(with_reducible exact nw2)|(with_reducible exact nw3)|(with_reducible exact nw4)|(with_reducible exact nw5)|(with_reducible assumption)|(with_reducible apply ho)|(with_reducible apply hdr)|(with_reducible apply Grow.heap)|(with_reducible apply hrow)|(with_reducible apply hset)|(with_reducible apply hrow_other)|(with_reducible apply hset_other)|(go_simp;done)|omega))) (fun k hk=>by rw [Mu.put_f,if_neg hk];rfl) (Mu.put_same _ _ _)
 obtain ⟨y,hz⟩:=(by first|exact collapse y0|exact collapse1 y0:∃ z,y0.to=Grow.to z)
 obtain rfl:=hy.trans hz
 clear hy hz y0
 clear hc
 go_wp2
 rw [rounds_succ]
 go_wp2
 refine wp_region_mild (by kernel_rfl) (by kernel_rfl) (by kernel_rfl) ?_
 repeat ((first|(refine wpM_skip rfl ?_)|(apply wpM_plain rfl rfl;(focus (go_simp;first|done|with_reducible rfl)))|(refine wpM_alloc rfl rfl (by first|exact zNum|exact zWide) ?_;intro n hn hf;(try have hne:=put_ne hf))|(apply wpM_row rfl rfl rfl;(focus (go_simp;first|done|with_reducible rfl));(focus (first|(with_reducible exact cur_same _ _)|(rw [cur_put _ _ _ _ _ hne];exact cur_same _ _)|(rw [cur_put _ _ _ _ _ hne.symm];exact cur_same _ _)|(apply cur_old;(repeat' (first|(with_reducible exact nw)|(with_reducible exact nw1)|(with_reducible exact nw2)|(with_reducible exact nw3)|(with_reducible exact nw4)|(with_reducible exact nw5)|(with_reducible assumption)|(with_reducible apply ho)|(with_reducible apply hdr)|(with_reducible apply Grow.heap)|(with_reducible apply hrow)|(with_reducible apply hset)|(with_reducible apply hrow_other)|(with_reducible apply hset_other)|(go_simp;done)|omega)))));(focus kernel_rfl);(focus rfl);(focus (simp [Value.oneCell'];done));(focus (first|(intro _;omega)|(exact notFresh (by kernel_rfl)))))|(apply wpM_cell rfl rfl rfl;(focus (go_simp;first|done|with_reducible rfl));(focus (first|(with_reducible exact cur_same _ _)|(rw [cur_put _ _ _ _ _ hne];exact cur_same _ _)|(rw [cur_put _ _ _ _ _ hne.symm];exact cur_same _ _)|(apply cur_old;(repeat' (first|(with_reducible exact nw)|(with_reducible exact nw1)|(with_reducible exact nw2)|(with_reducible exact nw3)|(with_reducible exact nw4)|(with_reducible exact nw5)|(with_reducible assumption)|(with_reducible apply ho)|(with_reducible apply hdr)|(with_reducible apply Grow.heap)|(with_reducible apply hrow)|(with_reducible apply hset)|(with_reducible apply hrow_other)|(with_reducible apply hset_other)|(go_simp;done)|omega)))));(focus kernel_rfl);(focus rfl);(focus (first|(simp;done)|(simp;omega)));(focus (first|(intro _;omega)|(exact notFresh (by kernel_rfl)))))|(apply wpM_mild rfl rfl;(focus (intro x;go_simp;(try go_ints);first|done|(with_reducible rfl)|(with_reducible exact C03.out _)))));(try simp only [Act.put,List.setIfInBounds_toArray,List.set_cons_zero,List.set_cons_succ]))
 refine wpM_nil ?_
 intro w' hc
 obtain ⟨y0,hy⟩:=convS hc (by (repeat' (first|(with_reducible exact nw)|(with_reducible exact nw1)|(with_reducible exact nw2)|(with_reducible exact nw3)|(with_reducible exact nw4)|(with_reducible exact nw5)|(with_reducible assumption)|(with_reducible apply ho)|(with_reducible apply hdr)|(with_reducible apply Grow.heap)|(with_reducible apply hrow)|(with_reducible apply hset)|(with_reducible apply hrow_other)|(with_reducible apply hset_other)|(go_simp;done)|omega))) (fun k hk=>by rw [Mu.put_f,if_neg hk];rfl) (Mu.put_same _ _ _)
 obtain ⟨y,hz⟩:=(by first|exact collapse y0|exact collapse1 y0:∃ z,y0.to=Grow.to z)
 obtain rfl:=hy.trans hz
 clear hy hz y0
 clear hc
 go_wp2
 rw [rounds_succ]
 go_wp2
 rw [rounds_succ]
 go_wp2
 refine wp_loop_rounds 5 ?_
 rw [rounds_succ]
 go_wp2
 refine wp_region_mild (by kernel_rfl) (by kernel_rfl) (by kernel_rfl) ?_
 repeat ((first|(refine wpM_skip rfl ?_)|(apply wpM_plain rfl rfl;(focus (go_simp;first|done|with_reducible rfl)))|(refine wpM_alloc rfl rfl (by first|exact zNum|exact zWide) ?_;intro n hn hf;(try have hne:=put_ne hf))|(apply wpM_row rfl rfl rfl;(focus (go_simp;first|done|with_reducible rfl));(focus (first|(with_reducible exact cur_same _ _)|(rw [cur_put _ _ _ _ _ hne];exact cur_same _ _)|(rw [cur_put _ _ _ _ _ hne.symm];exact cur_same _ _)|(apply cur_old;(repeat' (first|(with_reducible exact nw)|(with_reducible exact nw1)|(with_reducible exact nw2)|(with_reducible exact nw3)|(with_reducible exact nw4)|(with_reducible exact nw5)|(with_reducible assumption)|(with_reducible apply ho)|(with_reducible apply hdr)|(with_reducible apply Grow.heap)|(with_reducible apply hrow)|(with_reducible apply hset)|(with_reducible apply hrow_other)|(with_reducible apply hset_other)|(go_simp;done)|omega)))));(focus kernel_rfl);(focus rfl);(focus (simp [Value.oneCell'];done));(focus (first|(intro _;omega)|(exact notFresh (by kernel_rfl)))))|(apply wpM_cell rfl rfl rfl;(focus (go_simp;first|done|with_reducible rfl));(focus (first|(with_reducible exact cur_same _ _)|(rw [cur_put _ _ _ _ _ hne];exact cur_same _ _)|(rw [cur_put _ _ _ _ _ hne.symm];exact cur_same _ _)|(apply cur_old;(repeat' (first|(with_reducible exact nw)|(with_reducible exact nw1)|(with_reducible exact nw2)|(with_reducible exact nw3)|(with_reducible exact nw4)|(with_reducible exact nw5)|(with_reducible assumption)|(with_reducible apply ho)|(with_reducible apply hdr)|(with_reducible apply Grow.heap)|(with_reducible apply hrow)|(with_reducible apply hset)|(with_reducible apply hrow_other)|(with_reducible apply hset_other)|(go_simp;done)|omega)))));(focus kernel_rfl);(focus rfl);(focus (first|(simp;done)|(simp;omega)));(focus (first|(intro _;omega)|(exact notFresh (by kernel_rfl)))))|(apply wpM_mild rfl rfl;(focus (intro x;go_simp;(try go_ints);first|done|(with_reducible rfl)|(with_reducible exact C10.out _)))));(try simp only [Act.put,List.setIfInBounds_toArray,List.set_cons_zero,List.set_cons_succ]))
 refine wpM_nil ?_
 intro w' hc
 obtain ⟨y0,hy⟩:=convS hc (by (repeat' (first|(with_reducible exact nw)|(with_reducible exact nw1)|(with_reducible exact nw2)|(with_reducible exact nw3)|(with_reducible exact nw4)|(with_reducible exact nw5)|(with_reducible assumption)|(with_reducible apply ho)|(with_reducible apply hdr)|(with_reducible apply Grow.heap)|(with_reducible apply hrow)|(with_reducible apply hset)|(with_reducible apply hrow_other)|(with_reducible apply hset_other)|(go_simp;done)|omega))) (fun k hk=>by rw [Mu.put_f,if_neg hk];rfl) (Mu.put_same _ _ _)
 obtain ⟨y,hz⟩:=(by first|exact collapse y0|exact collapse1 y0:∃ z,y0.to=Grow.to z)
 obtain rfl:=hy.trans hz
 clear hy hz y0
 clear hc
 go_wp2
 rw [rounds_succ]
 go_wp2
 refine wp_region_mild (by kernel_rfl) (by kernel_rfl) (by kernel_rfl) ?_
 repeat ((first|(refine wpM_skip rfl ?_)|(apply wpM_plain rfl rfl;(focus (go_simp;first|done|with_reducible rfl)))|(refine wpM_alloc rfl rfl (by first|exact zNum|exact zWide) ?_;intro n hn hf;(try have hne:=put_ne hf))|(apply wpM_row rfl rfl rfl;(focus (go_simp;first|done|with_reducible rfl));(focus (first|(with_reducible exact cur_same _ _)|(rw [cur_put _ _ _ _ _ hne];exact cur_same _ _)|(rw [cur_put _ _ _ _ _ hne.symm];exact cur_same _ _)|(apply cur_old;(repeat' (first|(with_reducible exact nw)|(with_reducible exact nw1)|(with_reducible exact nw2)|(with_reducible exact nw3)|(with_reducible exact nw4)|(with_reducible exact nw5)|(with_reducible assumption)|(with_reducible apply ho)|(with_reducible apply hdr)|(with_reducible apply Grow.heap)|(with_reducible apply hrow)|(with_reducible apply hset)|(with_reducible apply hrow_other)|(with_reducible apply hset_other)|(go_simp;done)|omega)))));(focus kernel_rfl);(focus rfl);(focus (simp [Value.oneCell'];done));(focus (first|(intro _;omega)|(exact notFresh (by kernel_rfl)))))|(apply wpM_cell rfl rfl rfl;(focus (go_simp;first|done|with_reducible rfl));(focus (first|(with_reducible exact cur_same _ _)|(rw [cur_put _ _ _ _ _ hne];exact cur_same _ _)|(rw [cur_put _ _ _ _ _ hne.symm];exact cur_same _ _)|(apply cur_old;(repeat' (first|(with_reducible exact nw)|(with_reducible exact nw1)|(with_reducible exact nw2)|(with_reducible exact nw3)|(with_reducible exact nw4)|(with_reducible exact nw5)|(with_reducible assumption)|(with_reducible apply ho)|(with_reducible apply hdr)|(with_reducible apply Grow.heap)|(with_reducible apply hrow)|(with_reducible apply hset)|(with_reducible apply hrow_other)|(with_reducible apply hset_other)|(go_simp;done)|omega)))));(focus kernel_rfl);(focus rfl);(focus (first|(simp;done)|(simp;omega)));(focus (first|(intro _;omega)|(exact notFresh (by kernel_rfl)))))|(apply wpM_mild rfl rfl;(focus (intro x;go_simp;(try go_ints);first|done|(with_reducible rfl)|(with_reducible exact C11.out _)))));(try simp only [Act.put,List.setIfInBounds_toArray,List.set_cons_zero,List.set_cons_succ]))
 refine wpM_nil ?_
 intro w' hc
 obtain ⟨y0,hy⟩:=convS hc (by (repeat' (first|(with_reducible exact nw)|(with_reducible exact nw1)|(with_reducible exact nw2)|(with_reducible exact nw3)|(with_reducible exact nw4)|(with_reducible exact nw5)|(with_reducible assumption)|(with_reducible apply ho)|(with_reducible apply hdr)|(with_reducible apply Grow.heap)|(with_reducible apply hrow)|(with_reducible apply hset)|(with_reducible apply hrow_other)|(with_reducible apply hset_other)|(go_simp;done)|omega))) (fun k hk=>by rw [Mu.put_f,if_neg hk];rfl) (Mu.put_same _ _ _)
 obtain ⟨y,hz⟩:=(by first|exact collapse y0|exact collapse1 y0:∃ z,y0.to=Grow.to z)
 obtain rfl:=hy.trans hz
 clear hy hz y0
 clear hc
 go_wp2
 rw [rounds_succ]
 go_wp2
 refine wp_region_mild (by kernel_rfl) (by kernel_rfl) (by kernel_rfl) ?_
 repeat ((first|(refine wpM_skip rfl ?_)|(apply wpM_plain rfl rfl;(focus (go_simp;first|done|with_reducible rfl)))|(refine wpM_alloc rfl rfl (by first|exact zNum|exact zWide) ?_;intro n hn hf;(try have hne:=put_ne hf))|(apply wpM_row rfl rfl rfl;(focus (go_simp;first|done|with_reducible rfl));(focus (first|(with_reducible exact cur_same _ _)|(rw [cur_put _ _ _ _ _ hne];exact cur_same _ _)|(rw [cur_put _ _ _ _ _ hne.symm];exact cur_same _ _)|(apply cur_old;(repeat' (first|(with_reducible exact nw)|(with_reducible exact nw1)|(with_reducible exact nw2)|(with_reducible exact nw3)|(with_reducible exact nw4)|(with_reducible exact nw5)|(with_reducible assumption)|(with_reducible apply ho)|(with_reducible apply hdr)|(with_reducible apply Grow.heap)|(with_reducible apply hrow)|(with_reducible apply hset)|(with_reducible apply hrow_other)|(with_reducible apply hset_other)|(go_simp;done)|omega)))));(focus kernel_rfl);(focus rfl);(focus (simp [Value.oneCell'];done));(focus (first|(intro _;omega)|(exact notFresh (by kernel_rfl)))))|(apply wpM_cell rfl rfl rfl;(focus (go_simp;first|done|with_reducible rfl));(focus (first|(with_reducible exact cur_same _ _)|(rw [cur_put _ _ _ _ _ hne];exact cur_same _ _)|(rw [cur_put _ _ _ _ _ hne.symm];exact cur_same _ _)|(apply cur_old;(repeat' (first|(with_reducible exact nw)|(with_reducible exact nw1)|(with_reducible exact nw2)|(with_reducible exact nw3)|(with_reducible exact nw4)|(with_reducible exact nw5)|(with_reducible assumption)|(with_reducible apply ho)|(with_reducible apply hdr)|(with_reducible apply Grow.heap)|(with_reducible apply hrow)|(with_reducible apply hset)|(with_reducible apply hrow_other)|(with_reducible apply hset_other)|(go_simp;done)|omega)))));(focus kernel_rfl);(focus rfl);(focus (first|(simp;done)|(simp;omega)));(focus (first|(intro _;omega)|(exact notFresh (by kernel_rfl)))))|(apply wpM_mild rfl rfl;(focus (intro x;go_simp;(try go_ints);first|done|(with_reducible rfl)|(with_reducible exact C12.out _)))));(try simp only [Act.put,List.setIfInBounds_toArray,List.set_cons_zero,List.set_cons_succ]))
 refine wpM_nil ?_
 intro w' hc
 obtain ⟨y0,hy⟩:=convS hc (by (repeat' (first|(with_reducible exact nw)|(with_reducible exact nw1)|(with_reducible exact nw2)|(with_reducible exact nw3)|(with_reducible exact nw4)|(with_reducible exact nw5)|(with_reducible assumption)|(with_reducible apply ho)|(with_reducible apply hdr)|(with_reducible apply Grow.heap)|(with_reducible apply hrow)|(with_reducible apply hset)|(with_reducible apply hrow_other)|(with_reducible apply hset_other)|(go_simp;done)|omega))) (fun k hk=>by rw [Mu.put_f,if_neg hk];rfl) (Mu.put_same _ _ _)
 obtain ⟨y,hz⟩:=(by first|exact collapse y0|exact collapse1 y0:∃ z,y0.to=Grow.to z)
 obtain rfl:=hy.trans hz
 clear hy hz y0
 clear hc
 go_wp2
 rw [rounds_succ]
 go_wp2
 refine wp_region_mild (by kernel_rfl) (by kernel_rfl) (by kernel_rfl) ?_
 repeat ((first|(refine wpM_skip rfl ?_)|(apply wpM_plain rfl rfl;(focus (go_simp;first|done|with_reducible rfl)))|(refine wpM_alloc rfl rfl (by first|exact zNum|exact zWide) ?_;intro n hn hf;(try have hne:=put_ne hf))|(apply wpM_row rfl rfl rfl;(focus (go_simp;first|done|with_reducible rfl));(focus (first|(with_reducible exact cur_same _ _)|(rw [cur_put _ _ _ _ _ hne];exact cur_same _ _)|(rw [cur_put _ _ _ _ _ hne.symm];exact cur_same _ _)|(apply cur_old;(repeat' (first|(with_reducible exact nw)|(with_reducible exact nw1)|(with_reducible exact nw2)|(with_reducible exact nw3)|(with_reducible exact nw4)|(with_reducible exact nw5)|(with_reducible assumption)|(with_reducible apply ho)|(with_reducible apply hdr)|(with_reducible apply Grow.heap)|(with_reducible apply hrow)|(with_reducible apply hset)|(with_reducible apply hrow_other)|(with_reducible apply hset_other)|(go_simp;done)|omega)))));(focus kernel_rfl);(focus rfl);(focus (simp [Value.oneCell'];done));(focus (first|(intro _;omega)|(exact notFresh (by kernel_rfl)))))|(apply wpM_cell rfl rfl rfl;(focus (go_simp;first|done|with_reducible rfl));(focus (first|(with_reducible exact cur_same _ _)|(rw [cur_put _ _ _ _ _ hne];exact cur_same _ _)|(rw [cur_put _ _ _ _ _ hne.symm];exact cur_same _ _)|(apply cur_old;(repeat' (first|(with_reducible exact nw)|(with_reducible exact nw1)|(with_reducible exact nw2)|(with_reducible exact nw3)|(with_reducible exact nw4)|(with_reducible exact nw5)|(with_reducible assumption)|(with_reducible apply ho)|(with_reducible apply hdr)|(with_reducible apply Grow.heap)|(with_reducible apply hrow)|(with_reducible apply hset)|(with_reducible apply hrow_other)|(with_reducible apply hset_other)|(go_simp;done)|omega)))));(focus kernel_rfl);(focus rfl);(focus (first|(simp;done)|(simp;omega)));(focus (first|(intro _;omega)|(exact notFresh (by kernel_rfl)))))|(apply wpM_mild rfl rfl;(focus (intro x;go_simp;(try go_ints);first|done|(with_reducible rfl)|(with_reducible exact C13.out _)))));(try simp only [Act.put,List.setIfInBounds_toArray,List.set_cons_zero,List.set_cons_succ]))
 refine wpM_nil ?_
 intro w' hc
 obtain ⟨y0,hy⟩:=convS hc (by (repeat' (first|(with_reducible exact nw)|(with_reducible exact nw1)|(with_reducible exact nw2)|(with_reducible exact nw3)|(with_reducible exact nw4)|(with_reducible exact nw5)|(with_reducible assumption)|(with_reducible apply ho)|(with_reducible apply hdr)|(with_reducible apply Grow.heap)|(with_reducible apply hrow)|(with_reducible apply hset)|(with_reducible apply hrow_other)|(with_reducible apply hset_other)|(go_simp;done)|omega))) (fun k hk=>by rw [Mu.put_f,if_neg hk];rfl) (Mu.put_same _ _ _)
 obtain ⟨y,hz⟩:=(by first|exact collapse y0|exact collapse1 y0:∃ z,y0.to=Grow.to z)
 obtain rfl:=hy.trans hz
 clear hy hz y0
 clear hc
 go_wp2
 rw [rounds_succ]
 go_wp2
 rw [rounds_succ]
 go_wp2
 refine wp_loop_rounds 5 ?_
 rw [rounds_succ]
 go_wp2
 refine wp_region_mild (by kernel_rfl) (by kernel_rfl) (by kernel_rfl) ?_
 repeat ((first|(refine wpM_skip rfl ?_)|(apply wpM_plain rfl rfl;(focus (go_simp;first|done|with_reducible rfl)))|(refine wpM_alloc rfl rfl (by first|exact zNum|exact zWide) ?_;intro n hn hf;(try have hne:=put_ne hf))|(apply wpM_row rfl rfl rfl;(focus (go_simp;first|done|with_reducible rfl));(focus (first|(with_reducible exact cur_same _ _)|(rw [cur_put _ _ _ _ _ hne];exact cur_same _ _)|(rw [cur_put _ _ _ _ _ hne.symm];exact cur_same _ _)|(apply cur_old;(repeat' (first|(with_reducible exact nw)|(with_reducible exact nw1)|(with_reducible exact nw2)|(with_reducible exact nw3)|(with_reducible exact nw4)|(with_reducible exact nw5)|(with_reducible assumption)|(with_reducible apply ho)|(with_reducible apply hdr)|(with_reducible apply Grow.heap)|(with_reducible apply hrow)|(with_reducible apply hset)|(with_reducible apply hrow_other)|(with_reducible apply hset_other)|(go_simp;done)|omega)))));(focus kernel_rfl);(focus rfl);(focus (simp [Value.oneCell'];done));(focus (first|(intro _;omega)|(exact notFresh (by kernel_rfl)))))|(apply wpM_cell rfl rfl rfl;(focus (go_simp;first|done|with_reducible rfl));(focus (first|(with_reducible exact cur_same _ _)|(rw [cur_put _ _ _ _ _ hne];exact cur_same _ _)|(rw [cur_put _ _ _ _ _ hne.symm];exact cur_same _ _)|(apply cur_old;(repeat' (first|(with_reducible exact nw)|(with_reducible exact nw1)|(with_reducible exact nw2)|(with_reducible exact nw3)|(with_reducible exact nw4)|(with_reducible exact nw5)|(with_reducible assumption)|(with_reducible apply ho)|(with_reducible apply hdr)|(with_reducible apply Grow.heap)|(with_reducible apply hrow)|(with_reducible apply hset)|(with_reducible apply hrow_other)|(with_reducible apply hset_other)|(go_simp;done)|omega)))));(focus kernel_rfl);(focus rfl);(focus (first|(simp;done)|(simp;omega)));(focus (first|(intro _;omega)|(exact notFresh (by kernel_rfl)))))|(apply wpM_mild rfl rfl;(focus (intro x;go_simp;(try go_ints);first|done|(with_reducible rfl)|(with_reducible exact C20.out _)))));(try simp only [Act.put,List.setIfInBounds_toArray,List.set_cons_zero,List.set_cons_succ]))
 refine wpM_nil ?_
 intro w' hc
 obtain ⟨y0,hy⟩:=convS hc (by (repeat' (first|(with_reducible exact nw)|(with_reducible exact nw1)|(with_reducible exact nw2)|(with_reducible exact nw3)|(with_reducible exact nw4)|(with_reducible exact nw5)|(with_reducible assumption)|(with_reducible apply ho)|(with_reducible apply hdr)|(with_reducible apply Grow.heap)|(with_reducible apply hrow)|(with_reducible apply hset)|(with_reducible apply hrow_other)|(with_reducible apply hset_other)|(go_simp;done)|omega))) (fun k hk=>by rw [Mu.put_f,if_neg hk];rfl) (Mu.put_same _ _ _)
 obtain ⟨y,hz⟩:=(by first|exact collapse y0|exact collapse1 y0:∃ z,y0.to=Grow.to z)
 obtain rfl:=hy.trans hz
 clear hy hz y0
 clear hc
 go_wp2
 rw [rounds_succ]
 go_wp2
 refine wp_region_mild (by kernel_rfl) (by kernel_rfl) (by kernel_rfl) ?_
 repeat ((first|(refine wpM_skip rfl ?_)|(apply wpM_plain rfl rfl;(focus (go_simp;first|done|with_reducible rfl)))|(refine wpM_alloc rfl rfl (by first|exact zNum|exact zWide) ?_;intro n hn hf;(try have hne:=put_ne hf))|(apply wpM_row rfl rfl rfl;(focus (go_simp;first|done|with_reducible rfl));(focus (first|(with_reducible exact cur_same _ _)|(rw [cur_put _ _ _ _ _ hne];exact cur_same _ _)|(rw [cur_put _ _ _ _ _ hne.symm];exact cur_same _ _)|(apply cur_old;(repeat' (first|(with_reducible exact nw)|(with_reducible exact nw1)|(with_reducible exact nw2)|(with_reducible exact nw3)|(with_reducible exact nw4)|(with_reducible exact nw5)|(with_reducible assumption)|(with_reducible apply ho)|(with_reducible apply hdr)|(with_reducible apply Grow.heap)|(with_reducible apply hrow)|(with_reducible apply hset)|(with_reducible apply hrow_other)|(with_reducible apply hset_other)|(go_simp;done)|omega)))));(focus kernel_rfl);(focus rfl);(focus (simp [Value.oneCell'];done));(focus (first|(intro _;omega)|(exact notFresh (by kernel_rfl)))))|(apply wpM_cell rfl rfl rfl;(focus (go_simp;first|done|with_reducible rfl));(focus (first|(with_reducible exact cur_same _ _)|(rw [cur_put _ _ _ _ _ hne];exact cur_same _ _)|(rw [cur_put _ _ _ _ _ hne.symm];exact cur_same _ _)|(apply cur_old;(repeat' (first|(with_reducible exact nw)|(with_reducible exact nw1)|(with_reducible exact nw2)|(with_reducible exact nw3)|(with_reducible exact nw4)|(with_reducible exact nw5)|(with_reducible assumption)|(with_reducible apply ho)|(with_reducible apply hdr)|(with_reducible apply Grow.heap)|(with_reducible apply hrow)|(with_reducible apply hset)|(with_reducible apply hrow_other)|(with_reducible apply hset_other)|(go_simp;done)|omega)))));(focus kernel_rfl);(focus rfl);(focus (first|(simp;done)|(simp;omega)));(focus (first|(intro _;omega)|(exact notFresh (by kernel_rfl)))))|(apply wpM_mild rfl rfl;(focus (intro x;go_simp;(try go_ints);first|done|(with_reducible rfl)|(with_reducible exact C21.out _)))));(try simp only [Act.put,List.setIfInBounds_toArray,List.set_cons_zero,List.set_cons_succ]))
 refine wpM_nil ?_
 intro w' hc
 obtain ⟨y0,hy⟩:=convS hc (by (repeat' (first|(with_reducible exact nw)|(with_reducible exact nw1)|(with_reducible exact nw2)|(with_reducible exact nw3)|(with_reducible exact nw4)|(with_reducible exact nw5)|(with_reducible assumption)|(with_reducible apply ho)|(with_reducible apply hdr)|(with_reducible apply Grow.heap)|(with_reducible apply hrow)|(with_reducible apply hset)|(with_reducible apply hrow_other)|(with_reducible apply hset_other)|(go_simp;done)|omega))) (fun k hk=>by rw [Mu.put_f,if_neg hk];rfl) (Mu.put_same _ _ _)
 obtain ⟨y,hz⟩:=(by first|exact collapse y0|exact collapse1 y0:∃ z,y0.to=Grow.to z)
 obtain rfl:=hy.trans hz
 clear hy hz y0
 clear hc
 go_wp2
 rw [rounds_succ]
 go_wp2
 refine wp_region_mild (by kernel_rfl) (by kernel_rfl) (by kernel_rfl) ?_
 repeat ((first|(refine wpM_skip rfl ?_)|(apply wpM_plain rfl rfl;(focus (go_simp;first|done|with_reducible rfl)))|(refine wpM_alloc rfl rfl (by first|exact zNum|exact zWide) ?_;intro n hn hf;(try have hne:=put_ne hf))|(apply wpM_row rfl rfl rfl;(focus (go_simp;first|done|with_reducible rfl));(focus (first|(with_reducible exact cur_same _ _)|(rw [cur_put _ _ _ _ _ hne];exact cur_same _ _)|(rw [cur_put _ _ _ _ _ hne.symm];exact cur_same _ _)|(apply cur_old;(repeat' (first|(with_reducible exact nw)|(with_reducible exact nw1)|(with_reducible exact nw2)|(with_reducible exact nw3)|(with_reducible exact nw4)|(with_reducible exact nw5)|(with_reducible assumption)|(with_reducible apply ho)|(with_reducible apply hdr)|(with_reducible apply Grow.heap)|(with_reducible apply hrow)|(with_reducible apply hset)|(with_reducible apply hrow_other)|(with_reducible apply hset_other)|(go_simp;done)|omega)))));(focus kernel_rfl);(focus rfl);(focus (simp [Value.oneCell'];done));(focus (first|(intro _;omega)|(exact notFresh (by kernel_rfl)))))|(apply wpM_cell rfl rfl rfl;(focus (go_simp;first|done|with_reducible rfl));(focus (first|(with_reducible exact cur_same _ _)|(rw [cur_put _ _ _ _ _ hne];exact cur_same _ _)|(rw [cur_put _ _ _ _ _ hne.symm];exact cur_same _ _)|(apply cur_old;(repeat' (first|(with_reducible exact nw)|(with_reducible exact nw1)|(with_reducible exact nw2)|(with_reducible exact nw3)|(with_reducible exact nw4)|(with_reducible exact nw5)|(with_reducible assumption)|(with_reducible apply ho)|(with_reducible apply hdr)|(with_reducible apply Grow.heap)|(with_reducible apply hrow)|(with_reducible apply hset)|(with_reducible apply hrow_other)|(with_reducible apply hset_other)|(go_simp;done)|omega)))));(focus kernel_rfl);(focus rfl);(focus (first|(simp;done)|(simp;omega)));(focus (first|(intro _;omega)|(exact notFresh (by kernel_rfl)))))|(apply wpM_mild rfl rfl;(focus (intro x;go_simp;(try go_ints);first|done|(with_reducible rfl)|(with_reducible exact C22.out _)))));(try simp only [Act.put,List.setIfInBounds_toArray,List.set_cons_zero,List.set_cons_succ]))
 refine wpM_nil ?_
 intro w' hc
 obtain ⟨y0,hy⟩:=convS hc (by (repeat' (first|(with_reducible exact nw)|(with_reducible exact nw1)|(with_reducible exact nw2)|(with_reducible exact nw3)|(with_reducible exact nw4)|(with_reducible exact nw5)|(with_reducible assumption)|(with_reducible apply ho)|(with_reducible apply hdr)|(with_reducible apply Grow.heap)|(with_reducible apply hrow)|(with_reducible apply hset)|(with_reducible apply hrow_other)|(with_reducible apply hset_other)|(go_simp;done)|omega))) (fun k hk=>by rw [Mu.put_f,if_neg hk];rfl) (Mu.put_same _ _ _)
 obtain ⟨y,hz⟩:=(by first|exact collapse y0|exact collapse1 y0:∃ z,y0.to=Grow.to z)
 obtain rfl:=hy.trans hz
 clear hy hz y0
 clear hc
 go_wp2
 rw [rounds_succ]
 go_wp2
 refine wp_region_mild (by kernel_rfl) (by kernel_rfl) (by kernel_rfl) ?_
 repeat ((first|(refine wpM_skip rfl ?_)|(apply wpM_plain rfl rfl;(focus (go_simp;first|done|with_reducible rfl)))|(refine wpM_alloc rfl rfl (by first|exact zNum|exact zWide) ?_;intro n hn hf;(try have hne:=put_ne hf))|(apply wpM_row rfl rfl rfl;(focus (go_simp;first|done|with_reducible rfl));(focus (first|(with_reducible exact cur_same _ _)|(rw [cur_put _ _ _ _ _ hne];exact cur_same _ _)|(rw [cur_put _ _ _ _ _ hne.symm];exact cur_same _ _)|(apply cur_old;(repeat' (first|(with_reducible exact nw)|(with_reducible exact nw1)|(with_reducible exact nw2)|(with_reducible exact nw3)|(with_reducible exact nw4)|(with_reducible exact nw5)|(with_reducible assumption)|(with_reducible apply ho)|(with_reducible apply hdr)|(with_reducible apply Grow.heap)|(with_reducible apply hrow)|(with_reducible apply hset)|(with_reducible apply hrow_other)|(with_reducible apply hset_other)|(go_simp;done)|omega)))));(focus kernel_rfl);(focus rfl);(focus (simp [Value.oneCell'];done));(focus (first|(intro _;omega)|(exact notFresh (by kernel_rfl)))))|(apply wpM_cell rfl rfl rfl;(focus (go_simp;first|done|with_reducible rfl));(focus (first|(with_reducible exact cur_same _ _)|(rw [cur_put _ _ _ _ _ hne];exact cur_same _ _)|(rw [cur_put _ _ _ _ _ hne.symm];exact cur_same _ _)|(apply cur_old;(repeat' (first|(with_reducible exact nw)|(with_reducible exact nw1)|(with_reducible exact nw2)|(with_reducible exact nw3)|(with_reducible exact nw4)|(with_reducible exact nw5)|(with_reducible assumption)|(with_reducible apply ho)|(with_reducible apply hdr)|(with_reducible apply Grow.heap)|(with_reducible apply hrow)|(with_reducible apply hset)|(with_reducible apply hrow_other)|(with_reducible apply hset_other)|(go_simp;done)|omega)))));(focus kernel_rfl);(focus rfl);(focus (first|(simp;done)|(simp;omega)));(focus (first|(intro _;omega)|(exact notFresh (by kernel_rfl)))))|(apply wpM_mild rfl rfl;(focus (intro x;go_simp;(try go_ints);first|done|(with_reducible rfl)|(with_reducible exact C23.out _)))));(try simp only [Act.put,List.setIfInBounds_toArray,List.set_cons_zero,List.set_cons_succ]))
 refine wpM_nil ?_
 intro w' hc
 obtain ⟨y0,hy⟩:=convS hc (by (repeat' (first|(with_reducible exact nw)|(with_reducible exact nw1)|(with_reducible exact nw2)|(with_reducible exact nw3)|(with_reducible exact nw4)|(with_reducible exact nw5)|(with_reducible assumption)|(with_reducible apply ho)|(with_reducible apply hdr)|(with_reducible apply Grow.heap)|(with_reducible apply hrow)|(with_reducible apply hset)|(with_reducible apply hrow_other)|(with_reducible apply hset_other)|(go_simp;done)|omega))) (fun k hk=>by rw [Mu.put_f,if_neg hk];rfl) (Mu.put_same _ _ _)
 obtain ⟨y,hz⟩:=(by first|exact collapse y0|exact collapse1 y0:∃ z,y0.to=Grow.to z)
 obtain rfl:=hy.trans hz
 clear hy hz y0
 clear hc
 go_wp2
 rw [rounds_succ]
 go_wp2
 rw [rounds_succ]
 go_wp2
 refine wp_loop_rounds 5 ?_
 rw [rounds_succ]
 go_wp2
 refine wp_region_mild (by kernel_rfl) (by kernel_rfl) (by kernel_rfl) ?_
 repeat ((first|(refine wpM_skip rfl ?_)|(apply wpM_plain rfl rfl;(focus (go_simp;first|done|with_reducible rfl)))|(refine wpM_alloc rfl rfl (by first|exact zNum|exact zWide) ?_;intro n hn hf;(try have hne:=put_ne hf))|(apply wpM_row rfl rfl rfl;(focus (go_simp;first|done|with_reducible rfl));(focus (first|(with_reducible exact cur_same _ _)|(rw [cur_put _ _ _ _ _ hne];exact cur_same _ _)|(rw [cur_put _ _ _ _ _ hne.symm];exact cur_same _ _)|(apply cur_old;(repeat' (first|(with_reducible exact nw)|(with_reducible exact nw1)|(with_reducible exact nw2)|(with_reducible exact nw3)|(with_reducible exact nw4)|(with_reducible exact nw5)|(with_reducible assumption)|(with_reducible apply ho)|(with_reducible apply hdr)|(with_reducible apply Grow.heap)|(with_reducible apply hrow)|(with_reducible apply hset)|(with_reducible apply hrow_other)|(with_reducible apply hset_other)|(go_simp;done)|omega)))));(focus kernel_rfl);(focus rfl);(focus (simp [Value.oneCell'];done));(focus (first|(intro _;omega)|(exact notFresh (by kernel_rfl)))))|(apply wpM_cell rfl rfl rfl;(focus (go_simp;first|done|with_reducible rfl));(focus (first|(with_reducible exact cur_same _ _)|(rw [cur_put _ _ _ _ _ hne];exact cur_same _ _)|(rw [cur_put _ _ _ _ _ hne.symm];exact cur_same _ _)|(apply cur_old;(repeat' (first|(with_reducible exact nw)|(with_reducible exact nw1)|(with_reducible exact nw2)|(with_reducible exact nw3)|(with_reducible exact nw4)|(with_reducible exact nw5)|(with_reducible assumption)|(with_reducible apply ho)|(with_reducible apply hdr)|(with_reducible apply Grow.heap)|(with_reducible apply hrow)|(with_reducible apply hset)|(with_reducible apply hrow_other)|(with_reducible apply hset_other)|(go_simp;done)|omega)))));(focus kernel_rfl);(focus rfl);(focus (first|(simp;done)|(simp;omega)));(focus (first|(intro _;omega)|(exact notFresh (by kernel_rfl)))))|(apply wpM_mild rfl rfl;(focus (intro x;go_simp;(try go_ints);first|done|(with_reducible rfl)|(with_reducible exact C30.out _)))));(try simp only [Act.put,List.setIfInBounds_toArray,List.set_cons_zero,List.set_cons_succ]))
 refine wpM_nil ?_
 intro w' hc
 obtain ⟨y0,hy⟩:=convS hc (by (repeat' (first|(with_reducible exact nw)|(with_reducible exact nw1)|(with_reducible exact nw2)|(with_reducible exact nw3)|(with_reducible exact nw4)|(with_reducible exact nw5)|(with_reducible assumption)|(with_reducible apply ho)|(with_reducible apply hdr)|(with_reducible apply Grow.heap)|(with_reducible apply hrow)|(with_reducible apply hset)|(with_reducible apply hrow_other)|(with_reducible apply hset_other)|(go_simp;done)|omega))) (fun k hk=>by rw [Mu.put_f,if_neg hk];rfl) (Mu.put_same _ _ _)
 obtain ⟨y,hz⟩:=(by first|exact collapse y0|exact collapse1 y0:∃ z,y0.to=Grow.to z)
 obtain rfl:=hy.trans hz
 clear hy hz y0
 clear hc
 go_wp2
 rw [rounds_succ]
 go_wp2
 refine wp_region_mild (by kernel_rfl) (by kernel_rfl) (by kernel_rfl) ?_
 repeat ((first|(refine wpM_skip rfl ?_)|(apply wpM_plain rfl rfl;(focus (go_simp;first|done|with_reducible rfl)))|(refine wpM_alloc rfl rfl (by first|exact zNum|exact zWide) ?_;intro n hn hf;(try have hne:=put_ne hf))|(apply wpM_row rfl rfl rfl;(focus (go_simp;first|done|with_reducible rfl));(focus (first|(with_reducible exact cur_same _ _)|(rw [cur_put _ _ _ _ _ hne];exact cur_same _ _)|(rw [cur_put _ _ _ _ _ hne.symm];exact cur_same _ _)|(apply cur_old;(repeat' (first|(with_reducible exact nw)|(with_reducible exact nw1)|(with_reducible exact nw2)|(with_reducible exact nw3)|(with_reducible exact nw4)|(with_reducible exact nw5)|(with_reducible assumption)|(with_reducible apply ho)|(with_reducible apply hdr)|(with_reducible apply Grow.heap)|(with_reducible apply hrow)|(with_reducible apply hset)|(with_reducible apply hrow_other)|(with_reducible apply hset_other)|(go_simp;done)|omega)))));(focus kernel_rfl);(focus rfl);(focus (simp [Value.oneCell'];done));(focus (first|(intro _;omega)|(exact notFresh (by kernel_rfl)))))|(apply wpM_cell rfl rfl rfl;(focus (go_simp;first|done|with_reducible rfl));(focus (first|(with_reducible exact cur_same _ _)|(rw [cur_put _ _ _ _ _ hne];exact cur_same _ _)|(rw [cur_put _ _ _ _ _ hne.symm];exact cur_same _ _)|(apply cur_old;(repeat' (first|(with_reducible exact nw)|(with_reducible exact nw1)|(with_reducible exact nw2)|(with_reducible exact nw3)|(with_reducible exact nw4)|(with_reducible exact nw5)|(with_reducible assumption)|(with_reducible apply ho)|(with_reducible apply hdr)|(with_reducible apply Grow.heap)|(with_reducible apply hrow)|(with_reducible apply hset)|(with_reducible apply hrow_other)|(with_reducible apply hset_other)|(go_simp;done)|omega)))));(focus kernel_rfl);(focus rfl);(focus (first|(simp;done)|(simp;omega)));(focus (first|(intro _;omega)|(exact notFresh (by kernel_rfl)))))|(apply wpM_mild rfl rfl;(focus (intro x;go_simp;(try go_ints);first|done|(with_reducible rfl)|(with_reducible exact C31.out _)))));(try simp only [Act.put,List.setIfInBounds_toArray,List.set_cons_zero,List.set_cons_succ]))
 refine wpM_nil ?_
 intro w' hc
 obtain ⟨y0,hy⟩:=convS hc (by (repeat' (first|(with_reducible exact nw)|(with_reducible exact nw1)|(with_reducible exact nw2)|(with_reducible exact nw3)|(with_reducible exact nw4)|(with_reducible exact nw5)|(with_reducible assumption)|(with_reducible apply ho)|(with_reducible apply hdr)|(with_reducible apply Grow.heap)|(with_reducible apply hrow)|(with_reducible apply hset)|(with_reducible apply hrow_other)|(with_reducible apply hset_other)|(go_simp;done)|omega))) (fun k hk=>by rw [Mu.put_f,if_neg hk];rfl) (Mu.put_same _ _ _)
 obtain ⟨y,hz⟩:=(by first|exact collapse y0|exact collapse1 y0:∃ z,y0.to=Grow.to z)
 obtain rfl:=hy.trans hz
 clear hy hz y0
 clear hc
 go_wp2
 rw [rounds_succ]
 go_wp2
 refine wp_region_mild (by kernel_rfl) (by kernel_rfl) (by kernel_rfl) ?_
 repeat ((first|(refine wpM_skip rfl ?_)|(apply wpM_plain rfl rfl;(focus (go_simp;first|done|with_reducible rfl)))|(refine wpM_alloc rfl rfl (by first|exact zNum|exact zWide) ?_;intro n hn hf;(try have hne:=put_ne hf))|(apply wpM_row rfl rfl rfl;(focus (go_simp;first|done|with_reducible rfl));(focus (first|(with_reducible exact cur_same _ _)|(rw [cur_put _ _ _ _ _ hne];exact cur_same _ _)|(rw [cur_put _ _ _ _ _ hne.symm];exact cur_same _ _)|(apply cur_old;(repeat' (first|(with_reducible exact nw)|(with_reducible exact nw1)|(with_reducible exact nw2)|(with_reducible exact nw3)|(with_reducible exact nw4)|(with_reducible exact nw5)|(with_reducible assumption)|(with_reducible apply ho)|(with_reducible apply hdr)|(with_reducible apply Grow.heap)|(with_reducible apply hrow)|(with_reducible apply hset)|(with_reducible apply hrow_other)|(with_reducible apply hset_other)|(go_simp;done)|omega)))));(focus kernel_rfl);(focus rfl);(focus (simp [Value.oneCell'];done));(focus (first|(intro _;omega)|(exact notFresh (by kernel_rfl)))))|(apply wpM_cell rfl rfl rfl;(focus (go_simp;first|done|with_reducible rfl));(focus (first|(with_reducible exact cur_same _ _)|(rw [cur_put _ _ _ _ _ hne];exact cur_same _ _)|(rw [cur_put _ _ _ _ _ hne.symm];exact cur_same _ _)|(apply cur_old;(repeat' (first|(with_reducible exact nw)|(with_reducible exact nw1)|(with_reducible exact nw2)|(with_reducible exact nw3)|(with_reducible exact nw4)|(with_reducible exact nw5)|(with_reducible assumption)|(with_reducible apply ho)|(with_reducible apply hdr)|(with_reducible apply Grow.heap)|(with_reducible apply hrow)|(with_reducible apply hset)|(with_reducible apply hrow_other)|(with_reducible apply hset_other)|(go_simp;done)|omega)))));(focus kernel_rfl);(focus rfl);(focus (first|(simp;done)|(simp;omega)));(focus (first|(intro _;omega)|(exact notFresh (by kernel_rfl)))))|(apply wpM_mild rfl rfl;(focus (intro x;go_simp;(try go_ints);first|done|(with_reducible rfl)|(with_reducible exact C32.out _)))));(try simp only [Act.put,List.setIfInBounds_toArray,List.set_cons_zero,List.set_cons_succ]))
 refine wpM_nil ?_
 intro w' hc
 obtain ⟨y0,hy⟩:=convS hc (by (repeat' (first|(with_reducible exact nw)|(with_reducible exact nw1)|(with_reducible exact nw2)|(with_reducible exact nw3)|(with_reducible exact nw4)|(with_reducible exact nw5)|(with_reducible assumption)|(with_reducible apply ho)|(with_reducible apply hdr)|(with_reducible apply Grow.heap)|(with_reducible apply hrow)|(with_reducible apply hset)|(with_reducible apply hrow_other)|(with_reducible apply hset_other)|(go_simp;done)|omega))) (fun k hk=>by rw [Mu.put_f,if_neg hk];rfl) (Mu.put_same _ _ _)
 obtain ⟨y,hz⟩:=(by first|exact collapse y0|exact collapse1 y0:∃ z,y0.to=Grow.to z)
 obtain rfl:=hy.trans hz
 clear hy hz y0
 clear hc
 go_wp2
 rw [rounds_succ]
 go_wp2
 refine wp_region_mild (by kernel_rfl) (by kernel_rfl) (by kernel_rfl) ?_
 repeat ((first|(refine wpM_skip rfl ?_)|(apply wpM_plain rfl rfl;(focus (go_simp;first|done|with_reducible rfl)))|(refine wpM_alloc rfl rfl (by first|exact zNum|exact zWide) ?_;intro n hn hf;(try have hne:=put_ne hf))|(apply wpM_row rfl rfl rfl;(focus (go_simp;first|done|with_reducible rfl));(focus (first|(with_reducible exact cur_same _ _)|(rw [cur_put _ _ _ _ _ hne];exact cur_same _ _)|(rw [cur_put _ _ _ _ _ hne.symm];exact cur_same _ _)|(apply cur_old;(repeat' (first|(with_reducible exact nw)|(with_reducible exact nw1)|(with_reducible exact nw2)|(with_reducible exact nw3)|(with_reducible exact nw4)|(with_reducible exact nw5)|(with_reducible assumption)|(with_reducible apply ho)|(with_reducible apply hdr)|(with_reducible apply Grow.heap)|(with_reducible apply hrow)|(with_reducible apply hset)|(with_reducible apply hrow_other)|(with_reducible apply hset_other)|(go_simp;done)|omega)))));(focus kernel_rfl);(focus rfl);(focus (simp [Value.oneCell'];done));(focus (first|(intro _;omega)|(exact notFresh (by kernel_rfl)))))|(apply wpM_cell rfl rfl rfl;(focus (go_simp;first|done|with_reducible rfl));(focus (first|(with_reducible exact cur_same _ _)|(rw [cur_put _ _ _ _ _ hne];exact cur_same _ _)|(rw [cur_put _ _ _ _ _ hne.symm];exact cur_same _ _)|(apply cur_old;(repeat' (first|(with_reducible exact nw)|(with_reducible exact nw1)|(with_reducible exact nw2)|(with_reducible exact nw3)|(with_reducible exact nw4)|(with_reducible exact nw5)|(with_reducible assumption)|(with_reducible apply ho)|(with_reducible apply hdr)|(with_reducible apply Grow.heap)|(with_reducible apply hrow)|(with_reducible apply hset)|(with_reducible apply hrow_other)|(with_reducible apply hset_other)|(go_simp;done)|omega)))));(focus kernel_rfl);(focus rfl);(focus (first|(simp;done)|(simp;omega)));(focus (first|(intro _;omega)|(exact notFresh (by kernel_rfl)))))|(apply wpM_mild rfl rfl;(focus (intro x;go_simp;(try go_ints);first|done|(with_reducible rfl)|(with_reducible exact C33.out _)))));(try simp only [Act.put,List.setIfInBounds_toArray,List.set_cons_zero,List.set_cons_succ]))
 refine wpM_nil ?_
 intro w' hc
 obtain ⟨y0,hy⟩:=convS hc (by (repeat' (first|(with_reducible exact nw)|(with_reducible exact nw1)|(with_reducible exact nw2)|(with_reducible exact nw3)|(with_reducible exact nw4)|(with_reducible exact nw5)|(with_reducible assumption)|(with_reducible apply ho)|(with_reducible apply hdr)|(with_reducible apply Grow.heap)|(with_reducible apply hrow)|(with_reducible apply hset)|(with_reducible apply hrow_other)|(with_reducible apply hset_other)|(go_simp;done)|omega))) (fun k hk=>by rw [Mu.put_f,if_neg hk];rfl) (Mu.put_same _ _ _)
 obtain ⟨y,hz⟩:=(by first|exact collapse y0|exact collapse1 y0:∃ z,y0.to=Grow.to z)
 obtain rfl:=hy.trans hz
 clear hy hz y0
 clear hc
 go_wp2
 rw [rounds_succ]
 go_wp2
 rw [rounds_succ]
 go_wp2
 go_returns
 refine ⟨rfl,?_⟩
 repeat' (first|(with_reducible exact Below.refl _ _)|(with_reducible assumption)|(with_reducible refine up_alloc ?_ _)|(with_reducible refine up ?_ _)|(with_reducible refine up_drew ?_)|(with_reducible refine up_row ?_ ?_ _)|(with_reducible refine up_set ?_ ?_ _)|((try dsimp only);first|omega|exact le_size|exact le_size1|exact le_size2|exact le_size3))
theorem mul_all (a b:Nat)(ha:a<T256)(hb:b<T256)(w:World):Calls Tryz.prog 58 #[num a,num b] w (Ret (wide (a * b)) w):=by
 obtain ⟨a0,a1,a2,a3,k0,k1,k2,k3,rfl⟩:=four_of a ha
 obtain ⟨b0,b1,b2,b3,l0,l1,l2,l3,rfl⟩:=four_of b hb
 have k:=limb_four a0 a1 a2 a3 k0 k1 k2 k3
 have l:=limb_four b0 b1 b2 b3 l0 l1 l2 l3
 obtain ⟨x0,x1,x2,x3,x4,x5,x6,x7,e,h0,h1,h2,h3,h4,h5,h6,h7,C⟩:=mul_words a0 a1 a2 a3 b0 b1 b2 b3 k0 k1 k2 k3 l0 l1 l2 l3
 have m:=limb_four x0 x1 x2 x3 h0 h1 h2 h3
 have n:=limb_four x4 x5 x6 x7 h4 h5 h6 h7
 have q:=limb_two (four x0 x1 x2 x3) (four x4 x5 x6 x7) (four_lt _ _ _ _ h0 h1 h2 h3)
 rw [e]
 simp only [num,wide,k.1,k.2.1,k.2.2.1,k.2.2.2,l.1,l.2.1,l.2.2.1,l.2.2.2,q.1,q.2.1,q.2.2.1,q.2.2.2.1,q.2.2.2.2.1,q.2.2.2.2.2.1,q.2.2.2.2.2.2.1,q.2.2.2.2.2.2.2,m.1,m.2.1,m.2.2.1,m.2.2.2,n.1,n.2.1,n.2.2.1,n.2.2.2]
 exact C w
end Go.Proofs.YtkendlnjaopbeaaGreatDoor
