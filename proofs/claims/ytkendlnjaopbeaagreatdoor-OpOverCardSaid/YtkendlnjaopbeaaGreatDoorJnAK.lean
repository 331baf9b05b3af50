/- What Add,Sub,Mul and equality of numbers answer. The walks of limb.Bit,Pick,Len and math/bits.Len64 (the last turned from the shelf's). The walks of limb.Shift. Bits of numbers,in plain terms: what Bit,Pick,Len and Shift answer. What Shift,Bit and Len answer. The walks of limb.Low,High,Wide,Cmp,Pick,and of plus,wide,limbs. What is wide. One step of a long division,plainly. -/
import Derived.Test.YtkendlnjaopbeaaGreatDoorJnAJ
import Derived.Test.YtkendlnjaopbeaaGreatDoorMul
import Derived.Lib.Strings
import Derived.Lib.Slices
import Derived.Lib.Small
import Derived.Lib.Walk
import Derived.Lib.BitFns
import Derived.Laws.Bits64
import Derived.Laws.Bits64b
import Derived.Test.YtkendlnjaopbeaaGreatDoorJnAA
namespace Go.Proofs.YtkendlnjaopbeaaGreatDoor
open Go.RowKit
set_option linter.unusedVariables false
theorem add_nu (a b:Nat)(ha:a<T256)(hb:b<T256)(w:World):Calls Tryz.prog 61 #[nu a,nu b] w (Ret (.tuple #[nu ((a+b) % T256),.int .u64 (((a+b) / T256:Nat):Int)]) w):=by
 rw [←nu_num,←nu_num,←nu_num];exact add_num a b ha hb w
theorem sub_nu (a b:Nat)(ha:a<T256)(hb:b<T256)(w:World):Calls Tryz.prog 63 #[nu a,nu b] w (Ret (.tuple #[nu ((a+T256 - b) % T256),.int .u64 (((if a<b then 1 else 0:Nat)):Int)]) w):=by
 rw [←nu_num,←nu_num,←nu_num,show ((if a<b then 1 else 0:Nat):Int)=if a<b then 1 else 0 by split <;> rfl];exact sub_num a b ha hb w
theorem mul_nu (a b:Nat)(ha:a<T256)(hb:b<T256)(w:World):Calls Tryz.prog 58 #[nu a,nu b] w (Ret (wi (a * b)) w):=by
 rw [←nu_num,←nu_num,←wi_wide];exact mul_all a b ha hb w
theorem eq_nu (a b:Nat)(ha:a<T256)(hb:b<T256)(w:World):(Op.equalIn 10000 46 (nu a) (nu b)).run Tryz.prog w=.ok (decide (a=b)) w:=by
 rw [←nu_num,←nu_num];exact eql_num a b ha hb w
theorem eqNu {x y:Nat}{r:Bool}(h:decide (x=y)=r)(hx:x<T256)(hy:y<T256)(w:World):(Op.equalIn 10000 46 (nu x) (nu y)).run Tryz.prog w=.ok r w:=by
 rw [eq_nu x y hx hy,h]
end Go.Proofs.YtkendlnjaopbeaaGreatDoor
namespace Go.Proofs.YtkendlnjaopbeaaGreatDoor
open Go.RowKit
set_option linter.unusedVariables false
set_option maxHeartbeats 400000 in
set_option maxRecDepth 100000 in
theorem len64_0 (x:Int)(h0:0≤x)(h1:x<256)(w:World):Calls Tryz.prog 69 #[.int .u64 x] w (Ret (.int .i64 (Lib.bitLen x.toNat)) w):=by
 have y1:x≤255:=by omega
 have hl:=Lib.len8_of (x) (by omega) (by omega)
 have l:=Lib.bitLen_le8' (x) (by omega) (by omega)
 have hr:Lib.bitLen x.toNat≤64:=by omega
 have fin:(Lib.bitLen x.toNat:Int)=Lib.len8 x:=by omega
 have b0:0≤Lib.len8 (x):=by omega
 have b1:Lib.len8 (x)≤8:=by omega
 rw [fin]
 clear fin hl l hr
 go_enter Tryz.func69,Tryz.ntmps69
 go_wp2
 go_ret
 refine ⟨?_,Below.refl _ _⟩
 first|rfl|(refine congrArg Ending.returned (congrArg (Value.int IntKind.i64) ?_);omega)
set_option maxHeartbeats 400000 in
set_option maxRecDepth 100000 in
theorem len64_1 (x:Int)(h0:256≤x)(h1:x<65536)(w:World):Calls Tryz.prog 69 #[.int .u64 x] w (Ret (.int .i64 (Lib.bitLen x.toNat)) w):=by
 have y0:0≤x / 256:=by omega
 have y1:x / 256≤255:=by omega
 have hl:=Lib.len8_of (x / 256) (by omega) (by omega)
 have l:=Lib.bitLen_le8' (x / 256) (by omega) (by omega)
 have s:=Lib.bitLen_shift8 x.toNat (by omega) (by omega)
 have e:(x / 256).toNat=x.toNat / 256:=by omega
 rw [e] at hl l
 have hr:Lib.bitLen x.toNat≤64:=by omega
 have fin:(Lib.bitLen x.toNat:Int)=8+Lib.len8 (x / 256):=by omega
 have b0:0≤Lib.len8 (x / 256):=by omega
 have b1:Lib.len8 (x / 256)≤8:=by omega
 rw [fin]
 clear fin hl l hr s e
 go_enter Tryz.func69,Tryz.ntmps69
 go_wp2
 go_ret
 refine ⟨?_,Below.refl _ _⟩
 first|rfl|(refine congrArg Ending.returned (congrArg (Value.int IntKind.i64) ?_);omega)
set_option maxHeartbeats 400000 in
set_option maxRecDepth 100000 in
theorem len64_2 (x:Int)(h0:65536≤x)(h1:x<16777216)(w:World):Calls Tryz.prog 69 #[.int .u64 x] w (Ret (.int .i64 (Lib.bitLen x.toNat)) w):=by
 have y0:0≤x / 65536:=by omega
 have y1:x / 65536≤255:=by omega
 have hl:=Lib.len8_of (x / 65536) (by omega) (by omega)
 have l:=Lib.bitLen_le8' (x / 65536) (by omega) (by omega)
 have s:=Lib.bitLen_shift16 x.toNat (by omega) (by omega)
 have e:(x / 65536).toNat=x.toNat / 65536:=by omega
 rw [e] at hl l
 have hr:Lib.bitLen x.toNat≤64:=by omega
 have fin:(Lib.bitLen x.toNat:Int)=16+Lib.len8 (x / 65536):=by omega
 have b0:0≤Lib.len8 (x / 65536):=by omega
 have b1:Lib.len8 (x / 65536)≤8:=by omega
 rw [fin]
 clear fin hl l hr s e
 go_enter Tryz.func69,Tryz.ntmps69
 go_wp2
 go_ret
 refine ⟨?_,Below.refl _ _⟩
 first|rfl|(refine congrArg Ending.returned (congrArg (Value.int IntKind.i64) ?_);omega)
set_option maxHeartbeats 400000 in
set_option maxRecDepth 100000 in
theorem len64_3 (x:Int)(h0:16777216≤x)(h1:x<4294967296)(w:World):Calls Tryz.prog 69 #[.int .u64 x] w (Ret (.int .i64 (Lib.bitLen x.toNat)) w):=by
 have y0:0≤x / 65536 / 256:=by omega
 have y1:x / 65536 / 256≤255:=by omega
 have hl:=Lib.len8_of (x / 65536 / 256) (by omega) (by omega)
 have l:=Lib.bitLen_le8' (x / 65536 / 256) (by omega) (by omega)
 have s:=Lib.bitLen_shift24 x.toNat (by omega) (by omega)
 have e:(x / 65536 / 256).toNat=x.toNat / 16777216:=by omega
 rw [e] at hl l
 have hr:Lib.bitLen x.toNat≤64:=by omega
 have fin:(Lib.bitLen x.toNat:Int)=24+Lib.len8 (x / 65536 / 256):=by omega
 have b0:0≤Lib.len8 (x / 65536 / 256):=by omega
 have b1:Lib.len8 (x / 65536 / 256)≤8:=by omega
 rw [fin]
 clear fin hl l hr s e
 go_enter Tryz.func69,Tryz.ntmps69
 go_wp2
 go_ret
 refine ⟨?_,Below.refl _ _⟩
 first|rfl|(refine congrArg Ending.returned (congrArg (Value.int IntKind.i64) ?_);omega)
set_option maxHeartbeats 400000 in
set_option maxRecDepth 100000 in
theorem len64_4 (x:Int)(h0:4294967296≤x)(h1:x<1099511627776)(w:World):Calls Tryz.prog 69 #[.int .u64 x] w (Ret (.int .i64 (Lib.bitLen x.toNat)) w):=by
 have y0:0≤x / 4294967296:=by omega
 have y1:x / 4294967296≤255:=by omega
 have hl:=Lib.len8_of (x / 4294967296) (by omega) (by omega)
 have l:=Lib.bitLen_le8' (x / 4294967296) (by omega) (by omega)
 have s:=Lib.bitLen_shift32 x.toNat (by omega) (by omega)
 have e:(x / 4294967296).toNat=x.toNat / 4294967296:=by omega
 rw [e] at hl l
 have hr:Lib.bitLen x.toNat≤64:=by omega
 have fin:(Lib.bitLen x.toNat:Int)=32+Lib.len8 (x / 4294967296):=by omega
 have b0:0≤Lib.len8 (x / 4294967296):=by omega
 have b1:Lib.len8 (x / 4294967296)≤8:=by omega
 rw [fin]
 clear fin hl l hr s e
 go_enter Tryz.func69,Tryz.ntmps69
 go_wp2
 go_ret
 refine ⟨?_,Below.refl _ _⟩
 first|rfl|(refine congrArg Ending.returned (congrArg (Value.int IntKind.i64) ?_);omega)
set_option maxHeartbeats 400000 in
set_option maxRecDepth 100000 in
theorem len64_5 (x:Int)(h0:1099511627776≤x)(h1:x<281474976710656)(w:World):Calls Tryz.prog 69 #[.int .u64 x] w (Ret (.int .i64 (Lib.bitLen x.toNat)) w):=by
 have y0:0≤x / 4294967296 / 256:=by omega
 have y1:x / 4294967296 / 256≤255:=by omega
 have hl:=Lib.len8_of (x / 4294967296 / 256) (by omega) (by omega)
 have l:=Lib.bitLen_le8' (x / 4294967296 / 256) (by omega) (by omega)
 have s:=Lib.bitLen_shift40 x.toNat (by omega) (by omega)
 have e:(x / 4294967296 / 256).toNat=x.toNat / 1099511627776:=by omega
 rw [e] at hl l
 have hr:Lib.bitLen x.toNat≤64:=by omega
 have fin:(Lib.bitLen x.toNat:Int)=40+Lib.len8 (x / 4294967296 / 256):=by omega
 have b0:0≤Lib.len8 (x / 4294967296 / 256):=by omega
 have b1:Lib.len8 (x / 4294967296 / 256)≤8:=by omega
 rw [fin]
 clear fin hl l hr s e
 go_enter Tryz.func69,Tryz.ntmps69
 go_wp2
 go_ret
 refine ⟨?_,Below.refl _ _⟩
 first|rfl|(refine congrArg Ending.returned (congrArg (Value.int IntKind.i64) ?_);omega)
set_option maxHeartbeats 400000 in
set_option maxRecDepth 100000 in
theorem len64_6 (x:Int)(h0:281474976710656≤x)(h1:x<72057594037927936)(w:World):Calls Tryz.prog 69 #[.int .u64 x] w (Ret (.int .i64 (Lib.bitLen x.toNat)) w):=by
 have y0:0≤x / 4294967296 / 65536:=by omega
 have y1:x / 4294967296 / 65536≤255:=by omega
 have hl:=Lib.len8_of (x / 4294967296 / 65536) (by omega) (by omega)
 have l:=Lib.bitLen_le8' (x / 4294967296 / 65536) (by omega) (by omega)
 have s:=Lib.bitLen_shift48 x.toNat (by omega) (by omega)
 have e:(x / 4294967296 / 65536).toNat=x.toNat / 281474976710656:=by omega
 rw [e] at hl l
 have hr:Lib.bitLen x.toNat≤64:=by omega
 have fin:(Lib.bitLen x.toNat:Int)=48+Lib.len8 (x / 4294967296 / 65536):=by omega
 have b0:0≤Lib.len8 (x / 4294967296 / 65536):=by omega
 have b1:Lib.len8 (x / 4294967296 / 65536)≤8:=by omega
 rw [fin]
 clear fin hl l hr s e
 go_enter Tryz.func69,Tryz.ntmps69
 go_wp2
 go_ret
 refine ⟨?_,Below.refl _ _⟩
 first|rfl|(refine congrArg Ending.returned (congrArg (Value.int IntKind.i64) ?_);omega)
set_option maxHeartbeats 400000 in
set_option maxRecDepth 100000 in
theorem len64_7 (x:Int)(h0:72057594037927936≤x)(h1:x<18446744073709551616)(w:World):Calls Tryz.prog 69 #[.int .u64 x] w (Ret (.int .i64 (Lib.bitLen x.toNat)) w):=by
 have y0:0≤x / 4294967296 / 65536 / 256:=by omega
 have y1:x / 4294967296 / 65536 / 256≤255:=by omega
 have hl:=Lib.len8_of (x / 4294967296 / 65536 / 256) (by omega) (by omega)
 have l:=Lib.bitLen_le8' (x / 4294967296 / 65536 / 256) (by omega) (by omega)
 have s:=Lib.bitLen_shift56 x.toNat (by omega) (by omega)
 have e:(x / 4294967296 / 65536 / 256).toNat=x.toNat / 72057594037927936:=by omega
 rw [e] at hl l
 have hr:Lib.bitLen x.toNat≤64:=by omega
 have fin:(Lib.bitLen x.toNat:Int)=56+Lib.len8 (x / 4294967296 / 65536 / 256):=by omega
 have b0:0≤Lib.len8 (x / 4294967296 / 65536 / 256):=by omega
 have b1:Lib.len8 (x / 4294967296 / 65536 / 256)≤8:=by omega
 rw [fin]
 clear fin hl l hr s e
 go_enter Tryz.func69,Tryz.ntmps69
 go_wp2
 go_ret
 refine ⟨?_,Below.refl _ _⟩
 first|rfl|(refine congrArg Ending.returned (congrArg (Value.int IntKind.i64) ?_);omega)
theorem len64 (x:Int)(h0:0≤x)(h1:x≤18446744073709551615)(w:World):Calls Tryz.prog 69 #[.int .u64 x] w (Ret (.int .i64 (Lib.bitLen x.toNat)) w):=by
 by_cases c0:x<256
 ·exact len64_0 x (by omega) c0 w
 by_cases c1:x<65536
 ·exact len64_1 x (by omega) c1 w
 by_cases c2:x<16777216
 ·exact len64_2 x (by omega) c2 w
 by_cases c3:x<4294967296
 ·exact len64_3 x (by omega) c3 w
 by_cases c4:x<1099511627776
 ·exact len64_4 x (by omega) c4 w
 by_cases c5:x<281474976710656
 ·exact len64_5 x (by omega) c5 w
 by_cases c6:x<72057594037927936
 ·exact len64_6 x (by omega) c6 w
 exact len64_7 x (by omega) (by omega) w
set_option maxHeartbeats 400000 in
theorem bit_w0 (a0 a1 a2 a3:Int)(i k:Int)(h0:0≤i)(h1:i≤255)(hq:i / 64=0)(hr:i % 64=k)(k0:0≤k)(k1:k<64)(w:World) :
  Calls Tryz.prog 53 #[.agg #[.int .u64 a0,.int .u64 a1,.int .u64 a2,.int .u64 a3],.int .i64 i] w (Ret (.int .u64 (bits .and .u64 (a0 / 2 ^ k.toNat) 1)) w):=by
 have n1:¬i<0:=by omega
 have n2:¬255<i:=by omega
 go_enter Tryz.func53,Tryz.ntmps53
 go_wp2
 go_returns
 refine ⟨rfl,?_⟩
 repeat' (first|(with_reducible exact Below.refl _ _)|(with_reducible assumption)|(with_reducible refine up_alloc ?_ _)|(with_reducible refine up ?_ _)|(with_reducible refine up_drew ?_)|(with_reducible refine up_row ?_ ?_ _)|(with_reducible refine up_set ?_ ?_ _)|((try dsimp only);first|omega|exact le_size|exact le_size1|exact le_size2|exact le_size3))
set_option maxHeartbeats 400000 in
theorem bit_w1 (a0 a1 a2 a3:Int)(i k:Int)(h0:0≤i)(h1:i≤255)(hq:i / 64=1)(hr:i % 64=k)(k0:0≤k)(k1:k<64)(w:World) :
  Calls Tryz.prog 53 #[.agg #[.int .u64 a0,.int .u64 a1,.int .u64 a2,.int .u64 a3],.int .i64 i] w (Ret (.int .u64 (bits .and .u64 (a1 / 2 ^ k.toNat) 1)) w):=by
 have n1:¬i<0:=by omega
 have n2:¬255<i:=by omega
 go_enter Tryz.func53,Tryz.ntmps53
 go_wp2
 go_returns
 refine ⟨rfl,?_⟩
 repeat' (first|(with_reducible exact Below.refl _ _)|(with_reducible assumption)|(with_reducible refine up_alloc ?_ _)|(with_reducible refine up ?_ _)|(with_reducible refine up_drew ?_)|(with_reducible refine up_row ?_ ?_ _)|(with_reducible refine up_set ?_ ?_ _)|((try dsimp only);first|omega|exact le_size|exact le_size1|exact le_size2|exact le_size3))
set_option maxHeartbeats 400000 in
theorem bit_w2 (a0 a1 a2 a3:Int)(i k:Int)(h0:0≤i)(h1:i≤255)(hq:i / 64=2)(hr:i % 64=k)(k0:0≤k)(k1:k<64)(w:World) :
  Calls Tryz.prog 53 #[.agg #[.int .u64 a0,.int .u64 a1,.int .u64 a2,.int .u64 a3],.int .i64 i] w (Ret (.int .u64 (bits .and .u64 (a2 / 2 ^ k.toNat) 1)) w):=by
 have n1:¬i<0:=by omega
 have n2:¬255<i:=by omega
 go_enter Tryz.func53,Tryz.ntmps53
 go_wp2
 go_returns
 refine ⟨rfl,?_⟩
 repeat' (first|(with_reducible exact Below.refl _ _)|(with_reducible assumption)|(with_reducible refine up_alloc ?_ _)|(with_reducible refine up ?_ _)|(with_reducible refine up_drew ?_)|(with_reducible refine up_row ?_ ?_ _)|(with_reducible refine up_set ?_ ?_ _)|((try dsimp only);first|omega|exact le_size|exact le_size1|exact le_size2|exact le_size3))
set_option maxHeartbeats 400000 in
theorem bit_w3 (a0 a1 a2 a3:Int)(i k:Int)(h0:0≤i)(h1:i≤255)(hq:i / 64=3)(hr:i % 64=k)(k0:0≤k)(k1:k<64)(w:World) :
  Calls Tryz.prog 53 #[.agg #[.int .u64 a0,.int .u64 a1,.int .u64 a2,.int .u64 a3],.int .i64 i] w (Ret (.int .u64 (bits .and .u64 (a3 / 2 ^ k.toNat) 1)) w):=by
 have n1:¬i<0:=by omega
 have n2:¬255<i:=by omega
 go_enter Tryz.func53,Tryz.ntmps53
 go_wp2
 go_returns
 refine ⟨rfl,?_⟩
 repeat' (first|(with_reducible exact Below.refl _ _)|(with_reducible assumption)|(with_reducible refine up_alloc ?_ _)|(with_reducible refine up ?_ _)|(with_reducible refine up_drew ?_)|(with_reducible refine up_row ?_ ?_ _)|(with_reducible refine up_set ?_ ?_ _)|((try dsimp only);first|omega|exact le_size|exact le_size1|exact le_size2|exact le_size3))
set_option maxHeartbeats 400000 in
theorem len_3 (a0 a1 a2 a3 n:Int)(h:(a3 != 0)=true)(C:∀ w,Calls Tryz.prog 69 #[.int .u64 a3] w (Ret (.int .i64 n) w))(n0:0≤n)(n1:n≤64)(w:World):Calls Tryz.prog 51 #[.agg #[.int .u64 a0,.int .u64 a1,.int .u64 a2,.int .u64 a3]] w (Ret (.int .i64 (192+n)) w):=by
 replace C:=Lib.hid C
 go_enter Tryz.func51,Tryz.ntmps51
 go_wp2
 refine wp_loop_rounds 5 ?_
 rw [rounds_succ]
 go_wp2_with (first|(go_at_call 69;with_reducible refine (grow (C.out _)).mono ?_;rintro _ _ ⟨x1,rfl,rfl⟩))
 go_returns
 refine ⟨rfl,?_⟩
 repeat' (first|(with_reducible exact Below.refl _ _)|(with_reducible assumption)|(with_reducible refine up_alloc ?_ _)|(with_reducible refine up ?_ _)|(with_reducible refine up_drew ?_)|(with_reducible refine up_row ?_ ?_ _)|(with_reducible refine up_set ?_ ?_ _)|((try dsimp only);first|omega|exact le_size|exact le_size1|exact le_size2|exact le_size3))
set_option maxHeartbeats 400000 in
theorem len_2 (a0 a1 a2 a3 n:Int)(z3:(a3 != 0)=false)(h:(a2 != 0)=true)(C:∀ w,Calls Tryz.prog 69 #[.int .u64 a2] w (Ret (.int .i64 n) w))(n0:0≤n)(n1:n≤64)(w:World):Calls Tryz.prog 51 #[.agg #[.int .u64 a0,.int .u64 a1,.int .u64 a2,.int .u64 a3]] w (Ret (.int .i64 (128+n)) w):=by
 replace C:=Lib.hid C
 go_enter Tryz.func51,Tryz.ntmps51
 go_wp2
 refine wp_loop_rounds 5 ?_
 rw [rounds_succ]
 go_wp2
 rw [rounds_succ]
 go_wp2_with (first|(go_at_call 69;with_reducible refine (grow (C.out _)).mono ?_;rintro _ _ ⟨x1,rfl,rfl⟩))
 go_returns
 refine ⟨rfl,?_⟩
 repeat' (first|(with_reducible exact Below.refl _ _)|(with_reducible assumption)|(with_reducible refine up_alloc ?_ _)|(with_reducible refine up ?_ _)|(with_reducible refine up_drew ?_)|(with_reducible refine up_row ?_ ?_ _)|(with_reducible refine up_set ?_ ?_ _)|((try dsimp only);first|omega|exact le_size|exact le_size1|exact le_size2|exact le_size3))
set_option maxHeartbeats 400000 in
theorem len_1 (a0 a1 a2 a3 n:Int)(z3:(a3 != 0)=false)(z2:(a2 != 0)=false)(h:(a1 != 0)=true)(C:∀ w,Calls Tryz.prog 69 #[.int .u64 a1] w (Ret (.int .i64 n) w))(n0:0≤n)(n1:n≤64)(w:World):Calls Tryz.prog 51 #[.agg #[.int .u64 a0,.int .u64 a1,.int .u64 a2,.int .u64 a3]] w (Ret (.int .i64 (64+n)) w):=by
 replace C:=Lib.hid C
 go_enter Tryz.func51,Tryz.ntmps51
 go_wp2
 refine wp_loop_rounds 5 ?_
 rw [rounds_succ]
 go_wp2
 rw [rounds_succ]
 go_wp2
 rw [rounds_succ]
 go_wp2_with (first|(go_at_call 69;with_reducible refine (grow (C.out _)).mono ?_;rintro _ _ ⟨x1,rfl,rfl⟩))
 go_returns
 refine ⟨rfl,?_⟩
 repeat' (first|(with_reducible exact Below.refl _ _)|(with_reducible assumption)|(with_reducible refine up_alloc ?_ _)|(with_reducible refine up ?_ _)|(with_reducible refine up_drew ?_)|(with_reducible refine up_row ?_ ?_ _)|(with_reducible refine up_set ?_ ?_ _)|((try dsimp only);first|omega|exact le_size|exact le_size1|exact le_size2|exact le_size3))
set_option maxHeartbeats 400000 in
theorem len_0 (a0 a1 a2 a3 n:Int)(z3:(a3 != 0)=false)(z2:(a2 != 0)=false)(z1:(a1 != 0)=false)(h:(a0 != 0)=true)(C:∀ w,Calls Tryz.prog 69 #[.int .u64 a0] w (Ret (.int .i64 n) w))(n0:0≤n)(n1:n≤64)(w:World):Calls Tryz.prog 51 #[.agg #[.int .u64 a0,.int .u64 a1,.int .u64 a2,.int .u64 a3]] w (Ret (.int .i64 (0+n)) w):=by
 replace C:=Lib.hid C
 go_enter Tryz.func51,Tryz.ntmps51
 go_wp2
 refine wp_loop_rounds 5 ?_
 rw [rounds_succ]
 go_wp2
 rw [rounds_succ]
 go_wp2
 rw [rounds_succ]
 go_wp2
 rw [rounds_succ]
 go_wp2_with (first|(go_at_call 69;with_reducible refine (grow (C.out _)).mono ?_;rintro _ _ ⟨x1,rfl,rfl⟩))
 simp only [Int.zero_add]
 go_returns
 refine ⟨rfl,?_⟩
 repeat' (first|(with_reducible exact Below.refl _ _)|(with_reducible assumption)|(with_reducible refine up_alloc ?_ _)|(with_reducible refine up ?_ _)|(with_reducible refine up_drew ?_)|(with_reducible refine up_row ?_ ?_ _)|(with_reducible refine up_set ?_ ?_ _)|((try dsimp only);first|omega|exact le_size|exact le_size1|exact le_size2|exact le_size3))
set_option maxHeartbeats 400000 in
theorem len_no (a0 a1 a2 a3 n:Int)(z3:(a3 != 0)=false)(z2:(a2 != 0)=false)(z1:(a1 != 0)=false)(z0:(a0 != 0)=false)(w:World):Calls Tryz.prog 51 #[.agg #[.int .u64 a0,.int .u64 a1,.int .u64 a2,.int .u64 a3]] w (Ret (.int .i64 0) w):=by
 go_enter Tryz.func51,Tryz.ntmps51
 go_wp2
 refine wp_loop_rounds 5 ?_
 rw [rounds_succ]
 go_wp2
 rw [rounds_succ]
 go_wp2
 rw [rounds_succ]
 go_wp2
 rw [rounds_succ]
 go_wp2
 rw [rounds_succ]
 go_wp2
 go_returns
 refine ⟨rfl,?_⟩
 repeat' (first|(with_reducible exact Below.refl _ _)|(with_reducible assumption)|(with_reducible refine up_alloc ?_ _)|(with_reducible refine up ?_ _)|(with_reducible refine up_drew ?_)|(with_reducible refine up_row ?_ ?_ _)|(with_reducible refine up_set ?_ ?_ _)|((try dsimp only);first|omega|exact le_size|exact le_size1|exact le_size2|exact le_size3))
end Go.Proofs.YtkendlnjaopbeaaGreatDoor
namespace Go.Proofs.YtkendlnjaopbeaaGreatDoor
open Go.RowKit
set_option linter.unusedVariables false
set_option maxHeartbeats 1000000 in
theorem shl_w0 (a0 a1 a2 a3:Int)(n k:Int)(h0:0≤n)(h1:n≤255)(hq:n / 64=0)(hr:n % 64=k)(k0:0≤k)(k1:k<64)(w:World) :
  Calls Tryz.prog 62 #[.agg #[.int .u64 a0,.int .u64 a1,.int .u64 a2,.int .u64 a3],.int .i64 n] w (Ret (.agg #[.int .u64 (IntKind.u64.wrap (a0 * 2 ^ k.toNat)),.int .u64 (bits .or .u64 (IntKind.u64.wrap (a1 * 2 ^ k.toNat)) (a0 / 2 ^ (64 - k).toNat)),.int .u64 (bits .or .u64 (IntKind.u64.wrap (a2 * 2 ^ k.toNat)) (a1 / 2 ^ (64 - k).toNat)),.int .u64 (bits .or .u64 (IntKind.u64.wrap (a3 * 2 ^ k.toNat)) (a2 / 2 ^ (64 - k).toNat))]) w):=by
 have n1:¬255<n:=by omega
 have n2:¬n < -255:=by omega
 go_enter Tryz.func62,Tryz.ntmps62
 go_wp2
 refine wp_loop_rounds 5 ?_
 rw [rounds_succ]
 go_wp2
 rw [rounds_succ]
 go_wp2
 go_region
 go_wp2
 rw [rounds_succ]
 go_wp2
 go_region
 go_wp2
 rw [rounds_succ]
 go_wp2
 go_region
 go_wp2
 rw [rounds_succ]
 go_wp2
 go_returns
 refine ⟨rfl,?_⟩
 repeat' (first|(with_reducible exact Below.refl _ _)|(with_reducible assumption)|(with_reducible refine up_alloc ?_ _)|(with_reducible refine up ?_ _)|(with_reducible refine up_drew ?_)|(with_reducible refine up_row ?_ ?_ _)|(with_reducible refine up_set ?_ ?_ _)|((try dsimp only);first|omega|exact le_size|exact le_size1|exact le_size2|exact le_size3))
set_option maxHeartbeats 1000000 in
theorem shl_w1 (a0 a1 a2 a3:Int)(n k:Int)(h0:0≤n)(h1:n≤255)(hq:n / 64=1)(hr:n % 64=k)(k0:0≤k)(k1:k<64)(w:World) :
  Calls Tryz.prog 62 #[.agg #[.int .u64 a0,.int .u64 a1,.int .u64 a2,.int .u64 a3],.int .i64 n] w (Ret (.agg #[.int .u64 (0),.int .u64 (IntKind.u64.wrap (a0 * 2 ^ k.toNat)),.int .u64 (bits .or .u64 (IntKind.u64.wrap (a1 * 2 ^ k.toNat)) (a0 / 2 ^ (64 - k).toNat)),.int .u64 (bits .or .u64 (IntKind.u64.wrap (a2 * 2 ^ k.toNat)) (a1 / 2 ^ (64 - k).toNat))]) w):=by
 have n1:¬255<n:=by omega
 have n2:¬n < -255:=by omega
 go_enter Tryz.func62,Tryz.ntmps62
 go_wp2
 refine wp_loop_rounds 5 ?_
 rw [rounds_succ]
 go_wp2
 rw [rounds_succ]
 go_wp2
 go_region
 go_wp2
 rw [rounds_succ]
 go_wp2
 go_region
 go_wp2
 rw [rounds_succ]
 go_wp2
 go_returns
 refine ⟨rfl,?_⟩
 repeat' (first|(with_reducible exact Below.refl _ _)|(with_reducible assumption)|(with_reducible refine up_alloc ?_ _)|(with_reducible refine up ?_ _)|(with_reducible refine up_drew ?_)|(with_reducible refine up_row ?_ ?_ _)|(with_reducible refine up_set ?_ ?_ _)|((try dsimp only);first|omega|exact le_size|exact le_size1|exact le_size2|exact le_size3))
set_option maxHeartbeats 1000000 in
theorem shl_w2 (a0 a1 a2 a3:Int)(n k:Int)(h0:0≤n)(h1:n≤255)(hq:n / 64=2)(hr:n % 64=k)(k0:0≤k)(k1:k<64)(w:World) :
  Calls Tryz.prog 62 #[.agg #[.int .u64 a0,.int .u64 a1,.int .u64 a2,.int .u64 a3],.int .i64 n] w (Ret (.agg #[.int .u64 (0),.int .u64 (0),.int .u64 (IntKind.u64.wrap (a0 * 2 ^ k.toNat)),.int .u64 (bits .or .u64 (IntKind.u64.wrap (a1 * 2 ^ k.toNat)) (a0 / 2 ^ (64 - k).toNat))]) w):=by
 have n1:¬255<n:=by omega
 have n2:¬n < -255:=by omega
 go_enter Tryz.func62,Tryz.ntmps62
 go_wp2
 refine wp_loop_rounds 5 ?_
 rw [rounds_succ]
 go_wp2
 rw [rounds_succ]
 go_wp2
 go_region
 go_wp2
 rw [rounds_succ]
 go_wp2
 go_returns
 refine ⟨rfl,?_⟩
 repeat' (first|(with_reducible exact Below.refl _ _)|(with_reducible assumption)|(with_reducible refine up_alloc ?_ _)|(with_reducible refine up ?_ _)|(with_reducible refine up_drew ?_)|(with_reducible refine up_row ?_ ?_ _)|(with_reducible refine up_set ?_ ?_ _)|((try dsimp only);first|omega|exact le_size|exact le_size1|exact le_size2|exact le_size3))
set_option maxHeartbeats 1000000 in
theorem shl_w3 (a0 a1 a2 a3:Int)(n k:Int)(h0:0≤n)(h1:n≤255)(hq:n / 64=3)(hr:n % 64=k)(k0:0≤k)(k1:k<64)(w:World) :
  Calls Tryz.prog 62 #[.agg #[.int .u64 a0,.int .u64 a1,.int .u64 a2,.int .u64 a3],.int .i64 n] w (Ret (.agg #[.int .u64 (0),.int .u64 (0),.int .u64 (0),.int .u64 (IntKind.u64.wrap (a0 * 2 ^ k.toNat))]) w):=by
 have n1:¬255<n:=by omega
 have n2:¬n < -255:=by omega
 go_enter Tryz.func62,Tryz.ntmps62
 go_wp2
 refine wp_loop_rounds 5 ?_
 rw [rounds_succ]
 go_wp2
 rw [rounds_succ]
 go_wp2
 go_returns
 refine ⟨rfl,?_⟩
 repeat' (first|(with_reducible exact Below.refl _ _)|(with_reducible assumption)|(with_reducible refine up_alloc ?_ _)|(with_reducible refine up ?_ _)|(with_reducible refine up_drew ?_)|(with_reducible refine up_row ?_ ?_ _)|(with_reducible refine up_set ?_ ?_ _)|((try dsimp only);first|omega|exact le_size|exact le_size1|exact le_size2|exact le_size3))
end Go.Proofs.YtkendlnjaopbeaaGreatDoor
namespace Go.Proofs.YtkendlnjaopbeaaGreatDoor
open Go.RowKit
set_option linter.unusedVariables false
set_option linter.unusedSimpArgs false
theorem lw_shl0 (a q k i:Nat)(hk:k<64)(hi:i<4)(h:i<q):lw (a * 2 ^ (64 * q+k) % T256) i=0:=by
 apply Nat.eq_of_testBit_eq;intro j
 rw [lw_bit,T256_eq,Nat.testBit_mod_two_pow,Nat.testBit_mul_two_pow,Nat.zero_testBit]
 by_cases hj:j<64
 ·rw [decide_eq_false (by omega:¬64 * i+j≥64 * q+k)];simp
 ·simp [hj]
theorem lw_shl1 (a q k i:Nat)(hk:k<64)(hi:i<4)(h:i=q):lw (a * 2 ^ (64 * q+k) % T256) i=lw a 0 * 2 ^ k % 2 ^ 64:=by
 apply Nat.eq_of_testBit_eq;intro j
 rw [lw_bit,T256_eq,Nat.testBit_mod_two_pow,Nat.testBit_mul_two_pow,Nat.testBit_mod_two_pow,Nat.testBit_mul_two_pow,lw_bit]
 subst h
 by_cases hj:j<64
 ·by_cases hk':k≤j
  ·rw [show 64 * i+j - (64 * i+k)=j - k by omega,decide_eq_true (by omega:64 * i+j<256),decide_eq_true (by omega:64 * i+j≥64 * i+k),decide_eq_true (by omega:j≥k),decide_eq_true (by omega:j - k<64)]
   simp
  ·rw [decide_eq_false (by omega:¬64 * i+j≥64 * i+k),decide_eq_false (by omega:¬j≥k)];simp
 ·simp [hj]
theorem lw_shl2 (a q k i:Nat)(hk:k<64)(hi:i<4)(h:q<i):lw (a * 2 ^ (64 * q+k) % T256) i=(lw a (i - q) * 2 ^ k % 2 ^ 64) ||| (lw a (i - q - 1) / 2 ^ (64 - k)):=by
 apply Nat.eq_of_testBit_eq;intro j
 rw [lw_bit,T256_eq,Nat.testBit_mod_two_pow,Nat.testBit_mul_two_pow,Nat.testBit_or,Nat.testBit_mod_two_pow,Nat.testBit_mul_two_pow,lw_bit,Nat.testBit_div_two_pow,lw_bit]
 by_cases hj:j<64
 ·by_cases hk':k≤j
  ·rw [show 64 * i+j - (64 * q+k)=64 * (i - q)+(j - k) by omega,decide_eq_true (by omega:64 * i+j<256),decide_eq_true (by omega:64 * i+j≥64 * q+k),decide_eq_true (by omega:j≥k),decide_eq_true (by omega:j - k<64),decide_eq_false (by omega:¬j+(64 - k)<64)]
   simp
  ·rw [show 64 * i+j - (64 * q+k)=64 * (i - q - 1)+(j+(64 - k)) by omega,decide_eq_true (by omega:64 * i+j<256),decide_eq_true (by omega:64 * i+j≥64 * q+k),decide_eq_false (by omega:¬j≥k),decide_eq_true (by omega:j+(64 - k)<64)]
   simp [hj]
 ·rw [decide_eq_false (by omega:¬j+(64 - k)<64)];simp [hj]
theorem lw_shr1 (a q k i:Nat)(ha:a<T256)(hk:k<64)(h:i+q=3):lw (a / 2 ^ (64 * q+k)) i=lw a 3 / 2 ^ k:=by
 apply Nat.eq_of_testBit_eq;intro j
 rw [lw_bit,Nat.testBit_div_two_pow,Nat.testBit_div_two_pow,lw_bit,show 64 * i+j+(64 * q+k)=64 * 3+(j+k) by omega]
 by_cases hj:j+k<64
 ·rw [decide_eq_true hj,decide_eq_true (by omega:j<64)]
 ·rw [decide_eq_false hj,Nat.testBit_lt_two_pow (Nat.lt_of_lt_of_le (T256_eq ▸ ha) (Nat.pow_le_pow_right (by omega) (by omega)))];simp
theorem shl_all (a n:Nat)(ha:a<T256)(hn:n≤255)(w:World):Calls Tryz.prog 62 #[num a,.int .i64 n] w (Ret (num (a * 2 ^ n % T256)) w):=by
 obtain ⟨q,k,hk,rfl⟩:∃ q k,k<64∧n=64 * q+k:=⟨n / 64,n % 64,Nat.mod_lt _ (by omega),(Nat.div_add_mod _ _).symm⟩
 have hq:q=0∨q=1∨q=2∨q=3:=by omega
 have hk0:((k:Nat):Int).toNat=k:=by omega
 have hk1:(64 - (k:Int)).toNat=64 - k:=by omega
 have hl:=fun i=>lw_lt a i
 have s (i:Nat):=dn_lt (64 - k) (hl i)
 have u (i:Nat):=up_lt (lw a i) k
 simp only [num,limb_lw]
 rcases hq with rfl|rfl|rfl|rfl
 ·have h:=shl_w0 (lw a 0) (lw a 1) (lw a 2) (lw a 3) ((64 * 0+k:Nat):Int) k (by omega) (by omega) (by omega) (by omega) (by omega) (by omega) w
  rw [hk0,hk1] at h
  simp only [int_shl,int_shr,int_or _ _ (u _) (s _)] at h
  rw [lw_shl1 a 0 k 0 hk (by omega) rfl,lw_shl2 a 0 k 1 hk (by omega) (by omega),lw_shl2 a 0 k 2 hk (by omega) (by omega),lw_shl2 a 0 k 3 hk (by omega) (by omega)]
  exact h
 ·have h:=shl_w1 (lw a 0) (lw a 1) (lw a 2) (lw a 3) ((64 * 1+k:Nat):Int) k (by omega) (by omega) (by omega) (by omega) (by omega) (by omega) w
  rw [hk0,hk1] at h
  simp only [int_shl,int_shr,int_or _ _ (u _) (s _)] at h
  rw [lw_shl0 a 1 k 0 hk (by omega) (by omega),lw_shl1 a 1 k 1 hk (by omega) rfl,lw_shl2 a 1 k 2 hk (by omega) (by omega),lw_shl2 a 1 k 3 hk (by omega) (by omega)]
  exact h
 ·have h:=shl_w2 (lw a 0) (lw a 1) (lw a 2) (lw a 3) ((64 * 2+k:Nat):Int) k (by omega) (by omega) (by omega) (by omega) (by omega) (by omega) w
  rw [hk0,hk1] at h
  simp only [int_shl,int_shr,int_or _ _ (u _) (s _)] at h
  rw [lw_shl0 a 2 k 0 hk (by omega) (by omega),lw_shl0 a 2 k 1 hk (by omega) (by omega),lw_shl1 a 2 k 2 hk (by omega) rfl,lw_shl2 a 2 k 3 hk (by omega) (by omega)]
  exact h
 ·have h:=shl_w3 (lw a 0) (lw a 1) (lw a 2) (lw a 3) ((64 * 3+k:Nat):Int) k (by omega) (by omega) (by omega) (by omega) (by omega) (by omega) w
  rw [hk0] at h
  simp only [int_shl,int_shr] at h
  rw [lw_shl0 a 3 k 0 hk (by omega) (by omega),lw_shl0 a 3 k 1 hk (by omega) (by omega),lw_shl0 a 3 k 2 hk (by omega) (by omega),lw_shl1 a 3 k 3 hk (by omega) rfl]
  exact h
theorem mod2_of_bit {x y i j:Nat}(h:x.testBit i=y.testBit j):x / 2 ^ i % 2=y / 2 ^ j % 2:=by
 rw [Nat.testBit_eq_decide_div_mod_eq,Nat.testBit_eq_decide_div_mod_eq] at h
 have:=decide_eq_decide.1 h
 omega
theorem bit_plain (a q k:Nat)(hk:k<64):bits .and .u64 ((lw a q:Int) / 2 ^ k) 1=((a / 2 ^ (64 * q+k) % 2:Nat):Int):=by
 rw [int_shr,show (1:Int)=((1:Nat):Int) from rfl,bits_and_u64_nat _ _ (dn_lt k (lw_lt a q)) (by omega),Nat.and_one_is_mod]
 congr 1
 exact mod2_of_bit (by rw [lw_bit,decide_eq_true hk];rfl)
theorem bit_all (a i:Nat)(ha:a<T256)(hi:i≤255)(w:World):Calls Tryz.prog 53 #[num a,.int .i64 i] w (Ret (.int .u64 ((a / 2 ^ i % 2:Nat):Int)) w):=by
 obtain ⟨q,k,hk,rfl⟩:∃ q k,k<64∧i=64 * q+k:=⟨i / 64,i % 64,Nat.mod_lt _ (by omega),(Nat.div_add_mod _ _).symm⟩
 have hq:q=0∨q=1∨q=2∨q=3:=by omega
 have hk0:((k:Nat):Int).toNat=k:=by omega
 rw [←bit_plain a q k hk]
 simp only [num,limb_lw]
 rcases hq with rfl|rfl|rfl|rfl
 ·have h:=bit_w0 (lw a 0) (lw a 1) (lw a 2) (lw a 3) ((64 * 0+k:Nat):Int) k (by omega) (by omega) (by omega) (by omega) (by omega) (by omega) w
  rwa [hk0] at h
 ·have h:=bit_w1 (lw a 0) (lw a 1) (lw a 2) (lw a 3) ((64 * 1+k:Nat):Int) k (by omega) (by omega) (by omega) (by omega) (by omega) (by omega) w
  rwa [hk0] at h
 ·have h:=bit_w2 (lw a 0) (lw a 1) (lw a 2) (lw a 3) ((64 * 2+k:Nat):Int) k (by omega) (by omega) (by omega) (by omega) (by omega) (by omega) w
  rwa [hk0] at h
 ·have h:=bit_w3 (lw a 0) (lw a 1) (lw a 2) (lw a 3) ((64 * 3+k:Nat):Int) k (by omega) (by omega) (by omega) (by omega) (by omega) (by omega) w
  rwa [hk0] at h
def blen (a:Nat):Nat:=if a=0 then 0 else Nat.log2 a+1
theorem blen_le {a n:Nat}:blen a≤n↔a<2 ^ n:=by
 unfold blen
 by_cases h:a=0
 ·subst h;simp [Nat.two_pow_pos]
 ·rw [if_neg h,Nat.succ_le_iff,Nat.log2_lt h]
theorem lt_blen {a n:Nat}:n<blen a↔2 ^ n≤a:=by
 rw [←Nat.not_le,blen_le,Nat.not_lt]
theorem blen_aux:∀ (f x:Nat),x<2 ^ f→Lib.bitLenAux f x=blen x
 | 0,x,h=>by
  have:x=0:=by omega
  subst this;rfl
 | f+1,x,h=>by
  unfold Lib.bitLenAux
  by_cases h0:x=0
  ·subst h0;rfl
  ·rw [if_neg h0,blen_aux f (x / 2) (by rw [Nat.pow_succ] at h;omega)]
   unfold blen
   rw [if_neg h0]
   by_cases h1:x / 2=0
   ·have:x=1:=by omega
    subst this;decide
   ·rw [if_neg h1]
    conv=>rhs;rw [Nat.log2_def]
    rw [if_pos (by omega)];omega
theorem blen_div (a s:Nat)(h:a / 2 ^ s≠0):blen a=s+blen (a / 2 ^ s):=by
 have p:0<2 ^ s:=Nat.two_pow_pos s
 apply Nat.le_antisymm
 ·rw [blen_le,Nat.pow_add]
  have h1:a / 2 ^ s<2 ^ blen (a / 2 ^ s):=blen_le.1 (Nat.le_refl _)
  have:=(Nat.div_lt_iff_lt_mul p).1 h1
  rw [Nat.mul_comm] at this
  exact this
 ·have h1:0<blen (a / 2 ^ s):=lt_blen.2 (by rw [Nat.pow_zero];exact Nat.pos_of_ne_zero h)
  obtain ⟨m,hm⟩:∃ m,blen (a / 2 ^ s)=m+1:=⟨blen (a / 2 ^ s) - 1,by omega⟩
  have h2:2 ^ m≤a / 2 ^ s:=lt_blen.1 (by omega)
  rw [hm]
  have:s+m<blen a:=by
   rw [lt_blen,Nat.pow_add,Nat.mul_comm]
   exact (Nat.le_div_iff_mul_le p).1 h2
  omega
theorem len64_all (x:Nat)(h:x<18446744073709551616)(w:World):Calls Tryz.prog 69 #[.int .u64 x] w (Ret (.int .i64 (blen x:Nat)) w):=by
 have k:=len64 x (by omega) (by omega) w
 rw [show Lib.bitLen (x:Int).toNat=blen x from blen_aux 64 x h] at k
 exact k
theorem blen_64 {x:Nat}(h:x<18446744073709551616):blen x≤64:=blen_le.2 h
theorem lw_top {a i:Nat}(h:∀ j,i<j→j<4→lw a j=0)(ha:a<T256)(hi:i<4):lw a i=a / 2 ^ (64 * i):=by
 apply Nat.eq_of_testBit_eq;intro j
 rw [lw_bit,Nat.testBit_div_two_pow,Nat.add_comm j]
 by_cases hj:j<64
 ·simp [hj]
 ·rw [decide_eq_false hj,Bool.false_and]
  symm
  obtain ⟨m,r,hr,e⟩:∃ m r,r<64∧64 * i+j=64 * m+r:=⟨(64 * i+j) / 64,(64 * i+j) % 64,Nat.mod_lt _ (by omega),(Nat.div_add_mod _ _).symm⟩
  rw [e]
  by_cases hm:m<4
  ·have h1:=lw_bit a m r
   rw [h m (by omega) hm,Nat.zero_testBit,decide_eq_true hr,Bool.true_and] at h1
   exact h1.symm
  ·exact Nat.testBit_lt_two_pow (Nat.lt_of_lt_of_le (T256_eq ▸ ha) (Nat.pow_le_pow_right (by omega) (by omega)))
theorem ne_bool {x:Nat}(h:x≠0):(((x:Nat):Int) != 0)=true:=by simpa using h
theorem eq_bool {x:Nat}(h:x=0):(((x:Nat):Int) != 0)=false:=by simpa using h
theorem len_all (a:Nat)(ha:a<T256)(w:World):Calls Tryz.prog 51 #[num a] w (Ret (.int .i64 (blen a:Nat)) w):=by
 simp only [num,limb_lw]
 by_cases h3:lw a 3=0
 ·by_cases h2:lw a 2=0
  ·by_cases h1:lw a 1=0
   ·have e:=lw_top (a:=a) (i:=0) (fun j h h'=>by
     have:j=1∨j=2∨j=3:=by omega
     rcases this with rfl|rfl|rfl <;> assumption) ha (by omega)
    rw [Nat.mul_zero,Nat.pow_zero,Nat.div_one] at e
    by_cases h0:lw a 0=0
    ·have:=len_no (lw a 0) (lw a 1) (lw a 2) (lw a 3) 0 (eq_bool h3) (eq_bool h2) (eq_bool h1) (eq_bool h0) w
     rw [show blen a=0 by rw [←e,h0];rfl]
     exact this
    ·have:=len_0 (lw a 0) (lw a 1) (lw a 2) (lw a 3) _ (eq_bool h3) (eq_bool h2) (eq_bool h1) (ne_bool h0) (len64_all _ (lw_lt a 0)) (by omega) (by have:=blen_64 (lw_lt a 0);omega) w
     rw [show blen (lw a 0)=blen a by rw [e]] at this
     simpa using this
   ·have e:=lw_top (a:=a) (i:=1) (fun j h h'=>by
     have:j=2∨j=3:=by omega
     rcases this with rfl|rfl <;> assumption) ha (by omega)
    have:=len_1 (lw a 0) (lw a 1) (lw a 2) (lw a 3) _ (eq_bool h3) (eq_bool h2) (ne_bool h1) (len64_all _ (lw_lt a 1)) (by omega) (by have:=blen_64 (lw_lt a 1);omega) w
    rw [blen_div a 64 (by rw [←e];exact h1),←show lw a 1=a / 2 ^ 64 from e]
    simpa using this
  ·have e:=lw_top (a:=a) (i:=2) (fun j h h'=>by
    have:j=3:=by omega
    subst this;assumption) ha (by omega)
   have:=len_2 (lw a 0) (lw a 1) (lw a 2) (lw a 3) _ (eq_bool h3) (ne_bool h2) (len64_all _ (lw_lt a 2)) (by omega) (by have:=blen_64 (lw_lt a 2);omega) w
   rw [blen_div a 128 (by rw [←show lw a 2=a / 2 ^ 128 from e];exact h2),←show lw a 2=a / 2 ^ 128 from e]
   simpa using this
 ·have e:=lw_top (a:=a) (i:=3) (fun j h h'=>by omega) ha (by omega)
  have:=len_3 (lw a 0) (lw a 1) (lw a 2) (lw a 3) _ (ne_bool h3) (len64_all _ (lw_lt a 3)) (by omega) (by have:=blen_64 (lw_lt a 3);omega) w
  rw [blen_div a 192 (by rw [←show lw a 3=a / 2 ^ 192 from e];exact h3),←show lw a 3=a / 2 ^ 192 from e]
  simpa using this
end Go.Proofs.YtkendlnjaopbeaaGreatDoor
namespace Go.Proofs.YtkendlnjaopbeaaGreatDoor
open Go.RowKit
set_option linter.unusedVariables false
theorem shl_nu (a n:Nat)(ha:a<T256)(hn:n≤255)(w:World):Calls Tryz.prog 62 #[nu a,.int .i64 n] w (Ret (nu (a * 2 ^ n % T256)) w):=by
 rw [←nu_num,←nu_num];exact shl_all a n ha hn w
theorem bit_nu (a i:Nat)(ha:a<T256)(hi:i≤255)(w:World):Calls Tryz.prog 53 #[nu a,.int .i64 i] w (Ret (.int .u64 ((a / 2 ^ i % 2:Nat):Int)) w):=by
 rw [←nu_num];exact bit_all a i ha hi w
theorem len_nu (a:Nat)(ha:a<T256)(w:World):Calls Tryz.prog 51 #[nu a] w (Ret (.int .i64 (blen a:Nat)) w):=by
 rw [←nu_num];exact len_all a ha w
end Go.Proofs.YtkendlnjaopbeaaGreatDoor
namespace Go.Proofs.YtkendlnjaopbeaaGreatDoor
open Go.RowKit
set_option maxRecDepth 100000
set_option linter.unusedVariables false
set_option maxHeartbeats 1000000 in
theorem wide_words (a0 a1 a2 a3 b0 b1 b2 b3:Int)(w:World) :
  Calls Tryz.prog 100 #[.agg #[.int .u64 a0,.int .u64 a1,.int .u64 a2,.int .u64 a3],.agg #[.int .u64 b0,.int .u64 b1,.int .u64 b2,.int .u64 b3]] w
   (Ret (.agg #[.int .u64 a0,.int .u64 a1,.int .u64 a2,.int .u64 a3,.int .u64 b0,.int .u64 b1,.int .u64 b2,.int .u64 b3]) w):=by
 have k1:=run_copy_row (P:=Tryz.prog) (((((w.alloc (.cells #[.int .u64 a0,.int .u64 a1,.int .u64 a2,.int .u64 a3] 46)).alloc (.cells #[.int .u64 b0,.int .u64 b1,.int .u64 b2,.int .u64 b3] 46)).alloc (.cells #[.int .u64 0,.int .u64 0,.int .u64 0,.int .u64 0,.int .u64 0,.int .u64 0,.int .u64 0,.int .u64 0] 130)).alloc (.cells #[.int .u64 0,.int .u64 0,.int .u64 0,.int .u64 0,.int .u64 0,.int .u64 0,.int .u64 0,.int .u64 0] 130)).drew)
  176 176 3 44 (w.heap.size+1+1+1) 0 4 8 ⟨w.heap.size,0,none⟩ 4 4 _ 130 [.int .u64 a0,.int .u64 a1,.int .u64 a2,.int .u64 a3]
  (by kernel_rfl) (by kernel_rfl) (hdr nw3) (by rfl) (src_of (hdr (ho (ho (ho nw)))) rfl) (by simp) (by simp [Value.oneCell'])
 have k2:=run_copy_row (P:=Tryz.prog) (((((w.alloc (.cells #[.int .u64 a0,.int .u64 a1,.int .u64 a2,.int .u64 a3] 46)).alloc (.cells #[.int .u64 b0,.int .u64 b1,.int .u64 b2,.int .u64 b3] 46)).alloc (.cells #[.int .u64 0,.int .u64 0,.int .u64 0,.int .u64 0,.int .u64 0,.int .u64 0,.int .u64 0,.int .u64 0] 130)).alloc (.cells #[.int .u64 a0,.int .u64 a1,.int .u64 a2,.int .u64 a3,.int .u64 0,.int .u64 0,.int .u64 0,.int .u64 0] 130)).drew.drew)
  176 176 3 44 (w.heap.size+1+1+1) 4 4 4 ⟨w.heap.size+1,0,none⟩ 4 4 _ 130 [.int .u64 b0,.int .u64 b1,.int .u64 b2,.int .u64 b3]
  (by kernel_rfl) (by kernel_rfl) (hdr (hdr nw3)) (by rfl) (src_of (hdr (hdr (ho (ho nw1)))) rfl) (by simp) (by simp [Value.oneCell'])
 have e (v:World) (n:Nat) (c:Array Value):v.drew.setRow n c=(v.setRow n c).drew:=rfl
 rw [e,setRow_new _ _ _ _ _ (by simp)] at k1
 rw [e,e,setRow_new _ _ _ _ _ (by simp)] at k2
 simp only [goInt,List.length_cons,List.length_nil,List.take_zero,List.nil_append,List.drop_succ_cons,List.drop_zero,List.cons_append,List.take_succ_cons,List.drop_nil,List.append_nil,Nat.zero_add,Nat.reduceAdd] at k1 k2
 go_enter Tryz.func100,Tryz.ntmps100
 go_wp2
 go_region
 go_wp2
 go_region
 go_wp2
 go_returns
 refine ⟨rfl,?_⟩
 repeat' (first|(with_reducible exact Below.refl _ _)|(with_reducible assumption)|(with_reducible refine up_alloc ?_ _)|(with_reducible refine up ?_ _)|(with_reducible refine up_drew ?_)|(with_reducible refine up_row ?_ ?_ _)|(with_reducible refine up_set ?_ ?_ _)|((try dsimp only);first|omega|exact le_size|exact le_size1|exact le_size2|exact le_size3))
theorem wide_all (a b:Nat)(ha:a<T256)(w:World):Calls Tryz.prog 100 #[num a,num b] w (Ret (wide (a+T256 * b)) w):=by
 have h:=limb_two a b ha
 have k:=wide_words (limb a 0) (limb a 1) (limb a 2) (limb a 3) (limb b 0) (limb b 1) (limb b 2) (limb b 3) w
 simp only [wide,h.1,h.2.1,h.2.2.1,h.2.2.2.1,h.2.2.2.2.1,h.2.2.2.2.2.1,h.2.2.2.2.2.2.1,h.2.2.2.2.2.2.2]
 exact k
end Go.Proofs.YtkendlnjaopbeaaGreatDoor
namespace Go.Proofs.YtkendlnjaopbeaaGreatDoor
open Go.RowKit
set_option maxRecDepth 100000
set_option linter.unusedVariables false
theorem wide_nu (a b:Nat)(ha:a<T256)(w:World):Calls Tryz.prog 100 #[nu a,nu b] w (Ret (wi (a+T256 * b)) w):=by
 rw [←nu_num,←nu_num,←wi_wide];exact wide_all a b ha w
end Go.Proofs.YtkendlnjaopbeaaGreatDoor
namespace Go.Proofs.YtkendlnjaopbeaaGreatDoor
open Go.RowKit
set_option maxRecDepth 100000
set_option linter.unusedVariables false
theorem half_step (a j:Nat):a / 2 ^ j=2 * (a / 2 ^ (j+1))+a / 2 ^ j % 2:=by
 rw [Nat.pow_succ,←Nat.div_div_eq_div_mul]
 omega
theorem div_step {a m j R Q b:Nat}(hm:0<m)(hR:R=a / 2 ^ (j+1) % m)(hQ:Q=a / 2 ^ (j+1) / m)(hb:b=a / 2 ^ j % 2) :
  (m≤2 * R+b→a / 2 ^ j % m=2 * R+b - m∧a / 2 ^ j / m=2 * Q+1)∧(2 * R+b<m→a / 2 ^ j % m=2 * R+b∧a / 2 ^ j / m=2 * Q):=by
 have h:=half_step a j
 rw [←hb] at h
 have hd:=Nat.div_add_mod (a / 2 ^ (j+1)) m
 rw [←hR,←hQ] at hd
 have hl:R<m:=by rw [hR];exact Nat.mod_lt _ hm
 have hb2:b<2:=by rw [hb];exact Nat.mod_lt _ (by omega)
 generalize a / 2 ^ (j+1)=A at *
 generalize a / 2 ^ j=B at *
 have e:B=m * (2 * Q)+(2 * R+b):=by
  have e2:m * (2 * Q)=2 * (m * Q):=by rw [Nat.mul_left_comm]
  rw [h,e2];omega
 constructor
 ·intro hge
  have e':B=(2 * R+b - m)+m * (2 * Q+1):=by
   rw [e,Nat.mul_add,Nat.mul_one];omega
  rw [e']
  constructor
  ·rw [Nat.add_mul_mod_self_left];exact Nat.mod_eq_of_lt (by omega)
  ·rw [Nat.add_mul_div_left _ _ hm,Nat.div_eq_of_lt (by omega)];omega
 ·intro hlt
  have e':B=(2 * R+b)+m * (2 * Q):=by rw [e];omega
  rw [e']
  constructor
  ·rw [Nat.add_mul_mod_self_left];exact Nat.mod_eq_of_lt hlt
  ·rw [Nat.add_mul_div_left _ _ hm,Nat.div_eq_of_lt hlt];omega
def dvR (a m k:Nat):Nat:=a / 2 ^ k % m
def dvQ (a m k:Nat):Nat:=a / 2 ^ k / m * 2 ^ k
theorem div_pow_top {a T M N:Nat}(ha:a<T)(h:T=2 ^ M)(e:N=M):a / 2 ^ N=0:=by
 subst e
 exact Nat.div_eq_of_lt (Nat.lt_of_lt_of_eq ha h)
theorem dv_top (a m N:Nat)(ha:a<T512)(hN:N=512):dvR a m N=0∧dvQ a m N=0:=by
 have h:a / 2 ^ N=0:=div_pow_top ha T512_eq hN
 unfold dvR dvQ
 rw [h]
 exact ⟨Nat.zero_mod m,by rw [Nat.zero_div,Nat.zero_mul]⟩
theorem top_bit (R:Nat)(h:R<T256):limb R 3 / 9223372036854775808=((R / 2 ^ 255:Nat):Int)∧R / 2 ^ 255<2:=by
 rw [limb3]
 have e255:(2:Nat) ^ 255=57896044618658097711785492504343953926634992332820282019728792003956564819968:=by decide +kernel
 unfold T256 at h
 rw [e255]
 constructor <;> omega
theorem limb_put0 (r b:Nat)(h2:r % 2=0)(hb:b<2):bits .or .u64 (limb r 0) (b:Int)=limb (r+b) 0∧∀ i,i<4→i≠0→limb r i=limb (r+b) i:=by
 constructor
 ·rw [limb_lw,int_or _ _ (lw_lt r 0) (by omega),limb_lw]
  congr 1
  have hb':b=0∨b=1:=by omega
  unfold lw
  simp only [Nat.mul_zero,Nat.pow_zero,Nat.div_one]
  rcases hb' with rfl|rfl
  ·simp
  ·have e:(r+1) % 2 ^ 64=r % 2 ^ 64+1:=by omega
   rw [e]
   have hx:r % 2 ^ 64=2 * (r % 2 ^ 64 / 2):=by omega
   generalize r % 2 ^ 64 / 2=y at hx
   rw [hx]
   have:=Nat.two_pow_add_eq_or_of_lt (i:=1) (b:=1) (by omega) y
   rw [show (2:Nat) ^ 1 * y=2 * y by omega] at this
   exact this.symm
 ·intro i hi h0
  rw [limb_lw,limb_lw]
  congr 1
  unfold lw
  congr 1
  have:i=1∨i=2∨i=3:=by omega
  rcases this with rfl|rfl|rfl <;> (simp only [Nat.reduceMul,Nat.reducePow];omega)
theorem limb_putbit (q j:Nat)(hj:j<512)(hq:q % 2 ^ (j+1)=0):bits .or .u64 (limb q (j / 64)) (((2 ^ (j % 64):Nat)):Int)=limb (q+2 ^ j) (j / 64)∧∀ i,i<8→i≠j / 64→limb q i=limb (q+2 ^ j) i:=by
 have hor:q+2 ^ j=q ||| 2 ^ j:=by
  obtain ⟨c,hc⟩:=Nat.dvd_of_mod_eq_zero hq
  rw [hc]
  have:=Nat.two_pow_add_eq_or_of_lt (i:=j+1) (b:=2 ^ j) (Nat.pow_lt_pow_right (by omega) (by omega)) c
  exact this
 have hlt:2 ^ (j % 64)<18446744073709551616:=by
  have:=Nat.pow_lt_pow_right (a:=2) (by omega) (Nat.mod_lt j (show 0<64 by omega))
  exact this
 constructor
 ·rw [limb_lw,int_or _ _ (lw_lt q _) hlt,limb_lw]
  congr 1
  apply Nat.eq_of_testBit_eq
  intro k
  rw [Nat.testBit_or,lw_bit,lw_bit,hor,Nat.testBit_or,Nat.testBit_two_pow,Nat.testBit_two_pow]
  have hd:=Nat.div_add_mod j 64
  by_cases hk:k<64
  ·simp only [hk,decide_true,Bool.true_and]
   congr 1
   by_cases h:j % 64=k
   ·subst h;simp [hd]
   ·have:¬j=64 * (j / 64)+k:=by omega
    simp [h,this]
  ·have:¬j % 64=k:=by have:=Nat.mod_lt j (show 0<64 by omega);omega
   simp [hk,this]
 ·intro i hi hne
  rw [limb_lw,limb_lw]
  congr 1
  apply Nat.eq_of_testBit_eq
  intro k
  rw [lw_bit,lw_bit,hor,Nat.testBit_or,Nat.testBit_two_pow]
  by_cases hk:k<64
  ·have:¬j=64 * i+k:=by omega
   simp [this]
  ·simp [hk]
theorem bit_wide (a j:Nat):bits .and .u64 (limb a (j / 64) / 2 ^ ((j:Int) % 64).toNat) 1=((a / 2 ^ j % 2:Nat):Int):=by
 have e:((j:Int) % 64).toNat=j % 64:=by omega
 rw [e,limb_lw,bit_plain a (j / 64) (j % 64) (Nat.mod_lt _ (by omega)),Nat.div_add_mod]
end Go.Proofs.YtkendlnjaopbeaaGreatDoor
