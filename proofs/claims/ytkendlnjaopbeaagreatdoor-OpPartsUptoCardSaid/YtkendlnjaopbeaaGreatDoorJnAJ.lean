/- What Add,Sub,Mul and equality of numbers answer. The walks of limb.Bit,Pick,Len and math/bits.Len64 (the last turned from the shelf's). The walks of limb.Shift. Bits of numbers,in plain terms: what Bit,Pick,Len and Shift answer. What Shift,Bit and Len answer. The walks of limb.Low,High,Wide,Cmp,Pick,and of plus,wide,limbs. What is wide. One step of a long division,plainly. The walks of quot.DivMod and quot.Mod. Numbers that stand in the text. When two wide numbers are told alike. Rows of numbers: structs whose fields are numbers (a point,a quad,a pair). A number out of its four words. scalar: numbers modulo L. -/
import Derived.Test.YtkendlnjaopbeaaGreatDoorJnAI
import Derived.Test.YtkendlnjaopbeaaGreatDoorMul
import Derived.Lib.Strings
import Derived.Lib.Slices
import Derived.Lib.Small
import Derived.Lib.Walk
import Derived.Lib.BitFns
import Derived.Laws.Bits64
import Derived.Laws.Bits64b
import Derived.Test.YtkendlnjaopbeaaGreatDoorJnAA
namespace Go.Proofs.YtkendlnjaopbeaaGreatDoor
open Go.RowKit
set_option linter.unusedVariables false
theorem add_nu (a b:Nat)(ha:a<T256)(hb:b<T256)(w:World):Calls Tryz.prog 61 #[nu a,nu b] w (Ret (.tuple #[nu ((a+b) % T256),.int .u64 (((a+b) / T256:Nat):Int)]) w):=by
 rw [←nu_num,←nu_num,←nu_num];exact add_num a b ha hb w
theorem sub_nu (a b:Nat)(ha:a<T256)(hb:b<T256)(w:World):Calls Tryz.prog 63 #[nu a,nu b] w (Ret (.tuple #[nu ((a+T256 - b) % T256),.int .u64 (((if a<b then 1 else 0:Nat)):Int)]) w):=by
 rw [←nu_num,←nu_num,←nu_num,show ((if a<b then 1 else 0:Nat):Int)=if a<b then 1 else 0 by split <;> rfl];exact sub_num a b ha hb w
theorem mul_nu (a b:Nat)(ha:a<T256)(hb:b<T256)(w:World):Calls Tryz.prog 58 #[nu a,nu b] w (Ret (wi (a * b)) w):=by
 rw [←nu_num,←nu_num,←wi_wide];exact mul_all a b ha hb w
theorem eq_nu (a b:Nat)(ha:a<T256)(hb:b<T256)(w:World):(Op.equalIn 10000 46 (nu a) (nu b)).run Tryz.prog w=.ok (decide (a=b)) w:=by
 rw [←nu_num,←nu_num];exact eql_num a b ha hb w
theorem eqNu {x y:Nat}{r:Bool}(h:decide (x=y)=r)(hx:x<T256)(hy:y<T256)(w:World):(Op.equalIn 10000 46 (nu x) (nu y)).run Tryz.prog w=.ok r w:=by
 rw [eq_nu x y hx hy,h]
end Go.Proofs.YtkendlnjaopbeaaGreatDoor
namespace Go.Proofs.YtkendlnjaopbeaaGreatDoor
open Go.RowKit
set_option linter.unusedVariables false
set_option maxHeartbeats 400000 in
set_option maxRecDepth 100000 in
theorem len64_0 (x:Int)(h0:0≤x)(h1:x<256)(w:World):Calls Tryz.prog 69 #[.int .u64 x] w (Ret (.int .i64 (Lib.bitLen x.toNat)) w):=by
 have y1:x≤255:=by omega
 have hl:=Lib.len8_of (x) (by omega) (by omega)
 have l:=Lib.bitLen_le8' (x) (by omega) (by omega)
 have hr:Lib.bitLen x.toNat≤64:=by omega
 have fin:(Lib.bitLen x.toNat:Int)=Lib.len8 x:=by omega
 have b0:0≤Lib.len8 (x):=by omega
 have b1:Lib.len8 (x)≤8:=by omega
 rw [fin]
 clear fin hl l hr
 go_enter Tryz.func69,Tryz.ntmps69
 go_wp2
 go_ret
 refine ⟨?_,Below.refl _ _⟩
 first|rfl|(refine congrArg Ending.returned (congrArg (Value.int IntKind.i64) ?_);omega)
set_option maxHeartbeats 400000 in
set_option maxRecDepth 100000 in
theorem len64_1 (x:Int)(h0:256≤x)(h1:x<65536)(w:World):Calls Tryz.prog 69 #[.int .u64 x] w (Ret (.int .i64 (Lib.bitLen x.toNat)) w):=by
 have y0:0≤x / 256:=by omega
 have y1:x / 256≤255:=by omega
 have hl:=Lib.len8_of (x / 256) (by omega) (by omega)
 have l:=Lib.bitLen_le8' (x / 256) (by omega) (by omega)
 have s:=Lib.bitLen_shift8 x.toNat (by omega) (by omega)
 have e:(x / 256).toNat=x.toNat / 256:=by omega
 rw [e] at hl l
 have hr:Lib.bitLen x.toNat≤64:=by omega
 have fin:(Lib.bitLen x.toNat:Int)=8+Lib.len8 (x / 256):=by omega
 have b0:0≤Lib.len8 (x / 256):=by omega
 have b1:Lib.len8 (x / 256)≤8:=by omega
 rw [fin]
 clear fin hl l hr s e
 go_enter Tryz.func69,Tryz.ntmps69
 go_wp2
 go_ret
 refine ⟨?_,Below.refl _ _⟩
 first|rfl|(refine congrArg Ending.returned (congrArg (Value.int IntKind.i64) ?_);omega)
set_option maxHeartbeats 400000 in
set_option maxRecDepth 100000 in
theorem len64_2 (x:Int)(h0:65536≤x)(h1:x<16777216)(w:World):Calls Tryz.prog 69 #[.int .u64 x] w (Ret (.int .i64 (Lib.bitLen x.toNat)) w):=by
 have y0:0≤x / 65536:=by omega
 have y1:x / 65536≤255:=by omega
 have hl:=Lib.len8_of (x / 65536) (by omega) (by omega)
 have l:=Lib.bitLen_le8' (x / 65536) (by omega) (by omega)
 have s:=Lib.bitLen_shift16 x.toNat (by omega) (by omega)
 have e:(x / 65536).toNat=x.toNat / 65536:=by omega
 rw [e] at hl l
 have hr:Lib.bitLen x.toNat≤64:=by omega
 have fin:(Lib.bitLen x.toNat:Int)=16+Lib.len8 (x / 65536):=by omega
 have b0:0≤Lib.len8 (x / 65536):=by omega
 have b1:Lib.len8 (x / 65536)≤8:=by omega
 rw [fin]
 clear fin hl l hr s e
 go_enter Tryz.func69,Tryz.ntmps69
 go_wp2
 go_ret
 refine ⟨?_,Below.refl _ _⟩
 first|rfl|(refine congrArg Ending.returned (congrArg (Value.int IntKind.i64) ?_);omega)
set_option maxHeartbeats 400000 in
set_option maxRecDepth 100000 in
theorem len64_3 (x:Int)(h0:16777216≤x)(h1:x<4294967296)(w:World):Calls Tryz.prog 69 #[.int .u64 x] w (Ret (.int .i64 (Lib.bitLen x.toNat)) w):=by
 have y0:0≤x / 65536 / 256:=by omega
 have y1:x / 65536 / 256≤255:=by omega
 have hl:=Lib.len8_of (x / 65536 / 256) (by omega) (by omega)
 have l:=Lib.bitLen_le8' (x / 65536 / 256) (by omega) (by omega)
 have s:=Lib.bitLen_shift24 x.toNat (by omega) (by omega)
 have e:(x / 65536 / 256).toNat=x.toNat / 16777216:=by omega
 rw [e] at hl l
 have hr:Lib.bitLen x.toNat≤64:=by omega
 have fin:(Lib.bitLen x.toNat:Int)=24+Lib.len8 (x / 65536 / 256):=by omega
 have b0:0≤Lib.len8 (x / 65536 / 256):=by omega
 have b1:Lib.len8 (x / 65536 / 256)≤8:=by omega
 rw [fin]
 clear fin hl l hr s e
 go_enter Tryz.func69,Tryz.ntmps69
 go_wp2
 go_ret
 refine ⟨?_,Below.refl _ _⟩
 first|rfl|(refine congrArg Ending.returned (congrArg (Value.int IntKind.i64) ?_);omega)
set_option maxHeartbeats 400000 in
set_option maxRecDepth 100000 in
theorem len64_4 (x:Int)(h0:4294967296≤x)(h1:x<1099511627776)(w:World):Calls Tryz.prog 69 #[.int .u64 x] w (Ret (.int .i64 (Lib.bitLen x.toNat)) w):=by
 have y0:0≤x / 4294967296:=by omega
 have y1:x / 4294967296≤255:=by omega
 have hl:=Lib.len8_of (x / 4294967296) (by omega) (by omega)
 have l:=Lib.bitLen_le8' (x / 4294967296) (by omega) (by omega)
 have s:=Lib.bitLen_shift32 x.toNat (by omega) (by omega)
 have e:(x / 4294967296).toNat=x.toNat / 4294967296:=by omega
 rw [e] at hl l
 have hr:Lib.bitLen x.toNat≤64:=by omega
 have fin:(Lib.bitLen x.toNat:Int)=32+Lib.len8 (x / 4294967296):=by omega
 have b0:0≤Lib.len8 (x / 4294967296):=by omega
 have b1:Lib.len8 (x / 4294967296)≤8:=by omega
 rw [fin]
 clear fin hl l hr s e
 go_enter Tryz.func69,Tryz.ntmps69
 go_wp2
 go_ret
 refine ⟨?_,Below.refl _ _⟩
 first|rfl|(refine congrArg Ending.returned (congrArg (Value.int IntKind.i64) ?_);omega)
set_option maxHeartbeats 400000 in
set_option maxRecDepth 100000 in
theorem len64_5 (x:Int)(h0:1099511627776≤x)(h1:x<281474976710656)(w:World):Calls Tryz.prog 69 #[.int .u64 x] w (Ret (.int .i64 (Lib.bitLen x.toNat)) w):=by
 have y0:0≤x / 4294967296 / 256:=by omega
 have y1:x / 4294967296 / 256≤255:=by omega
 have hl:=Lib.len8_of (x / 4294967296 / 256) (by omega) (by omega)
 have l:=Lib.bitLen_le8' (x / 4294967296 / 256) (by omega) (by omega)
 have s:=Lib.bitLen_shift40 x.toNat (by omega) (by omega)
 have e:(x / 4294967296 / 256).toNat=x.toNat / 1099511627776:=by omega
 rw [e] at hl l
 have hr:Lib.bitLen x.toNat≤64:=by omega
 have fin:(Lib.bitLen x.toNat:Int)=40+Lib.len8 (x / 4294967296 / 256):=by omega
 have b0:0≤Lib.len8 (x / 4294967296 / 256):=by omega
 have b1:Lib.len8 (x / 4294967296 / 256)≤8:=by omega
 rw [fin]
 clear fin hl l hr s e
 go_enter Tryz.func69,Tryz.ntmps69
 go_wp2
 go_ret
 refine ⟨?_,Below.refl _ _⟩
 first|rfl|(refine congrArg Ending.returned (congrArg (Value.int IntKind.i64) ?_);omega)
set_option maxHeartbeats 400000 in
set_option maxRecDepth 100000 in
theorem len64_6 (x:Int)(h0:281474976710656≤x)(h1:x<72057594037927936)(w:World):Calls Tryz.prog 69 #[.int .u64 x] w (Ret (.int .i64 (Lib.bitLen x.toNat)) w):=by
 have y0:0≤x / 4294967296 / 65536:=by omega
 have y1:x / 4294967296 / 65536≤255:=by omega
 have hl:=Lib.len8_of (x / 4294967296 / 65536) (by omega) (by omega)
 have l:=Lib.bitLen_le8' (x / 4294967296 / 65536) (by omega) (by omega)
 have s:=Lib.bitLen_shift48 x.toNat (by omega) (by omega)
 have e:(x / 4294967296 / 65536).toNat=x.toNat / 281474976710656:=by omega
 rw [e] at hl l
 have hr:Lib.bitLen x.toNat≤64:=by omega
 have fin:(Lib.bitLen x.toNat:Int)=48+Lib.len8 (x / 4294967296 / 65536):=by omega
 have b0:0≤Lib.len8 (x / 4294967296 / 65536):=by omega
 have b1:Lib.len8 (x / 4294967296 / 65536)≤8:=by omega
 rw [fin]
 clear fin hl l hr s e
 go_enter Tryz.func69,Tryz.ntmps69
 go_wp2
 go_ret
 refine ⟨?_,Below.refl _ _⟩
 first|rfl|(refine congrArg Ending.returned (congrArg (Value.int IntKind.i64) ?_);omega)
set_option maxHeartbeats 400000 in
set_option maxRecDepth 100000 in
theorem len64_7 (x:Int)(h0:72057594037927936≤x)(h1:x<18446744073709551616)(w:World):Calls Tryz.prog 69 #[.int .u64 x] w (Ret (.int .i64 (Lib.bitLen x.toNat)) w):=by
 have y0:0≤x / 4294967296 / 65536 / 256:=by omega
 have y1:x / 4294967296 / 65536 / 256≤255:=by omega
 have hl:=Lib.len8_of (x / 4294967296 / 65536 / 256) (by omega) (by omega)
 have l:=Lib.bitLen_le8' (x / 4294967296 / 65536 / 256) (by omega) (by omega)
 have s:=Lib.bitLen_shift56 x.toNat (by omega) (by omega)
 have e:(x / 4294967296 / 65536 / 256).toNat=x.toNat / 72057594037927936:=by omega
 rw [e] at hl l
 have hr:Lib.bitLen x.toNat≤64:=by omega
 have fin:(Lib.bitLen x.toNat:Int)=56+Lib.len8 (x / 4294967296 / 65536 / 256):=by omega
 have b0:0≤Lib.len8 (x / 4294967296 / 65536 / 256):=by omega
 have b1:Lib.len8 (x / 4294967296 / 65536 / 256)≤8:=by omega
 rw [fin]
 clear fin hl l hr s e
 go_enter Tryz.func69,Tryz.ntmps69
 go_wp2
 go_ret
 refine ⟨?_,Below.refl _ _⟩
 first|rfl|(refine congrArg Ending.returned (congrArg (Value.int IntKind.i64) ?_);omega)
theorem len64 (x:Int)(h0:0≤x)(h1:x≤18446744073709551615)(w:World):Calls Tryz.prog 69 #[.int .u64 x] w (Ret (.int .i64 (Lib.bitLen x.toNat)) w):=by
 by_cases c0:x<256
 ·exact len64_0 x (by omega) c0 w
 by_cases c1:x<65536
 ·exact len64_1 x (by omega) c1 w
 by_cases c2:x<16777216
 ·exact len64_2 x (by omega) c2 w
 by_cases c3:x<4294967296
 ·exact len64_3 x (by omega) c3 w
 by_cases c4:x<1099511627776
 ·exact len64_4 x (by omega) c4 w
 by_cases c5:x<281474976710656
 ·exact len64_5 x (by omega) c5 w
 by_cases c6:x<72057594037927936
 ·exact len64_6 x (by omega) c6 w
 exact len64_7 x (by omega) (by omega) w
set_option maxHeartbeats 400000 in
theorem bit_w0 (a0 a1 a2 a3:Int)(i k:Int)(h0:0≤i)(h1:i≤255)(hq:i / 64=0)(hr:i % 64=k)(k0:0≤k)(k1:k<64)(w:World) :
  Calls Tryz.prog 53 #[.agg #[.int .u64 a0,.int .u64 a1,.int .u64 a2,.int .u64 a3],.int .i64 i] w (Ret (.int .u64 (bits .and .u64 (a0 / 2 ^ k.toNat) 1)) w):=by
 have n1:¬i<0:=by omega
 have n2:¬255<i:=by omega
 go_enter Tryz.func53,Tryz.ntmps53
 go_wp2
 go_returns
 refine ⟨rfl,?_⟩
 repeat' (first|(with_reducible exact Below.refl _ _)|(with_reducible assumption)|(with_reducible refine up_alloc ?_ _)|(with_reducible refine up ?_ _)|(with_reducible refine up_drew ?_)|(with_reducible refine up_row ?_ ?_ _)|(with_reducible refine up_set ?_ ?_ _)|((try dsimp only);first|omega|exact le_size|exact le_size1|exact le_size2|exact le_size3))
set_option maxHeartbeats 400000 in
theorem bit_w1 (a0 a1 a2 a3:Int)(i k:Int)(h0:0≤i)(h1:i≤255)(hq:i / 64=1)(hr:i % 64=k)(k0:0≤k)(k1:k<64)(w:World) :
  Calls Tryz.prog 53 #[.agg #[.int .u64 a0,.int .u64 a1,.int .u64 a2,.int .u64 a3],.int .i64 i] w (Ret (.int .u64 (bits .and .u64 (a1 / 2 ^ k.toNat) 1)) w):=by
 have n1:¬i<0:=by omega
 have n2:¬255<i:=by omega
 go_enter Tryz.func53,Tryz.ntmps53
 go_wp2
 go_returns
 refine ⟨rfl,?_⟩
 repeat' (first|(with_reducible exact Below.refl _ _)|(with_reducible assumption)|(with_reducible refine up_alloc ?_ _)|(with_reducible refine up ?_ _)|(with_reducible refine up_drew ?_)|(with_reducible refine up_row ?_ ?_ _)|(with_reducible refine up_set ?_ ?_ _)|((try dsimp only);first|omega|exact le_size|exact le_size1|exact le_size2|exact le_size3))
set_option maxHeartbeats 400000 in
theorem bit_w2 (a0 a1 a2 a3:Int)(i k:Int)(h0:0≤i)(h1:i≤255)(hq:i / 64=2)(hr:i % 64=k)(k0:0≤k)(k1:k<64)(w:World) :
  Calls Tryz.prog 53 #[.agg #[.int .u64 a0,.int .u64 a1,.int .u64 a2,.int .u64 a3],.int .i64 i] w (Ret (.int .u64 (bits .and .u64 (a2 / 2 ^ k.toNat) 1)) w):=by
 have n1:¬i<0:=by omega
 have n2:¬255<i:=by omega
 go_enter Tryz.func53,Tryz.ntmps53
 go_wp2
 go_returns
 refine ⟨rfl,?_⟩
 repeat' (first|(with_reducible exact Below.refl _ _)|(with_reducible assumption)|(with_reducible refine up_alloc ?_ _)|(with_reducible refine up ?_ _)|(with_reducible refine up_drew ?_)|(with_reducible refine up_row ?_ ?_ _)|(with_reducible refine up_set ?_ ?_ _)|((try dsimp only);first|omega|exact le_size|exact le_size1|exact le_size2|exact le_size3))
set_option maxHeartbeats 400000 in
theorem bit_w3 (a0 a1 a2 a3:Int)(i k:Int)(h0:0≤i)(h1:i≤255)(hq:i / 64=3)(hr:i % 64=k)(k0:0≤k)(k1:k<64)(w:World) :
  Calls Tryz.prog 53 #[.agg #[.int .u64 a0,.int .u64 a1,.int .u64 a2,.int .u64 a3],.int .i64 i] w (Ret (.int .u64 (bits .and .u64 (a3 / 2 ^ k.toNat) 1)) w):=by
 have n1:¬i<0:=by omega
 have n2:¬255<i:=by omega
 go_enter Tryz.func53,Tryz.ntmps53
 go_wp2
 go_returns
 refine ⟨rfl,?_⟩
 repeat' (first|(with_reducible exact Below.refl _ _)|(with_reducible assumption)|(with_reducible refine up_alloc ?_ _)|(with_reducible refine up ?_ _)|(with_reducible refine up_drew ?_)|(with_reducible refine up_row ?_ ?_ _)|(with_reducible refine up_set ?_ ?_ _)|((try dsimp only);first|omega|exact le_size|exact le_size1|exact le_size2|exact le_size3))
set_option maxHeartbeats 400000 in
theorem len_3 (a0 a1 a2 a3 n:Int)(h:(a3 != 0)=true)(C:∀ w,Calls Tryz.prog 69 #[.int .u64 a3] w (Ret (.int .i64 n) w))(n0:0≤n)(n1:n≤64)(w:World):Calls Tryz.prog 51 #[.agg #[.int .u64 a0,.int .u64 a1,.int .u64 a2,.int .u64 a3]] w (Ret (.int .i64 (192+n)) w):=by
 replace C:=Lib.hid C
 go_enter Tryz.func51,Tryz.ntmps51
 go_wp2
 refine wp_loop_rounds 5 ?_
 rw [rounds_succ]
 go_wp2_with (first|(go_at_call 69;with_reducible refine (grow (C.out _)).mono ?_;rintro _ _ ⟨x1,rfl,rfl⟩))
 go_returns
 refine ⟨rfl,?_⟩
 repeat' (first|(with_reducible exact Below.refl _ _)|(with_reducible assumption)|(with_reducible refine up_alloc ?_ _)|(with_reducible refine up ?_ _)|(with_reducible refine up_drew ?_)|(with_reducible refine up_row ?_ ?_ _)|(with_reducible refine up_set ?_ ?_ _)|((try dsimp only);first|omega|exact le_size|exact le_size1|exact le_size2|exact le_size3))
set_option maxHeartbeats 400000 in
theorem len_2 (a0 a1 a2 a3 n:Int)(z3:(a3 != 0)=false)(h:(a2 != 0)=true)(C:∀ w,Calls Tryz.prog 69 #[.int .u64 a2] w (Ret (.int .i64 n) w))(n0:0≤n)(n1:n≤64)(w:World):Calls Tryz.prog 51 #[.agg #[.int .u64 a0,.int .u64 a1,.int .u64 a2,.int .u64 a3]] w (Ret (.int .i64 (128+n)) w):=by
 replace C:=Lib.hid C
 go_enter Tryz.func51,Tryz.ntmps51
 go_wp2
 refine wp_loop_rounds 5 ?_
 rw [rounds_succ]
 go_wp2
 rw [rounds_succ]
 go_wp2_with (first|(go_at_call 69;with_reducible refine (grow (C.out _)).mono ?_;rintro _ _ ⟨x1,rfl,rfl⟩))
 go_returns
 refine ⟨rfl,?_⟩
 repeat' (first|(with_reducible exact Below.refl _ _)|(with_reducible assumption)|(with_reducible refine up_alloc ?_ _)|(with_reducible refine up ?_ _)|(with_reducible refine up_drew ?_)|(with_reducible refine up_row ?_ ?_ _)|(with_reducible refine up_set ?_ ?_ _)|((try dsimp only);first|omega|exact le_size|exact le_size1|exact le_size2|exact le_size3))
set_option maxHeartbeats 400000 in
theorem len_1 (a0 a1 a2 a3 n:Int)(z3:(a3 != 0)=false)(z2:(a2 != 0)=false)(h:(a1 != 0)=true)(C:∀ w,Calls Tryz.prog 69 #[.int .u64 a1] w (Ret (.int .i64 n) w))(n0:0≤n)(n1:n≤64)(w:World):Calls Tryz.prog 51 #[.agg #[.int .u64 a0,.int .u64 a1,.int .u64 a2,.int .u64 a3]] w (Ret (.int .i64 (64+n)) w):=by
 replace C:=Lib.hid C
 go_enter Tryz.func51,Tryz.ntmps51
 go_wp2
 refine wp_loop_rounds 5 ?_
 rw [rounds_succ]
 go_wp2
 rw [rounds_succ]
 go_wp2
 rw [rounds_succ]
 go_wp2_with (first|(go_at_call 69;with_reducible refine (grow (C.out _)).mono ?_;rintro _ _ ⟨x1,rfl,rfl⟩))
 go_returns
 refine ⟨rfl,?_⟩
 repeat' (first|(with_reducible exact Below.refl _ _)|(with_reducible assumption)|(with_reducible refine up_alloc ?_ _)|(with_reducible refine up ?_ _)|(with_reducible refine up_drew ?_)|(with_reducible refine up_row ?_ ?_ _)|(with_reducible refine up_set ?_ ?_ _)|((try dsimp only);first|omega|exact le_size|exact le_size1|exact le_size2|exact le_size3))
set_option maxHeartbeats 400000 in
theorem len_0 (a0 a1 a2 a3 n:Int)(z3:(a3 != 0)=false)(z2:(a2 != 0)=false)(z1:(a1 != 0)=false)(h:(a0 != 0)=true)(C:∀ w,Calls Tryz.prog 69 #[.int .u64 a0] w (Ret (.int .i64 n) w))(n0:0≤n)(n1:n≤64)(w:World):Calls Tryz.prog 51 #[.agg #[.int .u64 a0,.int .u64 a1,.int .u64 a2,.int .u64 a3]] w (Ret (.int .i64 (0+n)) w):=by
 replace C:=Lib.hid C
 go_enter Tryz.func51,Tryz.ntmps51
 go_wp2
 refine wp_loop_rounds 5 ?_
 rw [rounds_succ]
 go_wp2
 rw [rounds_succ]
 go_wp2
 rw [rounds_succ]
 go_wp2
 rw [rounds_succ]
 go_wp2_with (first|(go_at_call 69;with_reducible refine (grow (C.out _)).mono ?_;rintro _ _ ⟨x1,rfl,rfl⟩))
 simp only [Int.zero_add]
 go_returns
 refine ⟨rfl,?_⟩
 repeat' (first|(with_reducible exact Below.refl _ _)|(with_reducible assumption)|(with_reducible refine up_alloc ?_ _)|(with_reducible refine up ?_ _)|(with_reducible refine up_drew ?_)|(with_reducible refine up_row ?_ ?_ _)|(with_reducible refine up_set ?_ ?_ _)|((try dsimp only);first|omega|exact le_size|exact le_size1|exact le_size2|exact le_size3))
set_option maxHeartbeats 400000 in
theorem len_no (a0 a1 a2 a3 n:Int)(z3:(a3 != 0)=false)(z2:(a2 != 0)=false)(z1:(a1 != 0)=false)(z0:(a0 != 0)=false)(w:World):Calls Tryz.prog 51 #[.agg #[.int .u64 a0,.int .u64 a1,.int .u64 a2,.int .u64 a3]] w (Ret (.int .i64 0) w):=by
 go_enter Tryz.func51,Tryz.ntmps51
 go_wp2
 refine wp_loop_rounds 5 ?_
 rw [rounds_succ]
 go_wp2
 rw [rounds_succ]
 go_wp2
 rw [rounds_succ]
 go_wp2
 rw [rounds_succ]
 go_wp2
 rw [rounds_succ]
 go_wp2
 go_returns
 refine ⟨rfl,?_⟩
 repeat' (first|(with_reducible exact Below.refl _ _)|(with_reducible assumption)|(with_reducible refine up_alloc ?_ _)|(with_reducible refine up ?_ _)|(with_reducible refine up_drew ?_)|(with_reducible refine up_row ?_ ?_ _)|(with_reducible refine up_set ?_ ?_ _)|((try dsimp only);first|omega|exact le_size|exact le_size1|exact le_size2|exact le_size3))
end Go.Proofs.YtkendlnjaopbeaaGreatDoor
namespace Go.Proofs.YtkendlnjaopbeaaGreatDoor
open Go.RowKit
set_option linter.unusedVariables false
set_option maxHeartbeats 1000000 in
theorem shl_w0 (a0 a1 a2 a3:Int)(n k:Int)(h0:0≤n)(h1:n≤255)(hq:n / 64=0)(hr:n % 64=k)(k0:0≤k)(k1:k<64)(w:World) :
  Calls Tryz.prog 62 #[.agg #[.int .u64 a0,.int .u64 a1,.int .u64 a2,.int .u64 a3],.int .i64 n] w (Ret (.agg #[.int .u64 (IntKind.u64.wrap (a0 * 2 ^ k.toNat)),.int .u64 (bits .or .u64 (IntKind.u64.wrap (a1 * 2 ^ k.toNat)) (a0 / 2 ^ (64 - k).toNat)),.int .u64 (bits .or .u64 (IntKind.u64.wrap (a2 * 2 ^ k.toNat)) (a1 / 2 ^ (64 - k).toNat)),.int .u64 (bits .or .u64 (IntKind.u64.wrap (a3 * 2 ^ k.toNat)) (a2 / 2 ^ (64 - k).toNat))]) w):=by
 have n1:¬255<n:=by omega
 have n2:¬n < -255:=by omega
 go_enter Tryz.func62,Tryz.ntmps62
 go_wp2
 refine wp_loop_rounds 5 ?_
 rw [rounds_succ]
 go_wp2
 rw [rounds_succ]
 go_wp2
 go_region
 go_wp2
 rw [rounds_succ]
 go_wp2
 go_region
 go_wp2
 rw [rounds_succ]
 go_wp2
 go_region
 go_wp2
 rw [rounds_succ]
 go_wp2
 go_returns
 refine ⟨rfl,?_⟩
 repeat' (first|(with_reducible exact Below.refl _ _)|(with_reducible assumption)|(with_reducible refine up_alloc ?_ _)|(with_reducible refine up ?_ _)|(with_reducible refine up_drew ?_)|(with_reducible refine up_row ?_ ?_ _)|(with_reducible refine up_set ?_ ?_ _)|((try dsimp only);first|omega|exact le_size|exact le_size1|exact le_size2|exact le_size3))
set_option maxHeartbeats 1000000 in
theorem shl_w1 (a0 a1 a2 a3:Int)(n k:Int)(h0:0≤n)(h1:n≤255)(hq:n / 64=1)(hr:n % 64=k)(k0:0≤k)(k1:k<64)(w:World) :
  Calls Tryz.prog 62 #[.agg #[.int .u64 a0,.int .u64 a1,.int .u64 a2,.int .u64 a3],.int .i64 n] w (Ret (.agg #[.int .u64 (0),.int .u64 (IntKind.u64.wrap (a0 * 2 ^ k.toNat)),.int .u64 (bits .or .u64 (IntKind.u64.wrap (a1 * 2 ^ k.toNat)) (a0 / 2 ^ (64 - k).toNat)),.int .u64 (bits .or .u64 (IntKind.u64.wrap (a2 * 2 ^ k.toNat)) (a1 / 2 ^ (64 - k).toNat))]) w):=by
 have n1:¬255<n:=by omega
 have n2:¬n < -255:=by omega
 go_enter Tryz.func62,Tryz.ntmps62
 go_wp2
 refine wp_loop_rounds 5 ?_
 rw [rounds_succ]
 go_wp2
 rw [rounds_succ]
 go_wp2
 go_region
 go_wp2
 rw [rounds_succ]
 go_wp2
 go_region
 go_wp2
 rw [rounds_succ]
 go_wp2
 go_returns
 refine ⟨rfl,?_⟩
 repeat' (first|(with_reducible exact Below.refl _ _)|(with_reducible assumption)|(with_reducible refine up_alloc ?_ _)|(with_reducible refine up ?_ _)|(with_reducible refine up_drew ?_)|(with_reducible refine up_row ?_ ?_ _)|(with_reducible refine up_set ?_ ?_ _)|((try dsimp only);first|omega|exact le_size|exact le_size1|exact le_size2|exact le_size3))
set_option maxHeartbeats 1000000 in
theorem shl_w2 (a0 a1 a2 a3:Int)(n k:Int)(h0:0≤n)(h1:n≤255)(hq:n / 64=2)(hr:n % 64=k)(k0:0≤k)(k1:k<64)(w:World) :
  Calls Tryz.prog 62 #[.agg #[.int .u64 a0,.int .u64 a1,.int .u64 a2,.int .u64 a3],.int .i64 n] w (Ret (.agg #[.int .u64 (0),.int .u64 (0),.int .u64 (IntKind.u64.wrap (a0 * 2 ^ k.toNat)),.int .u64 (bits .or .u64 (IntKind.u64.wrap (a1 * 2 ^ k.toNat)) (a0 / 2 ^ (64 - k).toNat))]) w):=by
 have n1:¬255<n:=by omega
 have n2:¬n < -255:=by omega
 go_enter Tryz.func62,Tryz.ntmps62
 go_wp2
 refine wp_loop_rounds 5 ?_
 rw [rounds_succ]
 go_wp2
 rw [rounds_succ]
 go_wp2
 go_region
 go_wp2
 rw [rounds_succ]
 go_wp2
 go_returns
 refine ⟨rfl,?_⟩
 repeat' (first|(with_reducible exact Below.refl _ _)|(with_reducible assumption)|(with_reducible refine up_alloc ?_ _)|(with_reducible refine up ?_ _)|(with_reducible refine up_drew ?_)|(with_reducible refine up_row ?_ ?_ _)|(with_reducible refine up_set ?_ ?_ _)|((try dsimp only);first|omega|exact le_size|exact le_size1|exact le_size2|exact le_size3))
set_option maxHeartbeats 1000000 in
theorem shl_w3 (a0 a1 a2 a3:Int)(n k:Int)(h0:0≤n)(h1:n≤255)(hq:n / 64=3)(hr:n % 64=k)(k0:0≤k)(k1:k<64)(w:World) :
  Calls Tryz.prog 62 #[.agg #[.int .u64 a0,.int .u64 a1,.int .u64 a2,.int .u64 a3],.int .i64 n] w (Ret (.agg #[.int .u64 (0),.int .u64 (0),.int .u64 (0),.int .u64 (IntKind.u64.wrap (a0 * 2 ^ k.toNat))]) w):=by
 have n1:¬255<n:=by omega
 have n2:¬n < -255:=by omega
 go_enter Tryz.func62,Tryz.ntmps62
 go_wp2
 refine wp_loop_rounds 5 ?_
 rw [rounds_succ]
 go_wp2
 rw [rounds_succ]
 go_wp2
 go_returns
 refine ⟨rfl,?_⟩
 repeat' (first|(with_reducible exact Below.refl _ _)|(with_reducible assumption)|(with_reducible refine up_alloc ?_ _)|(with_reducible refine up ?_ _)|(with_reducible refine up_drew ?_)|(with_reducible refine up_row ?_ ?_ _)|(with_reducible refine up_set ?_ ?_ _)|((try dsimp only);first|omega|exact le_size|exact le_size1|exact le_size2|exact le_size3))
end Go.Proofs.YtkendlnjaopbeaaGreatDoor
namespace Go.Proofs.YtkendlnjaopbeaaGreatDoor
open Go.RowKit
set_option linter.unusedVariables false
set_option linter.unusedSimpArgs false
theorem lw_shl0 (a q k i:Nat)(hk:k<64)(hi:i<4)(h:i<q):lw (a * 2 ^ (64 * q+k) % T256) i=0:=by
 apply Nat.eq_of_testBit_eq;intro j
 rw [lw_bit,T256_eq,Nat.testBit_mod_two_pow,Nat.testBit_mul_two_pow,Nat.zero_testBit]
 by_cases hj:j<64
 ·rw [decide_eq_false (by omega:¬64 * i+j≥64 * q+k)];simp
 ·simp [hj]
theorem lw_shl1 (a q k i:Nat)(hk:k<64)(hi:i<4)(h:i=q):lw (a * 2 ^ (64 * q+k) % T256) i=lw a 0 * 2 ^ k % 2 ^ 64:=by
 apply Nat.eq_of_testBit_eq;intro j
 rw [lw_bit,T256_eq,Nat.testBit_mod_two_pow,Nat.testBit_mul_two_pow,Nat.testBit_mod_two_pow,Nat.testBit_mul_two_pow,lw_bit]
 subst h
 by_cases hj:j<64
 ·by_cases hk':k≤j
  ·rw [show 64 * i+j - (64 * i+k)=j - k by omega,decide_eq_true (by omega:64 * i+j<256),decide_eq_true (by omega:64 * i+j≥64 * i+k),decide_eq_true (by omega:j≥k),decide_eq_true (by omega:j - k<64)]
   simp
  ·rw [decide_eq_false (by omega:¬64 * i+j≥64 * i+k),decide_eq_false (by omega:¬j≥k)];simp
 ·simp [hj]
theorem lw_shl2 (a q k i:Nat)(hk:k<64)(hi:i<4)(h:q<i):lw (a * 2 ^ (64 * q+k) % T256) i=(lw a (i - q) * 2 ^ k % 2 ^ 64) ||| (lw a (i - q - 1) / 2 ^ (64 - k)):=by
 apply Nat.eq_of_testBit_eq;intro j
 rw [lw_bit,T256_eq,Nat.testBit_mod_two_pow,Nat.testBit_mul_two_pow,Nat.testBit_or,Nat.testBit_mod_two_pow,Nat.testBit_mul_two_pow,lw_bit,Nat.testBit_div_two_pow,lw_bit]
 by_cases hj:j<64
 ·by_cases hk':k≤j
  ·rw [show 64 * i+j - (64 * q+k)=64 * (i - q)+(j - k) by omega,decide_eq_true (by omega:64 * i+j<256),decide_eq_true (by omega:64 * i+j≥64 * q+k),decide_eq_true (by omega:j≥k),decide_eq_true (by omega:j - k<64),decide_eq_false (by omega:¬j+(64 - k)<64)]
   simp
  ·rw [show 64 * i+j - (64 * q+k)=64 * (i - q - 1)+(j+(64 - k)) by omega,decide_eq_true (by omega:64 * i+j<256),decide_eq_true (by omega:64 * i+j≥64 * q+k),decide_eq_false (by omega:¬j≥k),decide_eq_true (by omega:j+(64 - k)<64)]
   simp [hj]
 ·rw [decide_eq_false (by omega:¬j+(64 - k)<64)];simp [hj]
theorem lw_shr1 (a q k i:Nat)(ha:a<T256)(hk:k<64)(h:i+q=3):lw (a / 2 ^ (64 * q+k)) i=lw a 3 / 2 ^ k:=by
 apply Nat.eq_of_testBit_eq;intro j
 rw [lw_bit,Nat.testBit_div_two_pow,Nat.testBit_div_two_pow,lw_bit,show 64 * i+j+(64 * q+k)=64 * 3+(j+k) by omega]
 by_cases hj:j+k<64
 ·rw [decide_eq_true hj,decide_eq_true (by omega:j<64)]
 ·rw [decide_eq_false hj,Nat.testBit_lt_two_pow (Nat.lt_of_lt_of_le (T256_eq ▸ ha) (Nat.pow_le_pow_right (by omega) (by omega)))];simp
theorem shl_all (a n:Nat)(ha:a<T256)(hn:n≤255)(w:World):Calls Tryz.prog 62 #[num a,.int .i64 n] w (Ret (num (a * 2 ^ n % T256)) w):=by
 obtain ⟨q,k,hk,rfl⟩:∃ q k,k<64∧n=64 * q+k:=⟨n / 64,n % 64,Nat.mod_lt _ (by omega),(Nat.div_add_mod _ _).symm⟩
 have hq:q=0∨q=1∨q=2∨q=3:=by omega
 have hk0:((k:Nat):Int).toNat=k:=by omega
 have hk1:(64 - (k:Int)).toNat=64 - k:=by omega
 have hl:=fun i=>lw_lt a i
 have s (i:Nat):=dn_lt (64 - k) (hl i)
 have u (i:Nat):=up_lt (lw a i) k
 simp only [num,limb_lw]
 rcases hq with rfl|rfl|rfl|rfl
 ·have h:=shl_w0 (lw a 0) (lw a 1) (lw a 2) (lw a 3) ((64 * 0+k:Nat):Int) k (by omega) (by omega) (by omega) (by omega) (by omega) (by omega) w
  rw [hk0,hk1] at h
  simp only [int_shl,int_shr,int_or _ _ (u _) (s _)] at h
  rw [lw_shl1 a 0 k 0 hk (by omega) rfl,lw_shl2 a 0 k 1 hk (by omega) (by omega),lw_shl2 a 0 k 2 hk (by omega) (by omega),lw_shl2 a 0 k 3 hk (by omega) (by omega)]
  exact h
 ·have h:=shl_w1 (lw a 0) (lw a 1) (lw a 2) (lw a 3) ((64 * 1+k:Nat):Int) k (by omega) (by omega) (by omega) (by omega) (by omega) (by omega) w
  rw [hk0,hk1] at h
  simp only [int_shl,int_shr,int_or _ _ (u _) (s _)] at h
  rw [lw_shl0 a 1 k 0 hk (by omega) (by omega),lw_shl1 a 1 k 1 hk (by omega) rfl,lw_shl2 a 1 k 2 hk (by omega) (by omega),lw_shl2 a 1 k 3 hk (by omega) (by omega)]
  exact h
 ·have h:=shl_w2 (lw a 0) (lw a 1) (lw a 2) (lw a 3) ((64 * 2+k:Nat):Int) k (by omega) (by omega) (by omega) (by omega) (by omega) (by omega) w
  rw [hk0,hk1] at h
  simp only [int_shl,int_shr,int_or _ _ (u _) (s _)] at h
  rw [lw_shl0 a 2 k 0 hk (by omega) (by omega),lw_shl0 a 2 k 1 hk (by omega) (by omega),lw_shl1 a 2 k 2 hk (by omega) rfl,lw_shl2 a 2 k 3 hk (by omega) (by omega)]
  exact h
 ·have h:=shl_w3 (lw a 0) (lw a 1) (lw a 2) (lw a 3) ((64 * 3+k:Nat):Int) k (by omega) (by omega) (by omega) (by omega) (by omega) (by omega) w
  rw [hk0] at h
  simp only [int_shl,int_shr] at h
  rw [lw_shl0 a 3 k 0 hk (by omega) (by omega),lw_shl0 a 3 k 1 hk (by omega) (by omega),lw_shl0 a 3 k 2 hk (by omega) (by omega),lw_shl1 a 3 k 3 hk (by omega) rfl]
  exact h
theorem mod2_of_bit {x y i j:Nat}(h:x.testBit i=y.testBit j):x / 2 ^ i % 2=y / 2 ^ j % 2:=by
 rw [Nat.testBit_eq_decide_div_mod_eq,Nat.testBit_eq_decide_div_mod_eq] at h
 have:=decide_eq_decide.1 h
 omega
theorem bit_plain (a q k:Nat)(hk:k<64):bits .and .u64 ((lw a q:Int) / 2 ^ k) 1=((a / 2 ^ (64 * q+k) % 2:Nat):Int):=by
 rw [int_shr,show (1:Int)=((1:Nat):Int) from rfl,bits_and_u64_nat _ _ (dn_lt k (lw_lt a q)) (by omega),Nat.and_one_is_mod]
 congr 1
 exact mod2_of_bit (by rw [lw_bit,decide_eq_true hk];rfl)
theorem bit_all (a i:Nat)(ha:a<T256)(hi:i≤255)(w:World):Calls Tryz.prog 53 #[num a,.int .i64 i] w (Ret (.int .u64 ((a / 2 ^ i % 2:Nat):Int)) w):=by
 obtain ⟨q,k,hk,rfl⟩:∃ q k,k<64∧i=64 * q+k:=⟨i / 64,i % 64,Nat.mod_lt _ (by omega),(Nat.div_add_mod _ _).symm⟩
 have hq:q=0∨q=1∨q=2∨q=3:=by omega
 have hk0:((k:Nat):Int).toNat=k:=by omega
 rw [←bit_plain a q k hk]
 simp only [num,limb_lw]
 rcases hq with rfl|rfl|rfl|rfl
 ·have h:=bit_w0 (lw a 0) (lw a 1) (lw a 2) (lw a 3) ((64 * 0+k:Nat):Int) k (by omega) (by omega) (by omega) (by omega) (by omega) (by omega) w
  rwa [hk0] at h
 ·have h:=bit_w1 (lw a 0) (lw a 1) (lw a 2) (lw a 3) ((64 * 1+k:Nat):Int) k (by omega) (by omega) (by omega) (by omega) (by omega) (by omega) w
  rwa [hk0] at h
 ·have h:=bit_w2 (lw a 0) (lw a 1) (lw a 2) (lw a 3) ((64 * 2+k:Nat):Int) k (by omega) (by omega) (by omega) (by omega) (by omega) (by omega) w
  rwa [hk0] at h
 ·have h:=bit_w3 (lw a 0) (lw a 1) (lw a 2) (lw a 3) ((64 * 3+k:Nat):Int) k (by omega) (by omega) (by omega) (by omega) (by omega) (by omega) w
  rwa [hk0] at h
def blen (a:Nat):Nat:=if a=0 then 0 else Nat.log2 a+1
theorem blen_le {a n:Nat}:blen a≤n↔a<2 ^ n:=by
 unfold blen
 by_cases h:a=0
 ·subst h;simp [Nat.two_pow_pos]
 ·rw [if_neg h,Nat.succ_le_iff,Nat.log2_lt h]
theorem lt_blen {a n:Nat}:n<blen a↔2 ^ n≤a:=by
 rw [←Nat.not_le,blen_le,Nat.not_lt]
theorem blen_aux:∀ (f x:Nat),x<2 ^ f→Lib.bitLenAux f x=blen x
 | 0,x,h=>by
  have:x=0:=by omega
  subst this;rfl
 | f+1,x,h=>by
  unfold Lib.bitLenAux
  by_cases h0:x=0
  ·subst h0;rfl
  ·rw [if_neg h0,blen_aux f (x / 2) (by rw [Nat.pow_succ] at h;omega)]
   unfold blen
   rw [if_neg h0]
   by_cases h1:x / 2=0
   ·have:x=1:=by omega
    subst this;decide
   ·rw [if_neg h1]
    conv=>rhs;rw [Nat.log2_def]
    rw [if_pos (by omega)];omega
theorem blen_div (a s:Nat)(h:a / 2 ^ s≠0):blen a=s+blen (a / 2 ^ s):=by
 have p:0<2 ^ s:=Nat.two_pow_pos s
 apply Nat.le_antisymm
 ·rw [blen_le,Nat.pow_add]
  have h1:a / 2 ^ s<2 ^ blen (a / 2 ^ s):=blen_le.1 (Nat.le_refl _)
  have:=(Nat.div_lt_iff_lt_mul p).1 h1
  rw [Nat.mul_comm] at this
  exact this
 ·have h1:0<blen (a / 2 ^ s):=lt_blen.2 (by rw [Nat.pow_zero];exact Nat.pos_of_ne_zero h)
  obtain ⟨m,hm⟩:∃ m,blen (a / 2 ^ s)=m+1:=⟨blen (a / 2 ^ s) - 1,by omega⟩
  have h2:2 ^ m≤a / 2 ^ s:=lt_blen.1 (by omega)
  rw [hm]
  have:s+m<blen a:=by
   rw [lt_blen,Nat.pow_add,Nat.mul_comm]
   exact (Nat.le_div_iff_mul_le p).1 h2
  omega
theorem len64_all (x:Nat)(h:x<18446744073709551616)(w:World):Calls Tryz.prog 69 #[.int .u64 x] w (Ret (.int .i64 (blen x:Nat)) w):=by
 have k:=len64 x (by omega) (by omega) w
 rw [show Lib.bitLen (x:Int).toNat=blen x from blen_aux 64 x h] at k
 exact k
theorem blen_64 {x:Nat}(h:x<18446744073709551616):blen x≤64:=blen_le.2 h
theorem lw_top {a i:Nat}(h:∀ j,i<j→j<4→lw a j=0)(ha:a<T256)(hi:i<4):lw a i=a / 2 ^ (64 * i):=by
 apply Nat.eq_of_testBit_eq;intro j
 rw [lw_bit,Nat.testBit_div_two_pow,Nat.add_comm j]
 by_cases hj:j<64
 ·simp [hj]
 ·rw [decide_eq_false hj,Bool.false_and]
  symm
  obtain ⟨m,r,hr,e⟩:∃ m r,r<64∧64 * i+j=64 * m+r:=⟨(64 * i+j) / 64,(64 * i+j) % 64,Nat.mod_lt _ (by omega),(Nat.div_add_mod _ _).symm⟩
  rw [e]
  by_cases hm:m<4
  ·have h1:=lw_bit a m r
   rw [h m (by omega) hm,Nat.zero_testBit,decide_eq_true hr,Bool.true_and] at h1
   exact h1.symm
  ·exact Nat.testBit_lt_two_pow (Nat.lt_of_lt_of_le (T256_eq ▸ ha) (Nat.pow_le_pow_right (by omega) (by omega)))
theorem ne_bool {x:Nat}(h:x≠0):(((x:Nat):Int) != 0)=true:=by simpa using h
theorem eq_bool {x:Nat}(h:x=0):(((x:Nat):Int) != 0)=false:=by simpa using h
theorem len_all (a:Nat)(ha:a<T256)(w:World):Calls Tryz.prog 51 #[num a] w (Ret (.int .i64 (blen a:Nat)) w):=by
 simp only [num,limb_lw]
 by_cases h3:lw a 3=0
 ·by_cases h2:lw a 2=0
  ·by_cases h1:lw a 1=0
   ·have e:=lw_top (a:=a) (i:=0) (fun j h h'=>by
     have:j=1∨j=2∨j=3:=by omega
     rcases this with rfl|rfl|rfl <;> assumption) ha (by omega)
    rw [Nat.mul_zero,Nat.pow_zero,Nat.div_one] at e
    by_cases h0:lw a 0=0
    ·have:=len_no (lw a 0) (lw a 1) (lw a 2) (lw a 3) 0 (eq_bool h3) (eq_bool h2) (eq_bool h1) (eq_bool h0) w
     rw [show blen a=0 by rw [←e,h0];rfl]
     exact this
    ·have:=len_0 (lw a 0) (lw a 1) (lw a 2) (lw a 3) _ (eq_bool h3) (eq_bool h2) (eq_bool h1) (ne_bool h0) (len64_all _ (lw_lt a 0)) (by omega) (by have:=blen_64 (lw_lt a 0);omega) w
     rw [show blen (lw a 0)=blen a by rw [e]] at this
     simpa using this
   ·have e:=lw_top (a:=a) (i:=1) (fun j h h'=>by
     have:j=2∨j=3:=by omega
     rcases this with rfl|rfl <;> assumption) ha (by omega)
    have:=len_1 (lw a 0) (lw a 1) (lw a 2) (lw a 3) _ (eq_bool h3) (eq_bool h2) (ne_bool h1) (len64_all _ (lw_lt a 1)) (by omega) (by have:=blen_64 (lw_lt a 1);omega) w
    rw [blen_div a 64 (by rw [←e];exact h1),←show lw a 1=a / 2 ^ 64 from e]
    simpa using this
  ·have e:=lw_top (a:=a) (i:=2) (fun j h h'=>by
    have:j=3:=by omega
    subst this;assumption) ha (by omega)
   have:=len_2 (lw a 0) (lw a 1) (lw a 2) (lw a 3) _ (eq_bool h3) (ne_bool h2) (len64_all _ (lw_lt a 2)) (by omega) (by have:=blen_64 (lw_lt a 2);omega) w
   rw [blen_div a 128 (by rw [←show lw a 2=a / 2 ^ 128 from e];exact h2),←show lw a 2=a / 2 ^ 128 from e]
   simpa using this
 ·have e:=lw_top (a:=a) (i:=3) (fun j h h'=>by omega) ha (by omega)
  have:=len_3 (lw a 0) (lw a 1) (lw a 2) (lw a 3) _ (ne_bool h3) (len64_all _ (lw_lt a 3)) (by omega) (by have:=blen_64 (lw_lt a 3);omega) w
  rw [blen_div a 192 (by rw [←show lw a 3=a / 2 ^ 192 from e];exact h3),←show lw a 3=a / 2 ^ 192 from e]
  simpa using this
end Go.Proofs.YtkendlnjaopbeaaGreatDoor
namespace Go.Proofs.YtkendlnjaopbeaaGreatDoor
open Go.RowKit
set_option linter.unusedVariables false
theorem shl_nu (a n:Nat)(ha:a<T256)(hn:n≤255)(w:World):Calls Tryz.prog 62 #[nu a,.int .i64 n] w (Ret (nu (a * 2 ^ n % T256)) w):=by
 rw [←nu_num,←nu_num];exact shl_all a n ha hn w
theorem bit_nu (a i:Nat)(ha:a<T256)(hi:i≤255)(w:World):Calls Tryz.prog 53 #[nu a,.int .i64 i] w (Ret (.int .u64 ((a / 2 ^ i % 2:Nat):Int)) w):=by
 rw [←nu_num];exact bit_all a i ha hi w
theorem len_nu (a:Nat)(ha:a<T256)(w:World):Calls Tryz.prog 51 #[nu a] w (Ret (.int .i64 (blen a:Nat)) w):=by
 rw [←nu_num];exact len_all a ha w
end Go.Proofs.YtkendlnjaopbeaaGreatDoor
namespace Go.Proofs.YtkendlnjaopbeaaGreatDoor
open Go.RowKit
set_option maxRecDepth 100000
set_option linter.unusedVariables false
set_option maxHeartbeats 1000000 in
theorem wide_words (a0 a1 a2 a3 b0 b1 b2 b3:Int)(w:World) :
  Calls Tryz.prog 100 #[.agg #[.int .u64 a0,.int .u64 a1,.int .u64 a2,.int .u64 a3],.agg #[.int .u64 b0,.int .u64 b1,.int .u64 b2,.int .u64 b3]] w
   (Ret (.agg #[.int .u64 a0,.int .u64 a1,.int .u64 a2,.int .u64 a3,.int .u64 b0,.int .u64 b1,.int .u64 b2,.int .u64 b3]) w):=by
 have k1:=run_copy_row (P:=Tryz.prog) (((((w.alloc (.cells #[.int .u64 a0,.int .u64 a1,.int .u64 a2,.int .u64 a3] 46)).alloc (.cells #[.int .u64 b0,.int .u64 b1,.int .u64 b2,.int .u64 b3] 46)).alloc (.cells #[.int .u64 0,.int .u64 0,.int .u64 0,.int .u64 0,.int .u64 0,.int .u64 0,.int .u64 0,.int .u64 0] 130)).alloc (.cells #[.int .u64 0,.int .u64 0,.int .u64 0,.int .u64 0,.int .u64 0,.int .u64 0,.int .u64 0,.int .u64 0] 130)).drew)
  176 176 3 44 (w.heap.size+1+1+1) 0 4 8 ⟨w.heap.size,0,none⟩ 4 4 _ 130 [.int .u64 a0,.int .u64 a1,.int .u64 a2,.int .u64 a3]
  (by kernel_rfl) (by kernel_rfl) (hdr nw3) (by rfl) (src_of (hdr (ho (ho (ho nw)))) rfl) (by simp) (by simp [Value.oneCell'])
 have k2:=run_copy_row (P:=Tryz.prog) (((((w.alloc (.cells #[.int .u64 a0,.int .u64 a1,.int .u64 a2,.int .u64 a3] 46)).alloc (.cells #[.int .u64 b0,.int .u64 b1,.int .u64 b2,.int .u64 b3] 46)).alloc (.cells #[.int .u64 0,.int .u64 0,.int .u64 0,.int .u64 0,.int .u64 0,.int .u64 0,.int .u64 0,.int .u64 0] 130)).alloc (.cells #[.int .u64 a0,.int .u64 a1,.int .u64 a2,.int .u64 a3,.int .u64 0,.int .u64 0,.int .u64 0,.int .u64 0] 130)).drew.drew)
  176 176 3 44 (w.heap.size+1+1+1) 4 4 4 ⟨w.heap.size+1,0,none⟩ 4 4 _ 130 [.int .u64 b0,.int .u64 b1,.int .u64 b2,.int .u64 b3]
  (by kernel_rfl) (by kernel_rfl) (hdr (hdr nw3)) (by rfl) (src_of (hdr (hdr (ho (ho nw1)))) rfl) (by simp) (by simp [Value.oneCell'])
 have e (v:World) (n:Nat) (c:Array Value):v.drew.setRow n c=(v.setRow n c).drew:=rfl
 rw [e,setRow_new _ _ _ _ _ (by simp)] at k1
 rw [e,e,setRow_new _ _ _ _ _ (by simp)] at k2
 simp only [goInt,List.length_cons,List.length_nil,List.take_zero,List.nil_append,List.drop_succ_cons,List.drop_zero,List.cons_append,List.take_succ_cons,List.drop_nil,List.append_nil,Nat.zero_add,Nat.reduceAdd] at k1 k2
 go_enter Tryz.func100,Tryz.ntmps100
 go_wp2
 go_region
 go_wp2
 go_region
 go_wp2
 go_returns
 refine ⟨rfl,?_⟩
 repeat' (first|(with_reducible exact Below.refl _ _)|(with_reducible assumption)|(with_reducible refine up_alloc ?_ _)|(with_reducible refine up ?_ _)|(with_reducible refine up_drew ?_)|(with_reducible refine up_row ?_ ?_ _)|(with_reducible refine up_set ?_ ?_ _)|((try dsimp only);first|omega|exact le_size|exact le_size1|exact le_size2|exact le_size3))
theorem wide_all (a b:Nat)(ha:a<T256)(w:World):Calls Tryz.prog 100 #[num a,num b] w (Ret (wide (a+T256 * b)) w):=by
 have h:=limb_two a b ha
 have k:=wide_words (limb a 0) (limb a 1) (limb a 2) (limb a 3) (limb b 0) (limb b 1) (limb b 2) (limb b 3) w
 simp only [wide,h.1,h.2.1,h.2.2.1,h.2.2.2.1,h.2.2.2.2.1,h.2.2.2.2.2.1,h.2.2.2.2.2.2.1,h.2.2.2.2.2.2.2]
 exact k
end Go.Proofs.YtkendlnjaopbeaaGreatDoor
namespace Go.Proofs.YtkendlnjaopbeaaGreatDoor
open Go.RowKit
set_option maxRecDepth 100000
set_option linter.unusedVariables false
theorem wide_nu (a b:Nat)(ha:a<T256)(w:World):Calls Tryz.prog 100 #[nu a,nu b] w (Ret (wi (a+T256 * b)) w):=by
 rw [←nu_num,←nu_num,←wi_wide];exact wide_all a b ha w
end Go.Proofs.YtkendlnjaopbeaaGreatDoor
namespace Go.Proofs.YtkendlnjaopbeaaGreatDoor
open Go.RowKit
set_option maxRecDepth 100000
set_option linter.unusedVariables false
theorem half_step (a j:Nat):a / 2 ^ j=2 * (a / 2 ^ (j+1))+a / 2 ^ j % 2:=by
 rw [Nat.pow_succ,←Nat.div_div_eq_div_mul]
 omega
theorem div_step {a m j R Q b:Nat}(hm:0<m)(hR:R=a / 2 ^ (j+1) % m)(hQ:Q=a / 2 ^ (j+1) / m)(hb:b=a / 2 ^ j % 2) :
  (m≤2 * R+b→a / 2 ^ j % m=2 * R+b - m∧a / 2 ^ j / m=2 * Q+1)∧(2 * R+b<m→a / 2 ^ j % m=2 * R+b∧a / 2 ^ j / m=2 * Q):=by
 have h:=half_step a j
 rw [←hb] at h
 have hd:=Nat.div_add_mod (a / 2 ^ (j+1)) m
 rw [←hR,←hQ] at hd
 have hl:R<m:=by rw [hR];exact Nat.mod_lt _ hm
 have hb2:b<2:=by rw [hb];exact Nat.mod_lt _ (by omega)
 generalize a / 2 ^ (j+1)=A at *
 generalize a / 2 ^ j=B at *
 have e:B=m * (2 * Q)+(2 * R+b):=by
  have e2:m * (2 * Q)=2 * (m * Q):=by rw [Nat.mul_left_comm]
  rw [h,e2];omega
 constructor
 ·intro hge
  have e':B=(2 * R+b - m)+m * (2 * Q+1):=by
   rw [e,Nat.mul_add,Nat.mul_one];omega
  rw [e']
  constructor
  ·rw [Nat.add_mul_mod_self_left];exact Nat.mod_eq_of_lt (by omega)
  ·rw [Nat.add_mul_div_left _ _ hm,Nat.div_eq_of_lt (by omega)];omega
 ·intro hlt
  have e':B=(2 * R+b)+m * (2 * Q):=by rw [e];omega
  rw [e']
  constructor
  ·rw [Nat.add_mul_mod_self_left];exact Nat.mod_eq_of_lt hlt
  ·rw [Nat.add_mul_div_left _ _ hm,Nat.div_eq_of_lt hlt];omega
def dvR (a m k:Nat):Nat:=a / 2 ^ k % m
def dvQ (a m k:Nat):Nat:=a / 2 ^ k / m * 2 ^ k
theorem div_pow_top {a T M N:Nat}(ha:a<T)(h:T=2 ^ M)(e:N=M):a / 2 ^ N=0:=by
 subst e
 exact Nat.div_eq_of_lt (Nat.lt_of_lt_of_eq ha h)
theorem dv_top (a m N:Nat)(ha:a<T512)(hN:N=512):dvR a m N=0∧dvQ a m N=0:=by
 have h:a / 2 ^ N=0:=div_pow_top ha T512_eq hN
 unfold dvR dvQ
 rw [h]
 exact ⟨Nat.zero_mod m,by rw [Nat.zero_div,Nat.zero_mul]⟩
theorem top_bit (R:Nat)(h:R<T256):limb R 3 / 9223372036854775808=((R / 2 ^ 255:Nat):Int)∧R / 2 ^ 255<2:=by
 rw [limb3]
 have e255:(2:Nat) ^ 255=57896044618658097711785492504343953926634992332820282019728792003956564819968:=by decide +kernel
 unfold T256 at h
 rw [e255]
 constructor <;> omega
theorem limb_put0 (r b:Nat)(h2:r % 2=0)(hb:b<2):bits .or .u64 (limb r 0) (b:Int)=limb (r+b) 0∧∀ i,i<4→i≠0→limb r i=limb (r+b) i:=by
 constructor
 ·rw [limb_lw,int_or _ _ (lw_lt r 0) (by omega),limb_lw]
  congr 1
  have hb':b=0∨b=1:=by omega
  unfold lw
  simp only [Nat.mul_zero,Nat.pow_zero,Nat.div_one]
  rcases hb' with rfl|rfl
  ·simp
  ·have e:(r+1) % 2 ^ 64=r % 2 ^ 64+1:=by omega
   rw [e]
   have hx:r % 2 ^ 64=2 * (r % 2 ^ 64 / 2):=by omega
   generalize r % 2 ^ 64 / 2=y at hx
   rw [hx]
   have:=Nat.two_pow_add_eq_or_of_lt (i:=1) (b:=1) (by omega) y
   rw [show (2:Nat) ^ 1 * y=2 * y by omega] at this
   exact this.symm
 ·intro i hi h0
  rw [limb_lw,limb_lw]
  congr 1
  unfold lw
  congr 1
  have:i=1∨i=2∨i=3:=by omega
  rcases this with rfl|rfl|rfl <;> (simp only [Nat.reduceMul,Nat.reducePow];omega)
theorem limb_putbit (q j:Nat)(hj:j<512)(hq:q % 2 ^ (j+1)=0):bits .or .u64 (limb q (j / 64)) (((2 ^ (j % 64):Nat)):Int)=limb (q+2 ^ j) (j / 64)∧∀ i,i<8→i≠j / 64→limb q i=limb (q+2 ^ j) i:=by
 have hor:q+2 ^ j=q ||| 2 ^ j:=by
  obtain ⟨c,hc⟩:=Nat.dvd_of_mod_eq_zero hq
  rw [hc]
  have:=Nat.two_pow_add_eq_or_of_lt (i:=j+1) (b:=2 ^ j) (Nat.pow_lt_pow_right (by omega) (by omega)) c
  exact this
 have hlt:2 ^ (j % 64)<18446744073709551616:=by
  have:=Nat.pow_lt_pow_right (a:=2) (by omega) (Nat.mod_lt j (show 0<64 by omega))
  exact this
 constructor
 ·rw [limb_lw,int_or _ _ (lw_lt q _) hlt,limb_lw]
  congr 1
  apply Nat.eq_of_testBit_eq
  intro k
  rw [Nat.testBit_or,lw_bit,lw_bit,hor,Nat.testBit_or,Nat.testBit_two_pow,Nat.testBit_two_pow]
  have hd:=Nat.div_add_mod j 64
  by_cases hk:k<64
  ·simp only [hk,decide_true,Bool.true_and]
   congr 1
   by_cases h:j % 64=k
   ·subst h;simp [hd]
   ·have:¬j=64 * (j / 64)+k:=by omega
    simp [h,this]
  ·have:¬j % 64=k:=by have:=Nat.mod_lt j (show 0<64 by omega);omega
   simp [hk,this]
 ·intro i hi hne
  rw [limb_lw,limb_lw]
  congr 1
  apply Nat.eq_of_testBit_eq
  intro k
  rw [lw_bit,lw_bit,hor,Nat.testBit_or,Nat.testBit_two_pow]
  by_cases hk:k<64
  ·have:¬j=64 * i+k:=by omega
   simp [this]
  ·simp [hk]
theorem bit_wide (a j:Nat):bits .and .u64 (limb a (j / 64) / 2 ^ ((j:Int) % 64).toNat) 1=((a / 2 ^ j % 2:Nat):Int):=by
 have e:((j:Int) % 64).toNat=j % 64:=by omega
 rw [e,limb_lw,bit_plain a (j / 64) (j % 64) (Nat.mod_lt _ (by omega)),Nat.div_add_mod]
end Go.Proofs.YtkendlnjaopbeaaGreatDoor
namespace Go.Proofs.YtkendlnjaopbeaaGreatDoor
open Go.RowKit
set_option maxRecDepth 100000
set_option linter.unusedVariables false
set_option linter.unusedSimpArgs false
set_option maxRecDepth 8000
set_option maxHeartbeats 1000000 in
theorem divmod_zero (a:Nat)(w:World):Calls Tryz.prog 74 [wi a,nu 0].toArray w (Ret (.tuple #[wi 0,nu 0,.int .i64 1]) w):=by
 have q:∀ w:World,(Op.equalIn 10000 46 (nu 0) (nu 0)).run Tryz.prog w=.ok true w:=fun w=>by rw [eq_nu 0 0 (by decide) (by decide)];rfl
 refine fn_ret (N:=_) Tryz.func74 rfl Tryz.ntmps74 Tryz.results74 (by simp) ?_
 simp only [initS,Nat.reduceAdd,Nat.zero_add]
 repeat' (first|(refine wlB ?_)|((with_reducible refine sel_b_eql ?_);refine wv rfl rfl (rd_eqlV rfl rfl rfl (by with_reducible exact q)) ?_)|(refine wlE ?_)|(refine efZCnn ?_;intro n hn)|(refine efBnn ?_;intro n hn)|(refine efB ?_)|(refine wl_skip rfl rfl ?_)|(refine wdV ?_)|(refine wdB ?_)|(refine wd_pure hm0 rfl rfl rfl rfl rvB ?_)|((with_reducible refine seld_load ?_);first|refine wd_ld hm0 rfl rfl rfl rfl rfl rfl (by repeat (first|exact Inn.here|refine Inn.there ?_)) (ld_whole (Has.inn Inn.here)) ?_|refine wd_ld hm0 rfl rfl rfl rfl rfl rfl (by repeat (first|exact Inn.here|refine Inn.there ?_)) (ld_cell (Has.inn Inn.here)) ?_|refine wd_ld hm0 rfl rfl rfl rfl rfl rfl (by repeat (first|exact Inn.here|refine Inn.there ?_)) (ld_row (Has.inn Inn.here)) ?_)|(refine wdT ?_)|(refine wd_skip rfl rfl ?_)|((with_reducible refine seld_nil ?_);refine wd_nil hm0 ?_;clear hm0 hw0)|((with_reducible refine wc_seq ?_);intro K hK)|(refine auC ?_)|(refine wc_cond rfl (fun hc=>?_) (fun hc=>?_))|(refine wc_draw (by kernel_rfl) (by kernel_rfl) (by decide +kernel) ?_;intro w0 hw0 hm0;(try simp only [List.append_eq,List.cons_append,List.nil_append]))|(refine wc_drawS [4,5] (by kernel_rfl) (by kernel_rfl) (by decide +kernel) (by decide +kernel) ?_;intro w0 hw0 hm0;(try simp only [List.append_eq,List.cons_append,List.nil_append]))|(refine auP ?_)|((refine auR ?_);clear hK K)|(refine auR ?_)|((with_reducible refine hK _ _ ?_);clear hK K)|fail)
 first|refine end_ret (ResP.cell rfl ld_whole (ResP.cell rfl ld_whole (ResP.tmp rfl ResP.nil))) ?_|refine end_normal (ResP.cell rfl ld_whole (ResP.cell rfl ld_whole (ResP.tmp rfl ResP.nil))) ?_
 first|rfl|(show _=_;rfl)|(simp only [tupV, *];done)
set_option maxHeartbeats 4000000 in
theorem divmod_pos (a m:Nat)(ha:a<T512)(hm:m<T256)(h0:0<m)(w:World):Calls Tryz.prog 74 [wi a,nu m].toArray w (Ret (.tuple #[wi (a / m),nu (a % m),.int .i64 0]) w):=by
 have q:∀ w:World,(Op.equalIn 10000 46 (nu m) (nu 0)).run Tryz.prog w=.ok false w:=fun w=>by rw [eq_nu m 0 hm (by decide),decide_eq_false (by omega)]
 refine fn_ret (N:=_) Tryz.func74 rfl Tryz.ntmps74 Tryz.results74 (by simp) ?_
 simp only [initS,Nat.reduceAdd,Nat.zero_add]
 repeat' (first|(refine wlB ?_)|((with_reducible refine sel_b_eql ?_);refine wv rfl rfl (rd_eqlV rfl rfl rfl (by with_reducible exact q)) ?_)|(refine wlE ?_)|(refine efZCnn ?_;intro n hn)|(refine efBnn ?_;intro n hn)|(refine efB ?_)|(refine wl_skip rfl rfl ?_)|(refine wdV ?_)|(refine wdB ?_)|(refine wd_pure hm0 rfl rfl rfl rfl rvB ?_)|((with_reducible refine seld_load ?_);first|refine wd_ld hm0 rfl rfl rfl rfl rfl rfl (by repeat (first|exact Inn.here|refine Inn.there ?_)) (ld_whole (Has.inn Inn.here)) ?_|refine wd_ld hm0 rfl rfl rfl rfl rfl rfl (by repeat (first|exact Inn.here|refine Inn.there ?_)) (ld_cell (Has.inn Inn.here)) ?_|refine wd_ld hm0 rfl rfl rfl rfl rfl rfl (by repeat (first|exact Inn.here|refine Inn.there ?_)) (ld_row (Has.inn Inn.here)) ?_)|(refine wdT ?_)|(refine wd_skip rfl rfl ?_)|((with_reducible refine seld_nil ?_);refine wd_nil hm0 ?_;clear hm0 hw0)|((with_reducible refine wc_seq ?_);intro K hK)|(refine auC ?_)|(refine wc_cond rfl (fun hc=>?_) (fun hc=>?_))|(refine wc_draw (by kernel_rfl) (by kernel_rfl) (by decide +kernel) ?_;intro w0 hw0 hm0;(try simp only [List.append_eq,List.cons_append,List.nil_append]))|(refine wc_drawS [4,5] (by kernel_rfl) (by kernel_rfl) (by decide +kernel) (by decide +kernel) ?_;intro w0 hw0 hm0;(try simp only [List.append_eq,List.cons_append,List.nil_append]))|(refine auP ?_)|((refine auR ?_);clear hK K)|(refine auR ?_)|((with_reducible refine hK _ _ ?_);clear hK K)|fail)
 rename_i n2 g2 n3 g3 n4 g4 n5 g5 n7 g7
 obtain ⟨n8,rfl⟩:∃ n8,n8=n:=⟨n,rfl⟩
 have ⟨z1,z2⟩:=dv_top a m 512 ha rfl
 refine wc_loop (σ:=Nat) (fun k=>[(2,ptr n2),(3,ptr n3),(4,ptr n4),(5,ptr n5),(7,ptr n7),(8,ptr n8),(9,.int .i64 ((k:Int) - 1))])
  (fun k=>[(n8,numC (dvR a m k),46),(n7,wideC (dvQ a m k),130),(n5,numC 0,46),(n4,wideC 0,130),(n3,numC m,46),(n2,wideC a,130)])
  (fun k=>k≤512) id 512 (Nat.le_refl _) (Fits.of ⟨rfl,rfl,rfl,rfl,rfl,rfl,rfl,trivial⟩ (by
   show SubL [(n8,numC (dvR a m 512),46),(n7,wideC (dvQ a m 512),130),(n5,numC 0,46),(n4,wideC 0,130),(n3,numC m,46),(n2,wideC a,130)] _
   rw [z1,z2]
   repeat (first|exact SubL.nil|exact SubL.refl _|refine SubL.keep ?_|exact SubL.headA _ _|refine SubL.keepA ?_ _|refine SubL.skip ?_|refine SubL.skipA ?_ _)) rfl) ?_
 clear z1 z2
 intro k hk
 rcases k with _|j
 ·have ht:decide ((((0:Nat):Int) - 1)≥0)=false:=rfl
  have d1:dvR a m 0=a % m:=by unfold dvR;rw [Nat.pow_zero,Nat.div_one]
  have d2:dvQ a m 0=a / m:=by unfold dvQ;rw [Nat.pow_zero,Nat.div_one,Nat.mul_one]
  simp only [d1,d2]
  clear d1 d2
  repeat' (first|(refine wlB ?_)|(refine wlE ?_)|(refine efBnn ?_;intro n hn)|(refine efB ?_)|(refine wl_skip rfl rfl ?_)|(refine wdV ?_)|(refine wdB ?_)|(refine wd_pure hm0 rfl rfl rfl rfl rvB ?_)|((with_reducible refine seld_load ?_);first|refine wd_ld hm0 rfl rfl rfl rfl rfl rfl (by repeat (first|exact Inn.here|refine Inn.there ?_)) (ld_whole (Has.inn Inn.here)) ?_|refine wd_ld hm0 rfl rfl rfl rfl rfl rfl (by repeat (first|exact Inn.here|refine Inn.there ?_)) (ld_cell (Has.inn Inn.here)) ?_|refine wd_ld hm0 rfl rfl rfl rfl rfl rfl (by repeat (first|exact Inn.here|refine Inn.there ?_)) (ld_row (Has.inn Inn.here)) ?_)|(refine wdT ?_)|(refine wd_skip rfl rfl ?_)|((with_reducible refine seld_nil ?_);refine wd_nil hm0 ?_;clear hm0 hw0)|((with_reducible refine wc_seq ?_);intro K hK)|(refine auC ?_)|(refine wc_cond rfl (fun hc=>?_) (fun hc=>?_))|(refine wc_draw (by kernel_rfl) (by kernel_rfl) (by decide +kernel) ?_;intro w0 hw0 hm0;(try simp only [List.append_eq,List.cons_append,List.nil_append]))|(refine wc_drawS [4,5] (by kernel_rfl) (by kernel_rfl) (by decide +kernel) (by decide +kernel) ?_;intro w0 hw0 hm0;(try simp only [List.append_eq,List.cons_append,List.nil_append]))|(refine auP ?_)|((refine auR ?_);clear hK K)|(refine auR ?_)|((with_reducible refine hK _ _ ?_);clear hK K)|fail)
  first|refine end_ret (ResP.cell rfl ld_whole (ResP.cell rfl ld_whole (ResP.tmp rfl ResP.nil))) ?_|refine end_normal (ResP.cell rfl ld_whole (ResP.cell rfl ld_whole (ResP.tmp rfl ResP.nil))) ?_
  first|rfl|(show _=_;rfl)|(simp only [tupV, *];done)
 ·have ej:(((j+1:Nat):Int) - 1)=(j:Int):=by omega
  simp only [ej]
  obtain ⟨R,hR⟩:∃ R,R=a / 2 ^ (j+1) % m:=⟨_,rfl⟩
  obtain ⟨Q,hQ⟩:∃ Q,Q=a / 2 ^ (j+1) / m:=⟨_,rfl⟩
  have d1:dvR a m (j+1)=R:=hR.symm
  have d2:dvQ a m (j+1)=Q * 2 ^ (j+1):=by rw [hQ];rfl
  have d3:dvR a m j=a / 2 ^ j % m:=rfl
  have d4:dvQ a m j=a / 2 ^ j / m * 2 ^ j:=rfl
  obtain ⟨B,hB⟩:∃ B,B=a / 2 ^ j % 2:=⟨_,rfl⟩
  have hst:=div_step h0 hR hQ hB
  have hbit:=bit_wide a j
  rw [←hB] at hbit
  rw [d1,d2]
  clear d1 d2
  have hRm:R<m:=by rw [hR];exact Nat.mod_lt _ h0
  have hB2:B<2:=by rw [hB];exact Nat.mod_lt _ (by omega)
  clear hR hQ hB
  obtain ⟨q',hq'⟩:∃ q',q'=Q * 2 ^ (j+1):=⟨_,rfl⟩
  rw [←hq']
  have hpq:=limb_putbit q' j (by omega) (by rw [hq'];exact Nat.mul_mod_left _ _)
  have eq2:(2 * Q+1) * 2 ^ j=q'+2 ^ j:=by rw [hq',Nat.pow_succ,Nat.add_mul,Nat.one_mul,Nat.mul_comm 2 Q,Nat.mul_assoc,Nat.mul_comm 2 (2 ^ j)]
  have eq1:2 * Q * 2 ^ j=q':=by rw [hq',Nat.pow_succ,Nat.mul_comm 2 Q,Nat.mul_assoc,Nat.mul_comm 2 (2 ^ j)]
  have hputq:=wideC_put q' (q'+2 ^ j) (j / 64) _ (by omega) hpq.1 hpq.2
  clear hpq hq'
  have hj:j<512:=by omega
  have ht:decide (((j:Nat):Int)≥0)=true:=decide_eq_true (by omega)
  have hp:0+((j:Int) / 64).toNat * 1=j / 64:=by omega
  have hga:=wideC_get a (j / 64) (by omega)
  have hgq:=wideC_get q' (j / 64) (by omega)
  have hg3:=numC_get R 3 (by omega)
  have htop:=top_bit R (by omega)
  have hsh:IntKind.u64.wrap (1 * 2 ^ (min ((j:Int) % 64).toNat (IntKind.bits .u64)))=(((2 ^ (j % 64):Nat)):Int):=by
   rw [show min ((j:Int) % 64).toNat (IntKind.bits .u64)=j % 64 by show min _ 64=_;omega,show (1:Int)=((1:Nat):Int) from rfl,int_shl,Nat.one_mul]
   congr 1
   exact Nat.mod_eq_of_lt (Nat.pow_lt_pow_right (by omega) (Nat.mod_lt j (by omega)))
  have C1:∀ w,Calls Tryz.prog 62 #[nu R,.int .i64 1] w (Ret (nu (R * 2 ^ 1 % T256)) w):=fun w=>shl_nu R 1 (by omega) (by omega) w
  rw [Nat.pow_one] at C1
  obtain ⟨r1,hr1⟩:∃ r1,r1=R * 2 % T256:=⟨_,rfl⟩
  rw [←hr1] at C1
  have hg0:=numC_get r1 0 (by omega)
  have hpr:=limb_put0 r1 B (by rw [hr1];unfold T256;omega) hB2
  have hputr:=numC_put r1 (r1+B) 0 _ (by omega) hpr.1 hpr.2
  clear hpr
  have hm':=hm
  unfold T256 at hm'
  have e255:(2:Nat) ^ 255=57896044618658097711785492504343953926634992332820282019728792003956564819968:=by decide +kernel
  by_cases h1:R / 2 ^ 255=1
  ·have h2:(limb R 3 / 9223372036854775808 == 1)=true:=by rw [htop.1,h1];rfl
   rw [e255] at h1
   have hT:m≤2 * R+B:=by omega
   have C2:∀ w,Calls Tryz.prog 63 #[nu (r1+B),nu m] w (Ret (.tuple #[nu (2 * R+B - m),.int .u64 1]) w):=fun w=>by
    have:=sub_nu (r1+B) m (by unfold T256 at hr1 ⊢;omega) hm w
    rw [if_pos (by unfold T256 at hr1;omega),show (r1+B+T256 - m) % T256=2 * R+B - m by unfold T256 at hr1 ⊢;omega] at this
    exact this
   obtain ⟨e1,e2⟩:=hst.1 hT
   clear hst htop h1 e255 hr1 hT hm'
   repeat' (first|(refine wlB ?_)|((with_reducible refine sel_call ?_);refine wl_rd rfl rfl (rd_call rfl rfl rfl (fun w hm=>by with_reducible first|exact C1 w|exact C2 w)) ?_)|(refine wlE ?_)|(refine efZCnn ?_;intro n hn)|(refine efBnn ?_;intro n hn)|(refine efB ?_)|(refine wl_skip rfl rfl ?_)|(refine wdV ?_)|(refine wdB ?_)|(refine wd_pure hm0 rfl rfl rfl rfl rvB ?_)|((with_reducible refine seld_load ?_);first|refine wd_ld hm0 rfl rfl rfl rfl rfl rfl (by repeat (first|exact Inn.here|refine Inn.there ?_)) (ld_whole (Has.inn Inn.here)) ?_|refine wd_ld hm0 rfl rfl rfl rfl rfl rfl (by repeat (first|exact Inn.here|refine Inn.there ?_)) (ld_cell (Has.inn Inn.here)) ?_|refine wd_ld hm0 rfl rfl rfl rfl rfl rfl (by repeat (first|exact Inn.here|refine Inn.there ?_)) (ld_row (Has.inn Inn.here)) ?_)|(refine wdT ?_)|(refine wd_skip rfl rfl ?_)|((with_reducible refine seld_nil ?_);refine wd_nil hm0 ?_;clear hm0 hw0)|((with_reducible refine wc_seq ?_);intro K hK)|(refine auC ?_)|(refine wc_cond rfl (fun hc=>?_) (fun hc=>?_))|(refine wc_draw (by kernel_rfl) (by kernel_rfl) (by decide +kernel) ?_;intro w0 hw0 hm0;(try simp only [List.append_eq,List.cons_append,List.nil_append]))|(refine wc_drawS [4,5] (by kernel_rfl) (by kernel_rfl) (by decide +kernel) (by decide +kernel) ?_;intro w0 hw0 hm0;(try simp only [List.append_eq,List.cons_append,List.nil_append]))|(refine auP ?_)|((refine auR ?_);clear hK K)|(refine auR ?_)|((with_reducible refine hK _ _ ?_);clear hK K)|fail)
   refine ⟨j,by omega,Nat.lt_succ_self j,Fits.of ⟨rfl,rfl,rfl,rfl,rfl,rfl,rfl,trivial⟩ (by
    show SubL [(n8,_),_,_,_,_,_] _
    rw [d3,d4,e1,e2,eq2]
    repeat (first|exact SubL.nil|exact SubL.refl _|refine SubL.keep ?_|exact SubL.headA _ _|refine SubL.keepA ?_ _|refine SubL.skip ?_|refine SubL.skipA ?_ _)) rfl⟩
  ·have h2:(limb R 3 / 9223372036854775808 == 1)=false:=by
    have:R / 2 ^ 255=0:=by omega
    rw [htop.1,this];rfl
   rw [e255] at h1 htop
   by_cases hT:m≤2 * R+B
   ·have C2:∀ w,Calls Tryz.prog 63 #[nu (r1+B),nu m] w (Ret (.tuple #[nu (2 * R+B - m),.int .u64 0]) w):=fun w=>by
     have:=sub_nu (r1+B) m (by unfold T256 at hr1 ⊢;omega) hm w
     rw [if_neg (by unfold T256 at hr1;omega),show (r1+B+T256 - m) % T256=2 * R+B - m by unfold T256 at hr1 ⊢;omega] at this
     exact this
    obtain ⟨e1,e2⟩:=hst.1 hT
    clear hst htop h1 e255 hr1 hT hm'
    repeat' (first|(refine wlB ?_)|((with_reducible refine sel_call ?_);refine wl_rd rfl rfl (rd_call rfl rfl rfl (fun w hm=>by with_reducible first|exact C1 w|exact C2 w)) ?_)|(refine wlE ?_)|(refine efZCnn ?_;intro n hn)|(refine efBnn ?_;intro n hn)|(refine efB ?_)|(refine wl_skip rfl rfl ?_)|(refine wdV ?_)|(refine wdB ?_)|(refine wd_pure hm0 rfl rfl rfl rfl rvB ?_)|((with_reducible refine seld_load ?_);first|refine wd_ld hm0 rfl rfl rfl rfl rfl rfl (by repeat (first|exact Inn.here|refine Inn.there ?_)) (ld_whole (Has.inn Inn.here)) ?_|refine wd_ld hm0 rfl rfl rfl rfl rfl rfl (by repeat (first|exact Inn.here|refine Inn.there ?_)) (ld_cell (Has.inn Inn.here)) ?_|refine wd_ld hm0 rfl rfl rfl rfl rfl rfl (by repeat (first|exact Inn.here|refine Inn.there ?_)) (ld_row (Has.inn Inn.here)) ?_)|(refine wdT ?_)|(refine wd_skip rfl rfl ?_)|((with_reducible refine seld_nil ?_);refine wd_nil hm0 ?_;clear hm0 hw0)|((with_reducible refine wc_seq ?_);intro K hK)|(refine auC ?_)|(refine wc_cond rfl (fun hc=>?_) (fun hc=>?_))|(refine wc_draw (by kernel_rfl) (by kernel_rfl) (by decide +kernel) ?_;intro w0 hw0 hm0;(try simp only [List.append_eq,List.cons_append,List.nil_append]))|(refine wc_drawS [4,5] (by kernel_rfl) (by kernel_rfl) (by decide +kernel) (by decide +kernel) ?_;intro w0 hw0 hm0;(try simp only [List.append_eq,List.cons_append,List.nil_append]))|(refine auP ?_)|((refine auR ?_);clear hK K)|(refine auR ?_)|((with_reducible refine hK _ _ ?_);clear hK K)|fail)
    refine ⟨j,by omega,Nat.lt_succ_self j,Fits.of ⟨rfl,rfl,rfl,rfl,rfl,rfl,rfl,trivial⟩ (by
     show SubL [(n8,_),_,_,_,_,_] _
     rw [d3,d4,e1,e2,eq2]
     repeat (first|exact SubL.nil|exact SubL.refl _|refine SubL.keep ?_|exact SubL.headA _ _|refine SubL.keepA ?_ _|refine SubL.skip ?_|refine SubL.skipA ?_ _)) rfl⟩
   ·have C2:∀ w,Calls Tryz.prog 63 #[nu (r1+B),nu m] w (Ret (.tuple #[nu ((r1+B+T256 - m) % T256),.int .u64 1]) w):=fun w=>by
     have:=sub_nu (r1+B) m (by unfold T256 at hr1 ⊢;omega) hm w
     rw [if_pos (by unfold T256 at hr1;omega)] at this
     exact this
    obtain ⟨e1,e2⟩:=hst.2 (by omega)
    rw [show 2 * R+B=r1+B by unfold T256 at hr1;omega] at e1
    clear hst htop h1 e255 hr1 hT hm'
    repeat' (first|(refine wlB ?_)|((with_reducible refine sel_call ?_);refine wl_rd rfl rfl (rd_call rfl rfl rfl (fun w hm=>by with_reducible first|exact C1 w|exact C2 w)) ?_)|(refine wlE ?_)|(refine efZCnn ?_;intro n hn)|(refine efBnn ?_;intro n hn)|(refine efB ?_)|(refine wl_skip rfl rfl ?_)|(refine wdV ?_)|(refine wdB ?_)|(refine wd_pure hm0 rfl rfl rfl rfl rvB ?_)|((with_reducible refine seld_load ?_);first|refine wd_ld hm0 rfl rfl rfl rfl rfl rfl (by repeat (first|exact Inn.here|refine Inn.there ?_)) (ld_whole (Has.inn Inn.here)) ?_|refine wd_ld hm0 rfl rfl rfl rfl rfl rfl (by repeat (first|exact Inn.here|refine Inn.there ?_)) (ld_cell (Has.inn Inn.here)) ?_|refine wd_ld hm0 rfl rfl rfl rfl rfl rfl (by repeat (first|exact Inn.here|refine Inn.there ?_)) (ld_row (Has.inn Inn.here)) ?_)|(refine wdT ?_)|(refine wd_skip rfl rfl ?_)|((with_reducible refine seld_nil ?_);refine wd_nil hm0 ?_;clear hm0 hw0)|((with_reducible refine wc_seq ?_);intro K hK)|(refine auC ?_)|(refine wc_cond rfl (fun hc=>?_) (fun hc=>?_))|(refine wc_draw (by kernel_rfl) (by kernel_rfl) (by decide +kernel) ?_;intro w0 hw0 hm0;(try simp only [List.append_eq,List.cons_append,List.nil_append]))|(refine wc_drawS [4,5] (by kernel_rfl) (by kernel_rfl) (by decide +kernel) (by decide +kernel) ?_;intro w0 hw0 hm0;(try simp only [List.append_eq,List.cons_append,List.nil_append]))|(refine auP ?_)|((refine auR ?_);clear hK K)|(refine auR ?_)|((with_reducible refine hK _ _ ?_);clear hK K)|fail)
    refine ⟨j,by omega,Nat.lt_succ_self j,Fits.of ⟨rfl,rfl,rfl,rfl,rfl,rfl,rfl,trivial⟩ (by
     show SubL [(n8,_),_,_,_,_,_] _
     rw [d3,d4,e1,e2,eq1]
     repeat (first|exact SubL.nil|exact SubL.refl _|refine SubL.keep ?_|exact SubL.headA _ _|refine SubL.keepA ?_ _|refine SubL.skip ?_|refine SubL.skipA ?_ _)) rfl⟩
set_option maxHeartbeats 1000000 in
theorem mod_pos (a m:Nat)(ha:a<T512)(hm:m<T256)(h0:0<m)(w:World):Calls Tryz.prog 66 [wi a,nu m].toArray w (Ret (.tuple #[nu (a % m),.int .i64 0]) w):=by
 have C:=divmod_pos a m ha hm h0
 clear ha hm h0
 refine fn_ret (N:=_) Tryz.func66 rfl Tryz.ntmps66 Tryz.results66 (by simp) ?_
 simp only [initS,Nat.reduceAdd,Nat.zero_add]
 repeat' (first|(refine wlB ?_)|((with_reducible refine sel_call ?_);refine wl_rd rfl rfl (rd_call rfl rfl rfl (fun w hm=>by with_reducible exact C w)) ?_)|(refine wlE ?_)|(refine efZCnn ?_;intro n hn)|(refine efBnn ?_;intro n hn)|(refine efB ?_)|(refine wl_skip rfl rfl ?_)|((with_reducible refine wc_seq ?_);intro K hK)|(refine auC ?_)|(refine wc_cond rfl (fun hc=>?_) (fun hc=>?_))|(refine wc_draw (by kernel_rfl) (by kernel_rfl) (by decide +kernel) ?_;intro w0 hw0 hm0;(try simp only [List.append_eq,List.cons_append,List.nil_append]))|(refine auP ?_)|((refine auR ?_);clear hK K)|(refine auR ?_)|((with_reducible refine hK _ _ ?_);clear hK K)|fail)
 first|refine end_ret (ResP.cell rfl ld_whole (ResP.tmp rfl ResP.nil)) ?_|refine end_normal (ResP.cell rfl ld_whole (ResP.tmp rfl ResP.nil)) ?_
 first|rfl|(show _=_;rfl)|(simp only [tupV, *];done)
end Go.Proofs.YtkendlnjaopbeaaGreatDoor
namespace Go.Proofs.YtkendlnjaopbeaaGreatDoor
open Go.RowKit
set_option linter.unusedVariables false
theorem wide_num (c:Nat)(h:c<T256):wideC c=numC c++numC 0:=by
 unfold wideC numC
 have k:=limb_two c 0 h
 rw [Nat.mul_zero,Nat.add_zero] at k
 rw [k.1,k.2.1,k.2.2.1,k.2.2.2.1,k.2.2.2.2.1,k.2.2.2.2.2.1,k.2.2.2.2.2.2.1,k.2.2.2.2.2.2.2]
 rfl
theorem wi_lit (c:Nat)(h:c<18446744073709551616):Value.agg [.int .u64 (c:Int),.int .u64 0,.int .u64 0,.int .u64 0,.int .u64 0,.int .u64 0,.int .u64 0,.int .u64 0].toArray=wi c:=by
 have h0:=nu_lit 0 (by omega)
 have h1:=nu_lit c h
 simp only [nu,Value.agg.injEq] at h0 h1
 show _=Value.agg (wideC c)
 rw [wide_num c (by unfold T256;omega),←h0,←h1]
 rfl
theorem nu_l0:Value.agg [.int .u64 0,.int .u64 0,.int .u64 0,.int .u64 0].toArray=nu 0:=nu_lit 0 (by decide)
theorem nu_l1:Value.agg [.int .u64 1,.int .u64 0,.int .u64 0,.int .u64 0].toArray=nu 1:=nu_lit 1 (by decide)
theorem nu_l2:Value.agg [.int .u64 2,.int .u64 0,.int .u64 0,.int .u64 0].toArray=nu 2:=nu_lit 2 (by decide)
theorem nu_l3:Value.agg [.int .u64 3,.int .u64 0,.int .u64 0,.int .u64 0].toArray=nu 3:=nu_lit 3 (by decide)
theorem nu_l5:Value.agg [.int .u64 5,.int .u64 0,.int .u64 0,.int .u64 0].toArray=nu 5:=nu_lit 5 (by decide)
theorem nu_l7:Value.agg [.int .u64 7,.int .u64 0,.int .u64 0,.int .u64 0].toArray=nu 7:=nu_lit 7 (by decide)
theorem nu_l8:Value.agg [.int .u64 8,.int .u64 0,.int .u64 0,.int .u64 0].toArray=nu 8:=nu_lit 8 (by decide)
theorem nu_l9:Value.agg [.int .u64 9,.int .u64 0,.int .u64 0,.int .u64 0].toArray=nu 9:=nu_lit 9 (by decide)
theorem nu_l19:Value.agg [.int .u64 19,.int .u64 0,.int .u64 0,.int .u64 0].toArray=nu 19:=nu_lit 19 (by decide)
theorem nu_l38:Value.agg [.int .u64 38,.int .u64 0,.int .u64 0,.int .u64 0].toArray=nu 38:=nu_lit 38 (by decide)
theorem nu_l121665:Value.agg [.int .u64 121665,.int .u64 0,.int .u64 0,.int .u64 0].toArray=nu 121665:=nu_lit 121665 (by decide)
theorem wi_l0:Value.agg [.int .u64 0,.int .u64 0,.int .u64 0,.int .u64 0,.int .u64 0,.int .u64 0,.int .u64 0,.int .u64 0].toArray=wi 0:=wi_lit 0 (by decide)
theorem wi_l3:Value.agg [.int .u64 3,.int .u64 0,.int .u64 0,.int .u64 0,.int .u64 0,.int .u64 0,.int .u64 0,.int .u64 0].toArray=wi 3:=wi_lit 3 (by decide)
theorem wi_l7:Value.agg [.int .u64 7,.int .u64 0,.int .u64 0,.int .u64 0,.int .u64 0,.int .u64 0,.int .u64 0,.int .u64 0].toArray=wi 7:=wi_lit 7 (by decide)
theorem wi_l15:Value.agg [.int .u64 15,.int .u64 0,.int .u64 0,.int .u64 0,.int .u64 0,.int .u64 0,.int .u64 0,.int .u64 0].toArray=wi 15:=wi_lit 15 (by decide)
end Go.Proofs.YtkendlnjaopbeaaGreatDoor
namespace Go.Proofs.YtkendlnjaopbeaaGreatDoor
open Go.RowKit
set_option maxRecDepth 100000
set_option linter.unusedVariables false
theorem T256_pos:0<T256:=by unfold T256;omega
theorem lt_T512 {a:Nat}(ha:a<T256):a<T512:=Nat.lt_of_lt_of_le ha (Nat.le_mul_of_pos_left T256 T256_pos)
end Go.Proofs.YtkendlnjaopbeaaGreatDoor
namespace Go.Proofs.YtkendlnjaopbeaaGreatDoor
open Go.RowKit
set_option maxRecDepth 100000
set_option linter.unusedVariables false
set_option linter.unusedSimpArgs false
def rowC:List Nat→Array Value
 | []=>#[]
 | x::r=>numC x++rowC r
abbrev ro (l:List Nat):Value:=.agg (rowC l)
theorem rowC_size (l:List Nat):(rowC l).size=4 * l.length:=by
 induction l with
 | nil=>rfl
 | cons x r ih=>unfold rowC;rw [Array.size_append,ih,(numC_cells x).size,List.length_cons];omega
theorem rowC_one (l:List Nat):(rowC l).all (·.oneCell')=true:=by
 induction l with
 | nil=>unfold rowC;simp
 | cons x r ih=>unfold rowC;rw [Array.all_append,(numC_cells x).one,ih];rfl
instance rowC_cells2 (x y:Nat):Cells (rowC [x,y]) 8:=⟨rowC_size _,rowC_one _⟩
instance rowC_cells4 (x y z t:Nat):Cells (rowC [x,y,z,t]) 16:=⟨rowC_size _,rowC_one _⟩
def numAt:List Nat→Nat→Option Nat
 | [],_=>none
 | x::_,0=>some x
 | _::r,n+4=>numAt r n
 | _::_,_=>none
def setAt:List Nat→Nat→Nat→List Nat
 | [],_,_=>[]
 | _::r,0,y=>y::r
 | x::r,n+4,y=>x::setAt r n y
 | l,_,_=>l
theorem numC_len (x:Nat):(numC x).toList.length=4:=by rw [Array.length_toList];exact (numC_cells x).size
theorem numAt_part:∀ (l:List Nat) (off x:Nat),numAt l off=some x→((rowC l).toList.drop off).take 4=(numC x).toList
 | [],_,_,h=>by cases h
 | y::r,0,x,h=>by
  cases h
  unfold rowC
  rw [List.drop_zero,Array.toList_append,List.take_append_of_le_length (by rw [numC_len];exact Nat.le_refl _),List.take_of_length_le (by rw [numC_len];exact Nat.le_refl _)]
 | y::r,n+4,x,h=>by
  have ih:=numAt_part r n x h
  unfold rowC
  rw [Array.toList_append,List.drop_append,List.drop_of_length_le (by rw [numC_len];omega),List.nil_append,numC_len,Nat.add_sub_cancel]
  exact ih
 | _::_,1,_,h=>by cases h
 | _::_,2,_,h=>by cases h
 | _::_,3,_,h=>by cases h
theorem setAt_part:∀ (l:List Nat) (off x y:Nat),numAt l off=some x→putR (rowC l).toList off (numC y).toList=(rowC (setAt l off y)).toList
 | [],_,_,_,h=>by cases h
 | z::r,0,x,y,h=>by
  cases h
  unfold setAt rowC putR
  rw [List.take_zero,List.nil_append,numC_len,Nat.zero_add,Array.toList_append,Array.toList_append,List.drop_append,numC_len,Nat.sub_self,List.drop_zero,List.drop_of_length_le (by rw [numC_len];exact Nat.le_refl _),List.nil_append]
 | z::r,n+4,x,y,h=>by
  have ih:=setAt_part r n x y h
  show putR (rowC (z::r)).toList (n+4) (numC y).toList=(rowC (z::setAt r n y)).toList
  unfold putR at ih ⊢
  unfold rowC
  rw [Array.toList_append,Array.toList_append,←ih]
  rw [List.take_append,List.take_of_length_le (by rw [numC_len];omega),List.drop_append,numC_len,numC_len,List.drop_of_length_le (by rw [numC_len];omega),List.nil_append,show n+4 - 4=n by omega,show n+4+4 - 4=n+4 by omega]
  simp only [List.append_assoc]
 | _::_,1,_,_,h=>by cases h
 | _::_,2,_,_,h=>by cases h
 | _::_,3,_,_,h=>by cases h
section
variable {X:Cx}{s:Slots}{l:Blks}{o:Oper}{v:Value}
theorem ld_num {t b off:Nat}{L:List Nat}{x e:Nat}[hu:KD X.P t true][hs:SZ X.P t 4]
  (hh:Has X l b (rowC L,e):=by first|(with_reducible assumption)|(refine Has.inn ?_;repeat (first|exact Inn.here|refine Inn.there ?_))) (hv:numAt L off=some x:=by rfl):Ld X l t b off (nu x):=by
 have:=ld_row (X:=X) (l:=l) (t:=t) (b:=b) (off:=off) (k:=4) (cs:=(numC x).toList) hh (numAt_part L off x hv) (numC_len x)
 simpa using this
theorem sv_num {t:Nat}{x y:Operand}{b off:Nat}{L L':List Nat}{u z e:Nat}{l':Blks}(ho:o.op=.store t x y)(hx:val s x=some (.pointer (some ⟨b,off,none⟩)))(hy:val s y=some (nu u))
  [hs:SZ X.P t 4] (ha:At l b (rowC L,e) (rowC L',e) l':=by repeat (first|exact At.here|apply At.there)) (hv:numAt L off=some z:=by rfl) (hL:setAt L off u=L':=by first|(dsimp only [setAt];exact rfl)|rfl) (htb:Nat.blt e BIG=true:=by first|rfl|assumption):Sv X s l o l':=by
 subst hL
 have hb:∀ (l:List Nat) (off z:Nat),numAt l off=some z→off+4≤4 * l.length:=by
  intro l
  induction l with
  | nil=>intro off z h;cases h
  | cons y r ih=>
   intro off z h
   match off,h with
   | 0,_=>simp only [List.length_cons];omega
   | n+4,h=>have:=ih n z h;simp only [List.length_cons];omega
 refine sv_row (hb:=htb) (cs:=(numC u).toList) (c':=(rowC (setAt L off u)).toList) ho hx (by simpa using hy) (by have:=(numC_cells u).one;simpa using this) (numC_len u) (by simpa using ha) (setAt_part L off z u hv) ?_
 rw [numC_len,rowC_size]
 exact hb L off z hv
theorem sv_num0 {t:Nat}{x y:Operand}{b:Nat}{p q u e:Nat}{l':Blks}(ho:o.op=.store t x y)(hx:val s x=some (.pointer (some ⟨b,0,none⟩)))(hy:val s y=some (nu u))
  [hs:SZ X.P t 4] (ha:At l b (rowC [p,q],e) (rowC [u,q],e) l':=by repeat (first|exact At.here|apply At.there)) (htb:Nat.blt e BIG=true:=by first|rfl|assumption):Sv X s l o l':=sv_num (L:=[p,q]) (L':=[u,q]) (z:=p) ho hx hy ha rfl rfl htb
theorem sv_num4 {t:Nat}{x y:Operand}{b:Nat}{p q u e:Nat}{l':Blks}(ho:o.op=.store t x y)(hx:val s x=some (.pointer (some ⟨b,4,none⟩)))(hy:val s y=some (nu u))
  [hs:SZ X.P t 4] (ha:At l b (rowC [p,q],e) (rowC [p,u],e) l':=by repeat (first|exact At.here|apply At.there)) (htb:Nat.blt e BIG=true:=by first|rfl|assumption):Sv X s l o l':=sv_num (L:=[p,q]) (L':=[p,u]) (z:=q) ho hx hy ha rfl rfl htb
theorem numC_zero:(numC 0).toList=[.int .u64 0,.int .u64 0,.int .u64 0,.int .u64 0]:=by
 unfold numC limb;simp
theorem numC_four (x:Nat):∃ a b c d,(numC x).toList=[a,b,c,d]∧numC x=#[a,b,c,d]:=⟨_,_,_,_,by unfold numC;rfl,by unfold numC;rfl⟩
theorem fill_xy (x y:Nat):fillC (fun i=>[((0:Nat),(4:Nat)),(4,4)][i]?) [.int .u64 0,.int .u64 0,.int .u64 0,.int .u64 0,.int .u64 0,.int .u64 0,.int .u64 0,.int .u64 0] [(0,nu x),(1,nu y)]=some (rowC [x,y]).toList:=by
 obtain ⟨a,b,c,d,h,h'⟩:=numC_four x
 obtain ⟨a2,b2,c2,d2,k,k'⟩:=numC_four y
 simp [fillC,putR,rowC,Value.cells,h',k']
 rfl
theorem fill_y (y:Nat):fillC (fun i=>[((0:Nat),(4:Nat)),(4,4)][i]?) [.int .u64 0,.int .u64 0,.int .u64 0,.int .u64 0,.int .u64 0,.int .u64 0,.int .u64 0,.int .u64 0] [(1,nu y)]=some (rowC [0,y]).toList:=by
 obtain ⟨a2,b2,c2,d2,k,k'⟩:=numC_four y
 have z:=numC_zero
 simp [fillC,putR,rowC,Value.cells,k',z]
 rfl
theorem fill_x (x:Nat):fillC (fun i=>[((0:Nat),(4:Nat)),(4,4)][i]?) [.int .u64 0,.int .u64 0,.int .u64 0,.int .u64 0,.int .u64 0,.int .u64 0,.int .u64 0,.int .u64 0] [(0,nu x)]=some (rowC [x,0]).toList:=by
 obtain ⟨a2,b2,c2,d2,k,k'⟩:=numC_four x
 have z:=numC_zero
 simp [fillC,putR,rowC,Value.cells,k',z]
 rfl
theorem fill_0:fillC (fun i=>[((0:Nat),(4:Nat)),(4,4)][i]?) [.int .u64 0,.int .u64 0,.int .u64 0,.int .u64 0,.int .u64 0,.int .u64 0,.int .u64 0,.int .u64 0] []=some (rowC [0,0]).toList:=by
 have z:=numC_zero
 simp [fillC,putR,rowC,Value.cells,z]
theorem fill_4 (x y z t:Nat):fillC (fun i=>[((0:Nat),(4:Nat)),(4,4),(8,4),(12,4)][i]?) [.int .u64 0,.int .u64 0,.int .u64 0,.int .u64 0,.int .u64 0,.int .u64 0,.int .u64 0,.int .u64 0,.int .u64 0,.int .u64 0,.int .u64 0,.int .u64 0,.int .u64 0,.int .u64 0,.int .u64 0,.int .u64 0] [(0,nu x),(1,nu y),(2,nu z),(3,nu t)]=some (rowC [x,y,z,t]).toList:=by
 obtain ⟨a,b,c,d,h,h'⟩:=numC_four x
 obtain ⟨a2,b2,c2,d2,k,k'⟩:=numC_four y
 obtain ⟨a3,b3,c3,d3,m,m'⟩:=numC_four z
 obtain ⟨a4,b4,c4,d4,n,n'⟩:=numC_four t
 simp [fillC,putR,rowC,Value.cells,h',k',m',n']
 rfl
class R2 (P:Program)(t:Nat):Prop where
 sp:SP P t [(0,4),(4,4)]
 zr:ZR P t (.agg #[.int .u64 0,.int .u64 0,.int .u64 0,.int .u64 0,.int .u64 0,.int .u64 0,.int .u64 0,.int .u64 0])
class R4 (P:Program)(t:Nat):Prop where
 sp:SP P t [(0,4),(4,4),(8,4),(12,4)]
 zr:ZR P t (.agg #[.int .u64 0,.int .u64 0,.int .u64 0,.int .u64 0,.int .u64 0,.int .u64 0,.int .u64 0,.int .u64 0,.int .u64 0,.int .u64 0,.int .u64 0,.int .u64 0,.int .u64 0,.int .u64 0,.int .u64 0,.int .u64 0])
theorem rd_build2 {t:Nat}{ps:Array (Nat×Operand)}{x y:Nat}(ho:o.op=.build t ps)(hx:valsP s ps.toList=some [(0,nu x),(1,nu y)])[h:R2 X.P t]:RdV X s l o (ro [x,y]):=by
 have:=@rd_buildS X s l o t ps _ _ _ _ ho hx h.sp h.zr (fill_xy x y)
 simpa using this
theorem rd_build2y {t:Nat}{ps:Array (Nat×Operand)}{y:Nat}(ho:o.op=.build t ps)(hx:valsP s ps.toList=some [(1,nu y)])[h:R2 X.P t]:RdV X s l o (ro [0,y]):=by
 have:=@rd_buildS X s l o t ps _ _ _ _ ho hx h.sp h.zr (fill_y y)
 simpa using this
theorem rd_build2x {t:Nat}{ps:Array (Nat×Operand)}{x:Nat}(ho:o.op=.build t ps)(hx:valsP s ps.toList=some [(0,nu x)])[h:R2 X.P t]:RdV X s l o (ro [x,0]):=by
 have:=@rd_buildS X s l o t ps _ _ _ _ ho hx h.sp h.zr (fill_x x)
 simpa using this
theorem rd_build20 {t:Nat}{ps:Array (Nat×Operand)}(ho:o.op=.build t ps)(hx:valsP s ps.toList=some [])[h:R2 X.P t]:RdV X s l o (ro [0,0]):=by
 have:=@rd_buildS X s l o t ps _ _ _ _ ho hx h.sp h.zr fill_0
 simpa using this
theorem rd_build4 {t:Nat}{ps:Array (Nat×Operand)}{x y z q:Nat}(ho:o.op=.build t ps)(hx:valsP s ps.toList=some [(0,nu x),(1,nu y),(2,nu z),(3,nu q)])[h:R4 X.P t]:RdV X s l o (ro [x,y,z,q]):=by
 have:=@rd_buildS X s l o t ps _ _ _ _ ho hx h.sp h.zr (fill_4 x y z q)
 simpa using this
end
theorem zc_r2 {P:Program}{t:Nat}(h:R2 P t):ZC P t (rowC [0,0]):=⟨by
 rw [h.zr.out]
 have z:=numC_zero
 show some _=some _
 congr 1
 apply Array.ext'
 simp [rowC,Value.cells,z]⟩
theorem zc_r4 {P:Program}{t:Nat}(h:R4 P t):ZC P t (rowC [0,0,0,0]):=⟨by
 rw [h.zr.out]
 have z:=numC_zero
 show some _=some _
 congr 1
 apply Array.ext'
 simp [rowC,Value.cells,z]⟩
attribute [irreducible] rowC
end Go.Proofs.YtkendlnjaopbeaaGreatDoor
namespace Go.Proofs.YtkendlnjaopbeaaGreatDoor
open Go.RowKit
set_option linter.unusedVariables false
theorem four_val (a b c d n:Nat)(h0:limb n 0=(a:Int))(h1:limb n 1=(b:Int))(h2:limb n 2=(c:Int))(h3:limb n 3=(d:Int)):Value.agg [.int .u64 a,.int .u64 b,.int .u64 c,.int .u64 d].toArray=nu n:=by
 rw [←nu_num,num,h0,h1,h2,h3]
end Go.Proofs.YtkendlnjaopbeaaGreatDoor
namespace Go.Proofs.YtkendlnjaopbeaaGreatDoor
open Go.RowKit
set_option linter.unusedVariables false
set_option linter.unusedSimpArgs false
set_option maxRecDepth 100000
def SLn:Nat:=7237005577332262213973186563042994240857116359379907606001950938285454250989
def slow (a:Nat):Nat:=a % SLn
def sadd (a b:Nat):Nat:=(a+b) % SLn
def smul (a b:Nat):Nat:=a * b % SLn
def sneg (a:Nat):Nat:=(SLn - a % SLn) % SLn
theorem slow_def (a:Nat):slow a=a % SLn:=rfl
theorem sadd_def (a b:Nat):sadd a b=(a+b) % SLn:=rfl
theorem smul_def (a b:Nat):smul a b=a * b % SLn:=rfl
theorem SL_pos:0<SLn:=by decide
theorem SL_T:SLn<T256:=by decide +kernel
theorem SL_two:2 * SLn<T256:=by decide +kernel
theorem slow_L (a:Nat):slow a<SLn:=Nat.mod_lt _ SL_pos
theorem sadd_L (a b:Nat):sadd a b<SLn:=Nat.mod_lt _ SL_pos
theorem smul_L (a b:Nat):smul a b<SLn:=Nat.mod_lt _ SL_pos
theorem slow_lt (a:Nat):slow a<T256:=Nat.lt_trans (slow_L a) SL_T
theorem smul_lt (a b:Nat):smul a b<T256:=Nat.lt_trans (smul_L a b) SL_T
attribute [irreducible] slow sadd smul sneg
theorem SL_val:Value.agg [.int .u64 6346243789798364141,.int .u64 1503914060200516822,.int .u64 0,.int .u64 1152921504606846976].toArray=nu SLn:=four_val 6346243789798364141 1503914060200516822 0 1152921504606846976 SLn (by decide +kernel) (by decide +kernel) (by decide +kernel) (by decide +kernel)
theorem l_c (w:World):Calls Tryz.prog 67 [].toArray w (Ret (nu SLn) w):=by
 refine fn_ret (N:=_) Tryz.func67 rfl Tryz.ntmps67 Tryz.results67 (by simp) ?_
 simp only [initS,Nat.reduceAdd,Nat.zero_add]
 repeat' (first|((with_reducible refine sel_build ?_);refine wv rfl rfl (rd_cast (rd_buildA rfl rfl) SL_val) ?_)|(refine wlE ?_)|(refine efZCnn ?_;intro n hn)|(refine efBnn ?_;intro n hn)|(refine efB ?_)|(refine wl_skip rfl rfl ?_)|((with_reducible refine wc_seq ?_);intro K hK)|(refine auC ?_)|(refine wc_cond rfl (fun hc=>?_) (fun hc=>?_))|(refine wc_draw (by kernel_rfl) (by kernel_rfl) (by decide +kernel) ?_;intro w0 hw0 hm0;(try simp only [List.append_eq,List.cons_append,List.nil_append]))|(refine auP ?_)|((refine auR ?_);clear hK K)|(refine auR ?_)|((with_reducible refine hK _ _ ?_);clear hK K)|fail)
 first|refine end_ret (ResP.cell rfl ld_whole ResP.nil) ?_|refine end_normal (ResP.cell rfl ld_whole ResP.nil) ?_
 first|rfl|(show _=_;rfl)|(simp only [tupV, *];done)
set_option maxHeartbeats 1000000 in
theorem reduceS (a:Nat)(ha:a<T512)(w:World):Calls Tryz.prog 45 [wi a].toArray w (Ret (nu (slow a)) w):=by
 have LC:=l_c
 have MC:=mod_pos a SLn ha SL_T SL_pos
 rw [←slow_def] at MC
 clear ha
 generalize slow a=r at *
 refine fn_ret (N:=_) Tryz.func45 rfl Tryz.ntmps45 Tryz.results45 (by simp) ?_
 simp only [initS,Nat.reduceAdd,Nat.zero_add]
 repeat' (first|(refine wlB ?_)|(refine efZCnn ?_;intro n hn)|(refine efBnn ?_;intro n hn)|(refine efB ?_)|(refine wl_skip rfl rfl ?_)|(refine wdV ?_)|(refine wdB ?_)|((with_reducible refine seld_call ?_);refine wd_rd hm0 rfl rfl rfl rfl (rd_call rfl rfl rfl (fun w hm=>by with_reducible first|exact LC w|exact MC w)) ?_)|(refine wdE ?_)|(refine wd_allocC hm0 rfl rfl rfl ?_;intro n hn hn0)|(refine wd_alloc hm0 rfl rfl rfl ?_;intro n hn hn0)|(refine wdT ?_)|(refine wd_skip rfl rfl ?_)|((with_reducible refine seld_nil ?_);refine wd_nil hm0 ?_;clear hm0 hw0)|((with_reducible refine wc_seq ?_);intro K hK)|(refine auC ?_)|(refine wc_cond rfl (fun hc=>?_) (fun hc=>?_))|(refine wc_draw (by kernel_rfl) (by kernel_rfl) (by decide +kernel) ?_;intro w0 hw0 hm0;(try simp only [List.append_eq,List.cons_append,List.nil_append]))|(refine auP ?_)|((refine auR ?_);clear hK K)|(refine auR ?_)|((with_reducible refine hK _ _ ?_);clear hK K)|fail)
 first|refine end_ret (ResP.cell rfl ld_whole ResP.nil) ?_|refine end_normal (ResP.cell rfl ld_whole ResP.nil) ?_
 first|rfl|(show _=_;rfl)|(simp only [tupV, *];done)
set_option maxHeartbeats 1000000 in
theorem lowS (a:Nat)(ha:a<T256)(w:World):Calls Tryz.prog 99 [nu a].toArray w (Ret (nu (slow a)) w):=by
 have WC:=wide_nu a 0 ha
 rw [Nat.mul_zero,Nat.add_zero] at WC
 have RC:=reduceS a (lt_T512 ha)
 clear ha
 generalize slow a=r at *
 refine fn_ret (N:=_) Tryz.func99 rfl Tryz.ntmps99 Tryz.results99 (by simp) ?_
 simp only [initS,Nat.reduceAdd,Nat.zero_add]
 repeat' (first|(refine wlB ?_)|(refine wlNL ?_)|((with_reducible refine sel_call ?_);refine wl_rd rfl rfl (rd_call rfl rfl rfl (fun w hm=>by with_reducible first|exact WC w|exact RC w)) ?_)|(refine wlE ?_)|(refine efZCnn ?_;intro n hn)|(refine efBnn ?_;intro n hn)|(refine efB ?_)|(refine wl_skip rfl rfl ?_)|((with_reducible refine wc_seq ?_);intro K hK)|(refine auC ?_)|(refine wc_cond rfl (fun hc=>?_) (fun hc=>?_))|(refine wc_draw (by kernel_rfl) (by kernel_rfl) (by decide +kernel) ?_;intro w0 hw0 hm0;(try simp only [List.append_eq,List.cons_append,List.nil_append]))|(refine auP ?_)|((refine auR ?_);clear hK K)|(refine auR ?_)|((with_reducible refine hK _ _ ?_);clear hK K)|fail)
 first|refine end_ret (ResP.cell rfl ld_whole ResP.nil) ?_|refine end_normal (ResP.cell rfl ld_whole ResP.nil) ?_
 first|rfl|(show _=_;rfl)|(simp only [tupV, *];done)
set_option maxHeartbeats 1000000 in
theorem mulS (a b:Nat)(ha:a<T256)(hb:b<T256)(w:World):Calls Tryz.prog 97 [nu a,nu b].toArray w (Ret (nu (smul a b)) w):=by
 have MC:=mul_nu a b ha hb
 have RC:=reduceS (a * b) (show a * b<T512 from Nat.mul_lt_mul'' ha hb)
 rw [slow_def,←smul_def] at RC
 clear ha hb
 generalize smul a b=r at *
 refine fn_ret (N:=_) Tryz.func97 rfl Tryz.ntmps97 Tryz.results97 (by simp) ?_
 simp only [initS,Nat.reduceAdd,Nat.zero_add]
 repeat' (first|(refine wlB ?_)|((with_reducible refine sel_call ?_);refine wl_rd rfl rfl (rd_call rfl rfl rfl (fun w hm=>by with_reducible first|exact MC w|exact RC w)) ?_)|(refine wlE ?_)|(refine efZCnn ?_;intro n hn)|(refine efBnn ?_;intro n hn)|(refine efB ?_)|(refine wl_skip rfl rfl ?_)|((with_reducible refine wc_seq ?_);intro K hK)|(refine auC ?_)|(refine wc_cond rfl (fun hc=>?_) (fun hc=>?_))|(refine wc_draw (by kernel_rfl) (by kernel_rfl) (by decide +kernel) ?_;intro w0 hw0 hm0;(try simp only [List.append_eq,List.cons_append,List.nil_append]))|(refine auP ?_)|((refine auR ?_);clear hK K)|(refine auR ?_)|((with_reducible refine hK _ _ ?_);clear hK K)|fail)
 first|refine end_ret (ResP.cell rfl ld_whole ResP.nil) ?_|refine end_normal (ResP.cell rfl ld_whole ResP.nil) ?_
 first|rfl|(show _=_;rfl)|(simp only [tupV, *];done)
set_option maxHeartbeats 1000000 in
theorem addS (a b:Nat)(ha:a<T256)(hb:b<T256)(w:World):Calls Tryz.prog 96 [nu a,nu b].toArray w (Ret (nu (sadd a b)) w):=by
 have LA:=lowS a ha
 have LB:=lowS b hb
 have h1:=slow_L a
 have h2:=slow_L b
 have h3:=SL_two
 have AC:=add_nu (slow a) (slow b) (slow_lt a) (slow_lt b)
 have RC:=lowS (slow a+slow b) (by omega)
 have e:slow (slow a+slow b)=sadd a b:=by
  rw [slow_def,slow_def,slow_def,sadd_def,←Nat.add_mod]
 rw [e] at RC
 rw [Nat.mod_eq_of_lt (show slow a+slow b<T256 by omega)] at AC
 clear h1 h2 h3 e ha hb
 generalize slow a+slow b=s at *
 generalize slow a=x at *
 generalize slow b=y at *
 generalize sadd a b=r at *
 refine fn_ret (N:=_) Tryz.func96 rfl Tryz.ntmps96 Tryz.results96 (by simp) ?_
 simp only [initS,Nat.reduceAdd,Nat.zero_add]
 repeat' (first|(refine wlB ?_)|((with_reducible refine sel_call ?_);refine wl_rd rfl rfl (rd_call rfl rfl rfl (fun w hm=>by with_reducible first|exact LA w|exact LB w|exact AC w|exact RC w)) ?_)|(refine wlE ?_)|(refine efZCnn ?_;intro n hn)|(refine efBnn ?_;intro n hn)|(refine efB ?_)|(refine wl_skip rfl rfl ?_)|(refine wdV ?_)|(refine wdB ?_)|((with_reducible refine seld_call ?_);refine wd_rd hm0 rfl rfl rfl rfl (rd_call rfl rfl rfl (fun w hm=>by with_reducible first|exact LA w|exact LB w|exact AC w|exact RC w)) ?_)|(refine wdE ?_)|(refine wd_allocC hm0 rfl rfl rfl ?_;intro n hn hn0)|(refine wd_alloc hm0 rfl rfl rfl ?_;intro n hn hn0)|(refine wdT ?_)|(refine wd_skip rfl rfl ?_)|((with_reducible refine seld_nil ?_);refine wd_nil hm0 ?_;clear hm0 hw0)|((with_reducible refine wc_seq ?_);intro K hK)|(refine auC ?_)|(refine wc_cond rfl (fun hc=>?_) (fun hc=>?_))|(refine wc_draw (by kernel_rfl) (by kernel_rfl) (by decide +kernel) ?_;intro w0 hw0 hm0;(try simp only [List.append_eq,List.cons_append,List.nil_append]))|(refine auP ?_)|((refine auR ?_);clear hK K)|(refine auR ?_)|((with_reducible refine hK _ _ ?_);clear hK K)|fail)
 first|refine end_ret (ResP.cell rfl ld_whole ResP.nil) ?_|refine end_normal (ResP.cell rfl ld_whole ResP.nil) ?_
 first|rfl|(show _=_;rfl)|(simp only [tupV, *];done)
end Go.Proofs.YtkendlnjaopbeaaGreatDoor
