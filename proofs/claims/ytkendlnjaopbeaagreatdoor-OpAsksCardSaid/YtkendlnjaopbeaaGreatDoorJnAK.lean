/- The walks of limb.Bytes and limb.Of. Rows of 32 bytes as numbers. -/
import Derived.Test.YtkendlnjaopbeaaGreatDoorJnAI
import Derived.Test.YtkendlnjaopbeaaGreatDoorJnAA
import Derived.LoopTactic
import Derived.WalkKit
import Derived.Laws.Rows
import Derived.Laws.Tables
namespace Go.Proofs.YtkendlnjaopbeaaGreatDoor
open Go.RowKit
set_option linter.unusedVariables false
set_option linter.unusedSimpArgs false
def byteN (a j:Nat):Nat:=a / 2 ^ (8 * j) % 256
def byteCells (f:Nat→Nat):Array Value:=((List.range 32).map fun j=>Value.int .u8 (f j:Nat)).toArray
theorem byteCells_set (f:Nat→Nat)(k v:Nat)(hk:k<32):(byteCells f).setIfInBounds k (.int .u8 (v:Nat))=byteCells (fun j=>if j=k then v else f j):=by
 unfold byteCells
 rw [List.setIfInBounds_toArray]
 congr 1
 apply List.ext_getElem (by simp)
 intro i h1 h2
 simp only [List.getElem_set,List.getElem_map,List.getElem_range]
 by_cases h:i=k
 ·subst h;simp
 ·rw [if_neg (fun e=>h e.symm),if_neg h]
theorem byteZero:#[.int .u8 0,.int .u8 0,.int .u8 0,.int .u8 0,.int .u8 0,.int .u8 0,.int .u8 0,.int .u8 0,.int .u8 0,.int .u8 0,.int .u8 0,.int .u8 0,.int .u8 0,.int .u8 0,.int .u8 0,.int .u8 0,.int .u8 0,.int .u8 0,.int .u8 0,.int .u8 0,.int .u8 0,.int .u8 0,.int .u8 0,.int .u8 0,.int .u8 0,.int .u8 0,.int .u8 0,.int .u8 0,.int .u8 0,.int .u8 0,.int .u8 0,.int .u8 0]=byteCells (fun _=>0):=rfl
theorem byteCells_get (f:Nat→Nat)(k:Nat)(hk:k<32):(byteCells f)[k]? = some (.int .u8 (f k:Nat)):=by
 unfold byteCells;simp [hk]
theorem byteUpto (a k:Nat)(hk:k<32):(byteCells fun j=>if j<k then byteN a j else 0).setIfInBounds k (.int .u8 (byteN a k:Nat))=byteCells fun j=>if j<k+1 then byteN a j else 0:=by
 rw [byteCells_set _ _ _ hk]
 congr 1;funext j
 by_cases h:j=k
 ·subst h;simp
 ·rw [if_neg h]
  by_cases h':j<k
  ·rw [if_pos h',if_pos (by omega)]
  ·rw [if_neg h',if_neg (by omega)]
theorem byteCells_all (f:Nat→Nat):(byteCells fun j=>if j<32 then f j else 0)=byteCells f:=by
 unfold byteCells
 congr 1
theorem byteCells_one (f:Nat→Nat):(byteCells f).all (·.oneCell')=true:=by
 unfold byteCells;simp [Value.oneCell']
theorem byte_plain (a q r:Nat)(hr:r<8):((lw a q / 2 ^ (r * 8):Nat):Int) % 256=(byteN a (8 * q+r):Nat):=by
 have:lw a q / 2 ^ (r * 8) % 256=byteN a (8 * q+r):=by
  unfold byteN
  show lw a q / 2 ^ (r * 8) % 2 ^ 8=a / 2 ^ (8 * (8 * q+r)) % 2 ^ 8
  apply Nat.eq_of_testBit_eq;intro j
  rw [Nat.testBit_mod_two_pow,Nat.testBit_mod_two_pow,Nat.testBit_div_two_pow,Nat.testBit_div_two_pow,lw_bit]
  by_cases hj:j<8
  ·rw [decide_eq_true (by omega:j+r * 8<64),show 64 * q+(j+r * 8)=j+8 * (8 * q+r) by omega];simp
  ·simp [hj]
 omega
set_option maxRecDepth 20000 in
set_option maxHeartbeats 2000000 in
theorem bytes_all (a:Nat)(ha:a<T256)(w:World):Calls Tryz.prog 55 #[num a] w (Ret (.agg (byteCells (byteN a))) w):=by
 go_enter Tryz.func55,Tryz.ntmps55
 go_wp2_with fail
 go_loopw [4,5] (fun t i wr=>∃ k:Nat,k≤32∧i=.int .i64 k∧wr.heap[w.heap.size]? = some (.cells #[.int .u64 (limb a 0),.int .u64 (limb a 1),.int .u64 (limb a 2),.int .u64 (limb a 3)] 46)∧wr.heap[w.heap.size+1]? = some (.cells (byteCells fun _=>0) 43)∧wr.heap[w.heap.size+1+1]? = some (.cells (byteCells fun j=>if j<k then byteN a j else 0) 43)∧Below w.heap.size w wr)
  (fun _ i _=>32 - (intOf i).toNat)
 case atStart=>
  refine ⟨0,by omega,rfl,?_,?_,?_,?_⟩
  ·(repeat' (first|(with_reducible exact nw)|(with_reducible exact nw1)|(with_reducible exact nw2)|(with_reducible exact nw3)|(with_reducible exact nw4)|(with_reducible exact nw5)|(with_reducible assumption)|(with_reducible apply ho)|(with_reducible apply hdr)|(with_reducible apply Grow.heap)|(with_reducible apply hrow)|(with_reducible apply hset)|(with_reducible apply hrow_other)|(with_reducible apply hset_other)|(go_simp;done)|omega))
  ·rw [←byteZero]
   (repeat' (first|(with_reducible exact nw)|(with_reducible exact nw1)|(with_reducible exact nw2)|(with_reducible exact nw3)|(with_reducible exact nw4)|(with_reducible exact nw5)|(with_reducible assumption)|(with_reducible apply ho)|(with_reducible apply hdr)|(with_reducible apply Grow.heap)|(with_reducible apply hrow)|(with_reducible apply hset)|(with_reducible apply hrow_other)|(with_reducible apply hset_other)|(go_simp;done)|omega))
  ·rw [show (fun j=>if j<0 then byteN a j else 0)=fun _=>0 by funext j;simp,←byteZero]
   (repeat' (first|(with_reducible exact nw)|(with_reducible exact nw1)|(with_reducible exact nw2)|(with_reducible exact nw3)|(with_reducible exact nw4)|(with_reducible exact nw5)|(with_reducible assumption)|(with_reducible apply ho)|(with_reducible apply hdr)|(with_reducible apply Grow.heap)|(with_reducible apply hrow)|(with_reducible apply hset)|(with_reducible apply hrow_other)|(with_reducible apply hset_other)|(go_simp;done)|omega))
  ·repeat' (first|(with_reducible exact Below.refl _ _)|(with_reducible assumption)|(with_reducible refine up_alloc ?_ _)|(with_reducible refine up ?_ _)|(with_reducible refine up_drew ?_)|(with_reducible refine up_row ?_ ?_ _)|(with_reducible refine up_set ?_ ?_ _)|((try dsimp only);first|omega|exact le_size|exact le_size1|exact le_size2|exact le_size3))
 case round=>
  obtain ⟨k,hk,rfl,h1,h2,h3,hB⟩:=hrel
  have ⟨r1,z1,l1⟩:=rules h1
  have I1:LtSize w.heap.size wr:=⟨l1⟩
  have ⟨r3,z3,l3⟩:=rules h3
  have l2:=blk_lt h2
  have I2:LtSize (w.heap.size+1) wr:=⟨l2⟩
  have I3:LtSize (w.heap.size+1+1) wr:=⟨l3⟩
  by_cases hk':k<32
  ·have c3:wr.cell? ⟨w.heap.size+1+1,k,none⟩=some (.int .u8 0):=by
    rw [r3,byteCells_get _ _ hk',if_neg (by omega)];rfl
   clear r3
   obtain ⟨q,r,hr,hq4,hk0⟩:∃ q r,r<8∧q<4∧k=8 * q+r:=⟨k / 8,k % 8,Nat.mod_lt _ (by omega),by omega,(Nat.div_add_mod _ _).symm⟩
   have e2:(k:Int) % 8=r:=by omega
   have hq:q=0∨q=1∨q=2∨q=3:=by omega
   have fin:limb a q / 2 ^ (r * 8) % 256=(byteN a k:Nat):=by
    rw [limb_lw,int_shr,hk0]
    have:=byte_plain a q r hr
    omega
   clear hq4
   rcases hq with rfl|rfl|rfl|rfl
   ·have e1:(k:Int) / 8=0:=by omega
    clear hk0
    go_wp2_with fail
    go_roundw
    case rel=>
     refine ⟨k+1,by omega,by go_num,?_,?_,?_,?_⟩
     ·(repeat' (first|(with_reducible exact nw)|(with_reducible exact nw1)|(with_reducible exact nw2)|(with_reducible exact nw3)|(with_reducible exact nw4)|(with_reducible exact nw5)|(with_reducible assumption)|(with_reducible apply ho)|(with_reducible apply hdr)|(with_reducible apply Grow.heap)|(with_reducible apply hrow)|(with_reducible apply hset)|(with_reducible apply hrow_other)|(with_reducible apply hset_other)|(go_simp;done)|omega))
     ·(repeat' (first|(with_reducible exact nw)|(with_reducible exact nw1)|(with_reducible exact nw2)|(with_reducible exact nw3)|(with_reducible exact nw4)|(with_reducible exact nw5)|(with_reducible assumption)|(with_reducible apply ho)|(with_reducible apply hdr)|(with_reducible apply Grow.heap)|(with_reducible apply hrow)|(with_reducible apply hset)|(with_reducible apply hrow_other)|(with_reducible apply hset_other)|(go_simp;done)|omega))
     ·rw [←byteUpto a k hk']
      (repeat' (first|(with_reducible exact nw)|(with_reducible exact nw1)|(with_reducible exact nw2)|(with_reducible exact nw3)|(with_reducible exact nw4)|(with_reducible exact nw5)|(with_reducible assumption)|(with_reducible apply ho)|(with_reducible apply hdr)|(with_reducible apply Grow.heap)|(with_reducible apply hrow)|(with_reducible apply hset)|(with_reducible apply hrow_other)|(with_reducible apply hset_other)|(go_simp;done)|omega))
     ·repeat' (first|(with_reducible exact Below.refl _ _)|(with_reducible assumption)|(with_reducible refine up_alloc ?_ _)|(with_reducible refine up ?_ _)|(with_reducible refine up_drew ?_)|(with_reducible refine up_row ?_ ?_ _)|(with_reducible refine up_set ?_ ?_ _)|((try dsimp only);first|omega|exact le_size|exact le_size1|exact le_size2|exact le_size3))
    case measure=>simp [intOf];omega
   ·have e1:(k:Int) / 8=1:=by omega
    clear hk0
    go_wp2_with fail
    go_roundw
    case rel=>
     refine ⟨k+1,by omega,by go_num,?_,?_,?_,?_⟩
     ·(repeat' (first|(with_reducible exact nw)|(with_reducible exact nw1)|(with_reducible exact nw2)|(with_reducible exact nw3)|(with_reducible exact nw4)|(with_reducible exact nw5)|(with_reducible assumption)|(with_reducible apply ho)|(with_reducible apply hdr)|(with_reducible apply Grow.heap)|(with_reducible apply hrow)|(with_reducible apply hset)|(with_reducible apply hrow_other)|(with_reducible apply hset_other)|(go_simp;done)|omega))
     ·(repeat' (first|(with_reducible exact nw)|(with_reducible exact nw1)|(with_reducible exact nw2)|(with_reducible exact nw3)|(with_reducible exact nw4)|(with_reducible exact nw5)|(with_reducible assumption)|(with_reducible apply ho)|(with_reducible apply hdr)|(with_reducible apply Grow.heap)|(with_reducible apply hrow)|(with_reducible apply hset)|(with_reducible apply hrow_other)|(with_reducible apply hset_other)|(go_simp;done)|omega))
     ·rw [←byteUpto a k hk']
      (repeat' (first|(with_reducible exact nw)|(with_reducible exact nw1)|(with_reducible exact nw2)|(with_reducible exact nw3)|(with_reducible exact nw4)|(with_reducible exact nw5)|(with_reducible assumption)|(with_reducible apply ho)|(with_reducible apply hdr)|(with_reducible apply Grow.heap)|(with_reducible apply hrow)|(with_reducible apply hset)|(with_reducible apply hrow_other)|(with_reducible apply hset_other)|(go_simp;done)|omega))
     ·repeat' (first|(with_reducible exact Below.refl _ _)|(with_reducible assumption)|(with_reducible refine up_alloc ?_ _)|(with_reducible refine up ?_ _)|(with_reducible refine up_drew ?_)|(with_reducible refine up_row ?_ ?_ _)|(with_reducible refine up_set ?_ ?_ _)|((try dsimp only);first|omega|exact le_size|exact le_size1|exact le_size2|exact le_size3))
    case measure=>simp [intOf];omega
   ·have e1:(k:Int) / 8=2:=by omega
    clear hk0
    go_wp2_with fail
    go_roundw
    case rel=>
     refine ⟨k+1,by omega,by go_num,?_,?_,?_,?_⟩
     ·(repeat' (first|(with_reducible exact nw)|(with_reducible exact nw1)|(with_reducible exact nw2)|(with_reducible exact nw3)|(with_reducible exact nw4)|(with_reducible exact nw5)|(with_reducible assumption)|(with_reducible apply ho)|(with_reducible apply hdr)|(with_reducible apply Grow.heap)|(with_reducible apply hrow)|(with_reducible apply hset)|(with_reducible apply hrow_other)|(with_reducible apply hset_other)|(go_simp;done)|omega))
     ·(repeat' (first|(with_reducible exact nw)|(with_reducible exact nw1)|(with_reducible exact nw2)|(with_reducible exact nw3)|(with_reducible exact nw4)|(with_reducible exact nw5)|(with_reducible assumption)|(with_reducible apply ho)|(with_reducible apply hdr)|(with_reducible apply Grow.heap)|(with_reducible apply hrow)|(with_reducible apply hset)|(with_reducible apply hrow_other)|(with_reducible apply hset_other)|(go_simp;done)|omega))
     ·rw [←byteUpto a k hk']
      (repeat' (first|(with_reducible exact nw)|(with_reducible exact nw1)|(with_reducible exact nw2)|(with_reducible exact nw3)|(with_reducible exact nw4)|(with_reducible exact nw5)|(with_reducible assumption)|(with_reducible apply ho)|(with_reducible apply hdr)|(with_reducible apply Grow.heap)|(with_reducible apply hrow)|(with_reducible apply hset)|(with_reducible apply hrow_other)|(with_reducible apply hset_other)|(go_simp;done)|omega))
     ·repeat' (first|(with_reducible exact Below.refl _ _)|(with_reducible assumption)|(with_reducible refine up_alloc ?_ _)|(with_reducible refine up ?_ _)|(with_reducible refine up_drew ?_)|(with_reducible refine up_row ?_ ?_ _)|(with_reducible refine up_set ?_ ?_ _)|((try dsimp only);first|omega|exact le_size|exact le_size1|exact le_size2|exact le_size3))
    case measure=>simp [intOf];omega
   ·have e1:(k:Int) / 8=3:=by omega
    clear hk0
    go_wp2_with fail
    go_roundw
    case rel=>
     refine ⟨k+1,by omega,by go_num,?_,?_,?_,?_⟩
     ·(repeat' (first|(with_reducible exact nw)|(with_reducible exact nw1)|(with_reducible exact nw2)|(with_reducible exact nw3)|(with_reducible exact nw4)|(with_reducible exact nw5)|(with_reducible assumption)|(with_reducible apply ho)|(with_reducible apply hdr)|(with_reducible apply Grow.heap)|(with_reducible apply hrow)|(with_reducible apply hset)|(with_reducible apply hrow_other)|(with_reducible apply hset_other)|(go_simp;done)|omega))
     ·(repeat' (first|(with_reducible exact nw)|(with_reducible exact nw1)|(with_reducible exact nw2)|(with_reducible exact nw3)|(with_reducible exact nw4)|(with_reducible exact nw5)|(with_reducible assumption)|(with_reducible apply ho)|(with_reducible apply hdr)|(with_reducible apply Grow.heap)|(with_reducible apply hrow)|(with_reducible apply hset)|(with_reducible apply hrow_other)|(with_reducible apply hset_other)|(go_simp;done)|omega))
     ·rw [←byteUpto a k hk']
      (repeat' (first|(with_reducible exact nw)|(with_reducible exact nw1)|(with_reducible exact nw2)|(with_reducible exact nw3)|(with_reducible exact nw4)|(with_reducible exact nw5)|(with_reducible assumption)|(with_reducible apply ho)|(with_reducible apply hdr)|(with_reducible apply Grow.heap)|(with_reducible apply hrow)|(with_reducible apply hset)|(with_reducible apply hrow_other)|(with_reducible apply hset_other)|(go_simp;done)|omega))
     ·repeat' (first|(with_reducible exact Below.refl _ _)|(with_reducible assumption)|(with_reducible refine up_alloc ?_ _)|(with_reducible refine up ?_ _)|(with_reducible refine up_drew ?_)|(with_reducible refine up_row ?_ ?_ _)|(with_reducible refine up_set ?_ ?_ _)|((try dsimp only);first|omega|exact le_size|exact le_size1|exact le_size2|exact le_size3))
    case measure=>simp [intOf];omega
  ·obtain rfl:k=32:=by omega
   rw [byteCells_all] at h3
   clear r3 z3
   go_wp2_with (first|(refine wpList_load_row rfl 43 _ rfl _ rfl _ _ _ (.array 32 5) h3 (by kernel_rfl) rfl (by kernel_rfl) ?_)|(refine wpList_store_row rfl 43 _ _ rfl _ _ rfl rfl _ _ h2 (by kernel_rfl) rfl (byteCells_one _) ?_))
   refine bodyPost_ret (results_cell_row (ty:=43) rfl _ _ (w.heap.size+1) _ _ _ (.array 32 5) rfl (hrow h2) (by kernel_rfl) rfl (by kernel_rfl)) rfl ⟨rfl,?_⟩
   repeat' (first|(with_reducible exact Below.refl _ _)|(with_reducible assumption)|(with_reducible refine up_alloc ?_ _)|(with_reducible refine up ?_ _)|(with_reducible refine up_drew ?_)|(with_reducible refine up_row ?_ ?_ _)|(with_reducible refine up_set ?_ ?_ _)|((try dsimp only);first|omega|exact le_size|exact le_size1|exact le_size2|exact le_size3))
def fb (f:Nat→Nat):Nat→Nat
 | 0=>0
 | k+1=>fb f k+f k * 2 ^ (8 * k)
theorem fb_lt (f:Nat→Nat)(hf:∀ j,f j<256):∀ k,fb f k<2 ^ (8 * k)
 | 0=>by simp [fb]
 | k+1=>by
  have h:=fb_lt f hf k
  unfold fb
  rw [show 8 * (k+1)=8 * k+8 by omega,Nat.pow_add]
  have:(f k+1) * 2 ^ (8 * k)≤256 * 2 ^ (8 * k):=Nat.mul_le_mul_right _ (hf k)
  rw [Nat.add_mul] at this
  omega
theorem fb_bit (f:Nat→Nat)(hf:∀ j,f j<256)(k j:Nat):(fb f (k+1)).testBit j=if j<8 * k then (fb f k).testBit j else (f k).testBit (j - 8 * k):=by
 rw [fb,Nat.add_comm,Nat.mul_comm,Nat.testBit_two_pow_mul_add _ (fb_lt f hf k)]
theorem fb_lw_other (f:Nat→Nat)(hf:∀ j,f j<256)(q r i:Nat)(hr:r<8)(h:i≠q):lw (fb f (8 * q+r+1)) i=lw (fb f (8 * q+r)) i:=by
 apply Nat.eq_of_testBit_eq;intro j
 rw [lw_bit,lw_bit,fb_bit f hf]
 by_cases hj:j<64
 ·by_cases h':64 * i+j<8 * (8 * q+r)
  ·rw [if_pos h']
  ·rw [if_neg h',Nat.testBit_lt_two_pow (Nat.lt_of_lt_of_le (hf _) (show 256≤2 ^ (64 * i+j - 8 * (8 * q+r)) from Nat.pow_le_pow_right (show 0<2 by omega) (by omega:8≤_)))]
   rw [Nat.testBit_lt_two_pow (Nat.lt_of_lt_of_le (fb_lt f hf _) (Nat.pow_le_pow_right (by omega) (by omega)))]
 ·simp [hj]
theorem fb_lw_same (f:Nat→Nat)(hf:∀ j,f j<256)(q r:Nat)(hr:r<8):lw (fb f (8 * q+r+1)) q=lw (fb f (8 * q+r)) q ||| (f (8 * q+r) * 2 ^ (r * 8) % 2 ^ 64):=by
 apply Nat.eq_of_testBit_eq;intro j
 rw [lw_bit,fb_bit f hf,Nat.testBit_or,lw_bit,Nat.testBit_mod_two_pow,Nat.testBit_mul_two_pow]
 by_cases hj:j<64
 ·by_cases h':64 * q+j<8 * (8 * q+r)
  ·rw [if_pos h',decide_eq_false (by omega:¬j≥r * 8)];simp
  ·rw [if_neg h',decide_eq_true (by omega:j≥r * 8),Nat.testBit_lt_two_pow (x:=fb f (8 * q+r)) (Nat.lt_of_lt_of_le (fb_lt f hf _) (Nat.pow_le_pow_right (by omega) (by omega))),show 64 * q+j - 8 * (8 * q+r)=j - r * 8 by omega]
   simp
 ·simp [hj]
theorem index_bytes (f:Nat→Nat)(k:Nat)(hk:k<32)(w:World):(Instr.index 43 (.agg (byteCells f)) (.int .i64 (k:Int))).run Tryz.prog w=.ok (.int .u8 (f k:Nat)) w:=by
 have hu:Tryz.prog.underlying 43=some (.array 32 5):=by kernel_rfl
 have h1:¬((k:Int)<0∨(32:Int)≤k):=by omega
 have c:=byteCells_get f k hk
 simp [Instr.index,run_underlying hu,asIntOf,go_sem]
 rw [if_pos hk,c]
 rfl
set_option maxRecDepth 20000 in
set_option maxHeartbeats 4000000 in
theorem of_walk (f:Nat→Nat)(hf:∀ j,f j<256)(n:Nat)(hn:Hid (fb f 32=n))(w:World):Calls Tryz.prog 36 #[.agg (byteCells f)] w (Ret (num n) w):=by
 go_enter Tryz.func36,Tryz.ntmps36
 go_wp2_with (first|(refine wpList_load_row rfl 43 _ rfl _ rfl _ _ _ (.array 32 5) (ho (ho nw)) (by kernel_rfl) rfl (by kernel_rfl) ?_))
 go_loopw [7] (fun i wr=>∃ k:Nat,k≤32∧i=.int .i64 k∧wr.heap[w.heap.size+1]? = some (.cells #[.int .u64 0,.int .u64 0,.int .u64 0,.int .u64 0] 46)∧wr.heap[w.heap.size+1+1]? = some (.cells #[.int .u64 (limb (fb f k) 0),.int .u64 (limb (fb f k) 1),.int .u64 (limb (fb f k) 2),.int .u64 (limb (fb f k) 3)] 46)∧Below w.heap.size w wr)
  (fun i _=>32 - (intOf i).toNat)
 case atStart=>
  refine ⟨0,by omega,rfl,?_,?_,?_⟩
  ·(repeat' (first|(with_reducible exact nw)|(with_reducible exact nw1)|(with_reducible exact nw2)|(with_reducible exact nw3)|(with_reducible exact nw4)|(with_reducible exact nw5)|(with_reducible assumption)|(with_reducible apply ho)|(with_reducible apply hdr)|(with_reducible apply Grow.heap)|(with_reducible apply hrow)|(with_reducible apply hset)|(with_reducible apply hrow_other)|(with_reducible apply hset_other)|(go_simp;done)|omega))
  ·show _=some (Obj.cells #[.int .u64 (limb 0 0),.int .u64 (limb 0 1),.int .u64 (limb 0 2),.int .u64 (limb 0 3)] _)
   rw [show limb 0 0=0 from rfl,show limb 0 1=0 from rfl,show limb 0 2=0 from rfl,show limb 0 3=0 from rfl]
   (repeat' (first|(with_reducible exact nw)|(with_reducible exact nw1)|(with_reducible exact nw2)|(with_reducible exact nw3)|(with_reducible exact nw4)|(with_reducible exact nw5)|(with_reducible assumption)|(with_reducible apply ho)|(with_reducible apply hdr)|(with_reducible apply Grow.heap)|(with_reducible apply hrow)|(with_reducible apply hset)|(with_reducible apply hrow_other)|(with_reducible apply hset_other)|(go_simp;done)|omega))
  ·repeat' (first|(with_reducible exact Below.refl _ _)|(with_reducible assumption)|(with_reducible refine up_alloc ?_ _)|(with_reducible refine up ?_ _)|(with_reducible refine up_drew ?_)|(with_reducible refine up_row ?_ ?_ _)|(with_reducible refine up_set ?_ ?_ _)|((try dsimp only);first|omega|exact le_size|exact le_size1|exact le_size2|exact le_size3))
 case round=>
  obtain ⟨k,hk,rfl,h2,h3,hB⟩:=hrel
  have ⟨r3,z3,l3⟩:=rules h3
  have l2:=blk_lt h2
  have I2:LtSize (w.heap.size+1) wr:=⟨l2⟩
  have I3:LtSize (w.heap.size+1+1) wr:=⟨l3⟩
  by_cases hk':k<32
  ·have c:=byteCells_get f k hk'
   have f0:(0:Int)≤f k:=by omega
   have f1:(f k:Int)≤255:=by have:=hf k;omega
   obtain ⟨q,r,hr,hq4,hk0⟩:∃ q r,r<8∧q<4∧k=8 * q+r:=⟨k / 8,k % 8,Nat.mod_lt _ (by omega),by omega,(Nat.div_add_mod _ _).symm⟩
   have e2:(k:Int) % 8=r:=by omega
   have ix:=fun w=>index_bytes f k hk' w
   have hq:q=0∨q=1∨q=2∨q=3:=by omega
   have fin:bits .or .u64 (limb (fb f k) q) (IntKind.u64.wrap ((f k:Int) * 2 ^ (r * 8)))=limb (fb f (k+1)) q:=by
    rw [limb_lw,limb_lw,int_shl,int_or _ _ (lw_lt _ _) (up_lt _ _),hk0,fb_lw_same f hf q r hr]
   clear hq4
   rcases hq with rfl|rfl|rfl|rfl
   ·have e1:(k:Int) / 8=0:=by omega
    have o1:limb (fb f (k+1)) 1=limb (fb f k) 1:=by rw [limb_lw,limb_lw,hk0,fb_lw_other f hf 0 r 1 hr (by omega)]
    have o2:limb (fb f (k+1)) 2=limb (fb f k) 2:=by rw [limb_lw,limb_lw,hk0,fb_lw_other f hf 0 r 2 hr (by omega)]
    have o3:limb (fb f (k+1)) 3=limb (fb f k) 3:=by rw [limb_lw,limb_lw,hk0,fb_lw_other f hf 0 r 3 hr (by omega)]
    rw [←o1,←o2,←o3] at h3
    have e:=hset (i:=0) (v:=.int .u64 (limb (fb f (k+1)) 0)) h3
    simp only [List.setIfInBounds_toArray,List.set_cons_zero,List.set_cons_succ] at e
    clear hk0 h3 o1 o2 o3
    go_wp2_with fail
    go_roundw
    case rel=>
     refine ⟨k+1,by omega,by go_num,?_,?_,?_⟩
     ·(repeat' (first|(with_reducible exact nw)|(with_reducible exact nw1)|(with_reducible exact nw2)|(with_reducible exact nw3)|(with_reducible exact nw4)|(with_reducible exact nw5)|(with_reducible assumption)|(with_reducible apply ho)|(with_reducible apply hdr)|(with_reducible apply Grow.heap)|(with_reducible apply hrow)|(with_reducible apply hset)|(with_reducible apply hrow_other)|(with_reducible apply hset_other)|(go_simp;done)|omega))
     ·exact e
     ·repeat' (first|(with_reducible exact Below.refl _ _)|(with_reducible assumption)|(with_reducible refine up_alloc ?_ _)|(with_reducible refine up ?_ _)|(with_reducible refine up_drew ?_)|(with_reducible refine up_row ?_ ?_ _)|(with_reducible refine up_set ?_ ?_ _)|((try dsimp only);first|omega|exact le_size|exact le_size1|exact le_size2|exact le_size3))
    case measure=>simp [intOf];omega
   ·have e1:(k:Int) / 8=1:=by omega
    have o1:limb (fb f (k+1)) 0=limb (fb f k) 0:=by rw [limb_lw,limb_lw,hk0,fb_lw_other f hf 1 r 0 hr (by omega)]
    have o2:limb (fb f (k+1)) 2=limb (fb f k) 2:=by rw [limb_lw,limb_lw,hk0,fb_lw_other f hf 1 r 2 hr (by omega)]
    have o3:limb (fb f (k+1)) 3=limb (fb f k) 3:=by rw [limb_lw,limb_lw,hk0,fb_lw_other f hf 1 r 3 hr (by omega)]
    rw [←o1,←o2,←o3] at h3
    have e:=hset (i:=1) (v:=.int .u64 (limb (fb f (k+1)) 1)) h3
    simp only [List.setIfInBounds_toArray,List.set_cons_zero,List.set_cons_succ] at e
    clear hk0 h3 o1 o2 o3
    go_wp2_with fail
    go_roundw
    case rel=>
     refine ⟨k+1,by omega,by go_num,?_,?_,?_⟩
     ·(repeat' (first|(with_reducible exact nw)|(with_reducible exact nw1)|(with_reducible exact nw2)|(with_reducible exact nw3)|(with_reducible exact nw4)|(with_reducible exact nw5)|(with_reducible assumption)|(with_reducible apply ho)|(with_reducible apply hdr)|(with_reducible apply Grow.heap)|(with_reducible apply hrow)|(with_reducible apply hset)|(with_reducible apply hrow_other)|(with_reducible apply hset_other)|(go_simp;done)|omega))
     ·exact e
     ·repeat' (first|(with_reducible exact Below.refl _ _)|(with_reducible assumption)|(with_reducible refine up_alloc ?_ _)|(with_reducible refine up ?_ _)|(with_reducible refine up_drew ?_)|(with_reducible refine up_row ?_ ?_ _)|(with_reducible refine up_set ?_ ?_ _)|((try dsimp only);first|omega|exact le_size|exact le_size1|exact le_size2|exact le_size3))
    case measure=>simp [intOf];omega
   ·have e1:(k:Int) / 8=2:=by omega
    have o1:limb (fb f (k+1)) 0=limb (fb f k) 0:=by rw [limb_lw,limb_lw,hk0,fb_lw_other f hf 2 r 0 hr (by omega)]
    have o2:limb (fb f (k+1)) 1=limb (fb f k) 1:=by rw [limb_lw,limb_lw,hk0,fb_lw_other f hf 2 r 1 hr (by omega)]
    have o3:limb (fb f (k+1)) 3=limb (fb f k) 3:=by rw [limb_lw,limb_lw,hk0,fb_lw_other f hf 2 r 3 hr (by omega)]
    rw [←o1,←o2,←o3] at h3
    have e:=hset (i:=2) (v:=.int .u64 (limb (fb f (k+1)) 2)) h3
    simp only [List.setIfInBounds_toArray,List.set_cons_zero,List.set_cons_succ] at e
    clear hk0 h3 o1 o2 o3
    go_wp2_with fail
    go_roundw
    case rel=>
     refine ⟨k+1,by omega,by go_num,?_,?_,?_⟩
     ·(repeat' (first|(with_reducible exact nw)|(with_reducible exact nw1)|(with_reducible exact nw2)|(with_reducible exact nw3)|(with_reducible exact nw4)|(with_reducible exact nw5)|(with_reducible assumption)|(with_reducible apply ho)|(with_reducible apply hdr)|(with_reducible apply Grow.heap)|(with_reducible apply hrow)|(with_reducible apply hset)|(with_reducible apply hrow_other)|(with_reducible apply hset_other)|(go_simp;done)|omega))
     ·exact e
     ·repeat' (first|(with_reducible exact Below.refl _ _)|(with_reducible assumption)|(with_reducible refine up_alloc ?_ _)|(with_reducible refine up ?_ _)|(with_reducible refine up_drew ?_)|(with_reducible refine up_row ?_ ?_ _)|(with_reducible refine up_set ?_ ?_ _)|((try dsimp only);first|omega|exact le_size|exact le_size1|exact le_size2|exact le_size3))
    case measure=>simp [intOf];omega
   ·have e1:(k:Int) / 8=3:=by omega
    have o1:limb (fb f (k+1)) 0=limb (fb f k) 0:=by rw [limb_lw,limb_lw,hk0,fb_lw_other f hf 3 r 0 hr (by omega)]
    have o2:limb (fb f (k+1)) 1=limb (fb f k) 1:=by rw [limb_lw,limb_lw,hk0,fb_lw_other f hf 3 r 1 hr (by omega)]
    have o3:limb (fb f (k+1)) 2=limb (fb f k) 2:=by rw [limb_lw,limb_lw,hk0,fb_lw_other f hf 3 r 2 hr (by omega)]
    rw [←o1,←o2,←o3] at h3
    have e:=hset (i:=3) (v:=.int .u64 (limb (fb f (k+1)) 3)) h3
    simp only [List.setIfInBounds_toArray,List.set_cons_zero,List.set_cons_succ] at e
    clear hk0 h3 o1 o2 o3
    go_wp2_with fail
    go_roundw
    case rel=>
     refine ⟨k+1,by omega,by go_num,?_,?_,?_⟩
     ·(repeat' (first|(with_reducible exact nw)|(with_reducible exact nw1)|(with_reducible exact nw2)|(with_reducible exact nw3)|(with_reducible exact nw4)|(with_reducible exact nw5)|(with_reducible assumption)|(with_reducible apply ho)|(with_reducible apply hdr)|(with_reducible apply Grow.heap)|(with_reducible apply hrow)|(with_reducible apply hset)|(with_reducible apply hrow_other)|(with_reducible apply hset_other)|(go_simp;done)|omega))
     ·exact e
     ·repeat' (first|(with_reducible exact Below.refl _ _)|(with_reducible assumption)|(with_reducible refine up_alloc ?_ _)|(with_reducible refine up ?_ _)|(with_reducible refine up_drew ?_)|(with_reducible refine up_row ?_ ?_ _)|(with_reducible refine up_set ?_ ?_ _)|((try dsimp only);first|omega|exact le_size|exact le_size1|exact le_size2|exact le_size3))
    case measure=>simp [intOf];omega
  ·obtain rfl:k=32:=by omega
   clear r3 z3
   rw [hn.out] at h3
   go_wp2_with (first|(refine wpList_load_row rfl 46 _ rfl _ rfl _ _ _ (.array 4 44) h3 (by kernel_rfl) rfl (by kernel_rfl) ?_)|(refine wpList_store_row rfl 46 _ _ rfl _ _ rfl rfl _ _ h2 (by kernel_rfl) rfl (by simp [Value.oneCell']) ?_))
   refine bodyPost_ret (results_cell_row (ty:=46) rfl _ _ (w.heap.size+1) _ _ _ (.array 4 44) rfl (hrow h2) (by kernel_rfl) rfl (by kernel_rfl)) rfl ⟨rfl,?_⟩
   repeat' (first|(with_reducible exact Below.refl _ _)|(with_reducible assumption)|(with_reducible refine up_alloc ?_ _)|(with_reducible refine up ?_ _)|(with_reducible refine up_drew ?_)|(with_reducible refine up_row ?_ ?_ _)|(with_reducible refine up_set ?_ ?_ _)|((try dsimp only);first|omega|exact le_size|exact le_size1|exact le_size2|exact le_size3))
theorem of_all (f:Nat→Nat)(hf:∀ j,f j<256)(w:World):Calls Tryz.prog 36 #[.agg (byteCells f)] w (Ret (num (fb f 32)) w):=
 of_walk f hf _ (show Hid _ from rfl) w
end Go.Proofs.YtkendlnjaopbeaaGreatDoor
namespace Go.Proofs.YtkendlnjaopbeaaGreatDoor
open Go.RowKit
set_option linter.unusedVariables false
def bytesC (n:Nat):Array Value:=byteCells (byteN n)
abbrev bv (n:Nat):Value:=.agg (bytesC n)
theorem byteN_lt (a j:Nat):byteN a j<256:=Nat.mod_lt _ (by decide)
theorem bytesC_size (n:Nat):(bytesC n).size=32:=by unfold bytesC byteCells;simp
instance bytesC_cells (n:Nat):Cells (bytesC n) 32:=⟨bytesC_size n,byteCells_one _⟩
theorem bytesC_get (n k:Nat)(hk:k<32):(bytesC n)[k]? = some (.int .u8 (byteN n k:Nat)):=byteCells_get _ k hk
theorem byteCells_congr {f g:Nat→Nat}(h:∀ j,j<32→f j=g j):byteCells f=byteCells g:=by
 apply Array.ext_getElem?
 intro i
 by_cases hi:i<32
 ·rw [byteCells_get _ i hi,byteCells_get _ i hi,h i hi]
 ·rw [Array.getElem?_eq_none (by unfold byteCells;simp;omega),Array.getElem?_eq_none (by unfold byteCells;simp;omega)]
theorem bytesC_put (n n' k v:Nat)(hk:k<32)(hv:v=byteN n' k)(ho:∀ j,j<32→j≠k→byteN n j=byteN n' j):putC (bytesC n) k (.int .u8 (v:Nat))=bytesC n':=by
 unfold putC bytesC
 rw [byteCells_set _ k v hk]
 apply byteCells_congr
 intro j hj
 by_cases h:j=k
 ·rw [if_pos h,h,hv]
 ·rw [if_neg h,ho j hj h]
theorem fb_byteN (n:Nat):∀ k,fb (byteN n) k=n % 2 ^ (8 * k)
 | 0=>by unfold fb;rw [Nat.mul_zero,Nat.pow_zero,Nat.mod_one]
 | k+1=>by
  have ih:=fb_byteN n k
  apply Nat.eq_of_testBit_eq
  intro j
  rw [fb_bit _ (byteN_lt n),ih,Nat.testBit_mod_two_pow,Nat.testBit_mod_two_pow]
  split
  ·rename_i h
   rw [decide_eq_true (show j<8 * k from h),decide_eq_true (show j<8 * (k+1) by omega)]
  ·rename_i h
   unfold byteN
   rw [show (256:Nat)=2 ^ 8 from rfl,Nat.testBit_mod_two_pow,Nat.testBit_div_two_pow,show j - 8 * k+8 * k=j by omega]
   congr 1
   rw [decide_eq_decide]
   omega
theorem bytes_bv (a:Nat)(ha:a<T256)(w:World):Calls Tryz.prog 55 [nu a].toArray w (Ret (bv a) w):=by
 have:=bytes_all a ha w
 rw [nu_num] at this
 exact this
theorem of_bv (a:Nat)(ha:a<T256)(w:World):Calls Tryz.prog 36 [bv a].toArray w (Ret (nu a) w):=by
 have:=of_all (byteN a) (byteN_lt a) w
 rw [fb_byteN,nu_num,show 2 ^ (8 * 32)=T256 from T256_eq.symm,Nat.mod_eq_of_lt ha] at this
 exact this
theorem byteCells_bv (f:Nat→Nat)(hf:∀ j,f j<256):∃ n,n<T256∧byteCells f=bytesC n:=by
 refine ⟨fb f 32,by rw [T256_eq];exact fb_lt f hf 32,?_⟩
 apply byteCells_congr
 intro j hj
 apply Nat.eq_of_testBit_eq
 intro i
 unfold byteN
 rw [show (256:Nat)=2 ^ 8 from rfl,Nat.testBit_mod_two_pow,Nat.testBit_div_two_pow]
 have key:∀ k,j<k→i<8→(fb f k).testBit (i+8 * j)=(f j).testBit i:=by
  intro k
  induction k with
  | zero=>intro h;omega
  | succ k ih=>
   intro h hi
   rw [fb_bit f hf]
   by_cases hjk:j<k
   ·rw [if_pos (by omega)];exact ih hjk hi
   ·obtain rfl:j=k:=by omega
    rw [if_neg (by omega),show i+8 * j - 8 * j=i by omega]
 by_cases hi:i<8
 ·rw [decide_eq_true hi,Bool.true_and,key 32 hj hi]
 ·rw [decide_eq_false hi,Bool.false_and]
  exact Nat.testBit_lt_two_pow (Nat.lt_of_lt_of_le (hf j) (by
   rw [show (256:Nat)=2 ^ 8 from rfl];exact Nat.pow_le_pow_right (by decide) (by omega)))
attribute [irreducible] bytesC
end Go.Proofs.YtkendlnjaopbeaaGreatDoor
