/- The walk over lists: the operations. -/
import Derived.Test.YtkendlnjaopbeaaGreatDoorJnAA
import Derived.WalkSpells
namespace Go.Proofs.YtkendlnjaopbeaaGreatDoor
open Go.RowKit
set_option linter.unusedVariables false
set_option linter.unusedSimpArgs false
class UT (P:Program)(t:Nat)(d:outParam TypeDesc):Prop where
 out:P.underlying t=some d
class SZ (P:Program)(t:Nat)(k:outParam Nat):Prop where
 out:(P.info? t).map (·.size)=some k
class ZR (P:Program)(t:Nat)(z:outParam Value):Prop where
 out:(P.info? t).bind (·.zero)=some z
class KD (P:Program)(t:Nat)(b:outParam Bool):Prop where
 out:(P.underlying t).map TypeDesc.isRow=some b
 tb:Nat.blt t BIG=true:=by rfl
def fieldOf (P:Program)(t f:Nat):Option (Nat×Nat×Nat):=match P.underlying t with
 | some (.struct fs)=>match fs[f]? with
  | some fd=>(P.info? fd.type).map fun i=>(fd.offset,fd.type,i.size)
  | none=>none
 | _=>none
class FD (P:Program)(t f:Nat)(off ty k:outParam Nat):Prop where
 out:fieldOf P t f=some (off,ty,k)
def placesOf (P:Program)(t:Nat):Option (List (Nat×Nat)):=match P.underlying t with
 | some (.struct fs)=>bif fs.toList.all (fun f=>(P.info? f.type).isSome) then some (fs.toList.map fun f=>(f.offset,P.cellsOf f.type)) else none
 | _=>none
class SP (P:Program)(t:Nat)(pl:outParam (List (Nat×Nat))):Prop where
 out:placesOf P t=some pl
theorem KD.agg {P:Program}{t:Nat}{b:Bool}(h:KD P t b)(w:World):(isAgg t).run P w=.ok b w:=by
 have h:=h.out
 cases hu:P.underlying t with
 | none=>simp [hu] at h
 | some d=>
  simp only [hu,Option.map_some,Option.some.injEq] at h
  subst h
  unfold isAgg
  rw [Sem.run_bind,run_underlying hu w]
  cases d <;> simp [TypeDesc.isRow]
theorem SZ.run {P:Program}{t k:Nat}(h:SZ P t k)(w:World):(sizeOf t).run P w=.ok k w:=by
 have h:=h.out
 cases hi:P.info? t with
 | none=>simp [hi] at h
 | some i=>simp [hi] at h;simp [sizeOf,typeInfo,hi,h]
theorem ZR.run {P:Program}{t:Nat}{z:Value}(h:ZR P t z)(w:World):(zeroValue t).run P w=.ok z w:=by
 have h:=h.out
 cases hi:P.info? t with
 | none=>simp [hi] at h
 | some i=>
  have h':i.zero=some z:=by simpa [hi] using h
  simp [zeroValue,typeInfo,hi,h']
theorem wrap_i64 (x:Int)(h0:-9223372036854775808≤x)(h1:x<9223372036854775808):IntKind.i64.wrap x=x:=by
 have e:(2:Int) ^ 64=18446744073709551616:=rfl
 have e':(2:Int) ^ (64 - 1)=9223372036854775808:=rfl
 simp only [IntKind.wrap,IntKind.bits,IntKind.signed,Bool.true_and,decide_eq_true_eq,e,e'];split <;> omega
theorem wrap_u64 (x:Int)(h0:0≤x)(h1:x<18446744073709551616):IntKind.u64.wrap x=x:=by
 simp only [IntKind.wrap,IntKind.bits,IntKind.signed];simp;omega
theorem wrap_u32 (x:Int)(h0:0≤x)(h1:x<4294967296):IntKind.u32.wrap x=x:=by
 simp only [IntKind.wrap,IntKind.bits,IntKind.signed];simp;omega
theorem wrap_u8 (x:Int)(h0:0≤x)(h1:x<256):IntKind.u8.wrap x=x:=by
 simp only [IntKind.wrap,IntKind.bits,IntKind.signed];simp;omega
theorem quo_nn (x y:Int)(h0:0≤x):x.tdiv y=x / y:=Int.tdiv_eq_ediv_of_nonneg h0
theorem rem_nn (x y:Int)(h0:0≤x):x.tmod y=x % y:=Int.tmod_eq_emod_of_nonneg h0
section
variable {X:Cx}{s:Slots}{l:Blks}{o:Oper}{v:Value}
def Rd (X:Cx)(s:Slots)(l:Blks)(o:Oper)(v:Value):Prop:=∀ a w,Env X.N s a→Mem X l w→mildUpon X.P w v ((execOp a.eval o).run X.P w)
def RdV (X:Cx)(s:Slots)(l:Blks)(o:Oper)(v:Value):Prop:=∀ a w,Env X.N s a→Mem X l w→(execOp a.eval o).run X.P w=.ok (.value v) w
theorem rd_val (h:∀ a w,Env X.N s a→Mem X l w→(execOp a.eval o).run X.P w=.ok (.value v) w):RdV X s l o v:=h
theorem RdV.rd (h:RdV X s l o v):Rd X s l o v:=fun a w he hm=>by rw [h a w he hm];exact ⟨rfl,rfl⟩
theorem rd_move {x:Operand}(ho:o.op=.move x)(hx:val s x=some v):RdV X s l o v:=rd_val fun a w he hm=>by simp [execOp,ho,he.eval hx]
theorem rd_assign {x:Operand}(ho:o.op=.assign x)(hx:val s x=some v):RdV X s l o v:=rd_val fun a w he hm=>by simp [execOp,ho,he.eval hx]
theorem rd_pick {c x y:Operand}{b:Bool}{v1 v2:Value}(ho:o.op=.pick c x y)(hc:val s c=some (.bool b))(hx:val s x=some v1)(hy:val s y=some v2)(hv:cond b v1 v2=v):RdV X s l o v:=
 rd_val fun a w he hm=>by
  subst hv
  simp only [execOp,ho,he.eval hc,he.eval hx,he.eval hy]
  cases b <;> simp [asBool]
theorem rd_extract {x:Operand}{k:Nat}{vs:Array Value}(ho:o.op=.extract x k)(hx:val s x=some (.tuple vs))(hv:vs[k]? = some v:=by first|(with_reducible assumption)|((try simp only [List.getElem?_toArray,List.getElem?_cons_zero,List.getElem?_cons_succ]);first|done|exact rfl)):RdV X s l o v:=
 rd_val fun a w he hm=>by simp [execOp,ho,he.eval hx,Instr.extract,hv]
def arI:BinOp→IntKind→Int→Int→Option Int
 | .add,k,a,b=>some (k.wrap (a+b))
 | .sub,k,a,b=>some (k.wrap (a - b))
 | .mul,k,a,b=>some (k.wrap (a * b))
 | _,_,_,_=>none
def bwI:BinOp→IntKind→Int→Int→Option Int
 | .and,k,a,b=>some (bits .and k a b)
 | .or,k,a,b=>some (bits .or k a b)
 | .xor,k,a,b=>some (bits .xor k a b)
 | .andNot,k,a,b=>some (bits .andNot k a b)
 | _,_,_,_=>none
def cmI:BinOp→Int→Int→Option Bool
 | .eql,a,b=>some (a == b)
 | .neq,a,b=>some (a != b)
 | .lss,a,b=>some (decide (a<b))
 | .leq,a,b=>some (decide (a≤b))
 | .gtr,a,b=>some (decide (a>b))
 | .geq,a,b=>some (decide (a≥b))
 | _,_,_=>none
theorem rd_ar {op:BinOp}{t yt:Nat}{x y:Operand}{k:IntKind}{a b r r':Int}(ho:o.op=.binOp op t x y yt)(hx:val s x=some (.int k a))(hy:val s y=some (.int k b))
  (hr:arI op k a b=some r') (hr':r'=r:=by first|(with_reducible assumption)|((try simp (disch:=omega) only [wrap_i64,wrap_u64,wrap_u8,wrap_u32,quo_nn,rem_nn,Int.reduceAdd,Int.reduceSub,Int.reduceMul,Int.reduceDiv,Int.reduceMod,Int.reduceLT,Int.reduceLE,Int.reduceBEq,Int.reduceBNe,Int.reduceToNat,Int.reduceNeg,Int.toNat_natCast,Nat.min_eq_left,Nat.min_eq_right,Nat.reduceMul,Nat.reduceAdd,Int.reducePow,Nat.reducePow,IntKind.bits,decide_true,decide_false,gt_iff_lt,ge_iff_le,Bool.not_true,Bool.not_false,Nat.mul_one,Nat.zero_add,Nat.zero_mul]);first|done|exact rfl)):RdV X s l o (.int k r):=
 rd_val fun e w he hm=>by
  subst hr'
  simp only [execOp,ho,he.eval hx,he.eval hy]
  cases op <;> simp only [arI,reduceCtorEq,Option.some.injEq] at hr <;> subst hr <;> simp [eqGuard,binOp,Op.intArith,go_sem]
theorem rd_bw {op:BinOp}{t yt:Nat}{x y:Operand}{k:IntKind}{a b r r':Int}(ho:o.op=.binOp op t x y yt)(hx:val s x=some (.int k a))(hy:val s y=some (.int k b))
  (hr:bwI op k a b=some r') (hr':r'=r:=by first|(with_reducible assumption)|((try simp (disch:=omega) only [wrap_i64,wrap_u64,wrap_u8,wrap_u32,quo_nn,rem_nn,Int.reduceAdd,Int.reduceSub,Int.reduceMul,Int.reduceDiv,Int.reduceMod,Int.reduceLT,Int.reduceLE,Int.reduceBEq,Int.reduceBNe,Int.reduceToNat,Int.reduceNeg,Int.toNat_natCast,Nat.min_eq_left,Nat.min_eq_right,Nat.reduceMul,Nat.reduceAdd,Int.reducePow,Nat.reducePow,IntKind.bits,decide_true,decide_false,gt_iff_lt,ge_iff_le,Bool.not_true,Bool.not_false,Nat.mul_one,Nat.zero_add,Nat.zero_mul]);first|done|exact rfl)):RdV X s l o (.int k r):=
 rd_val fun e w he hm=>by
  subst hr'
  simp only [execOp,ho,he.eval hx,he.eval hy]
  cases op <;> simp only [bwI,reduceCtorEq,Option.some.injEq] at hr <;> subst hr <;> simp [eqGuard,binOp,Op.intBits,bits,go_sem]
theorem rd_cm {op:BinOp}{t yt:Nat}{x y:Operand}{k:IntKind}{a b:Int}{r r':Bool}(ho:o.op=.binOp op t x y yt)(hx:val s x=some (.int k a))(hy:val s y=some (.int k b))
  (hr:cmI op a b=some r') (hr':r'=r:=by first|(with_reducible assumption)|((try simp (disch:=omega) only [wrap_i64,wrap_u64,wrap_u8,wrap_u32,quo_nn,rem_nn,Int.reduceAdd,Int.reduceSub,Int.reduceMul,Int.reduceDiv,Int.reduceMod,Int.reduceLT,Int.reduceLE,Int.reduceBEq,Int.reduceBNe,Int.reduceToNat,Int.reduceNeg,Int.toNat_natCast,Nat.min_eq_left,Nat.min_eq_right,Nat.reduceMul,Nat.reduceAdd,Int.reducePow,Nat.reducePow,IntKind.bits,decide_true,decide_false,gt_iff_lt,ge_iff_le,Bool.not_true,Bool.not_false,Nat.mul_one,Nat.zero_add,Nat.zero_mul]);first|done|exact rfl)):RdV X s l o (.bool r):=
 rd_val fun e w he hm=>by
  subst hr'
  simp only [execOp,ho,he.eval hx,he.eval hy]
  cases op <;> simp only [cmI,reduceCtorEq,Option.some.injEq] at hr <;> subst hr <;> simp [eqGuard,binOp,Op.intCmp,go_sem]
theorem rd_quo {t yt:Nat}{x y:Operand}{k:IntKind}{a b r:Int}(ho:o.op=.binOp .quo t x y yt)(hx:val s x=some (.int k a))(hy:val s y=some (.int k b))
 (hb:b≠0:=by first|(with_reducible assumption)|omega|decide) (hr:k.wrap (a.tdiv b)=r:=by first|(with_reducible assumption)|((try simp (disch:=omega) only [wrap_i64,wrap_u64,wrap_u8,wrap_u32,quo_nn,rem_nn,Int.reduceAdd,Int.reduceSub,Int.reduceMul,Int.reduceDiv,Int.reduceMod,Int.reduceLT,Int.reduceLE,Int.reduceBEq,Int.reduceBNe,Int.reduceToNat,Int.reduceNeg,Int.toNat_natCast,Nat.min_eq_left,Nat.min_eq_right,Nat.reduceMul,Nat.reduceAdd,Int.reducePow,Nat.reducePow,IntKind.bits,decide_true,decide_false,gt_iff_lt,ge_iff_le,Bool.not_true,Bool.not_false,Nat.mul_one,Nat.zero_add,Nat.zero_mul]);first|done|exact rfl)):RdV X s l o (.int k r):=
 rd_val fun e w he hm=>by
  subst hr
  simp [execOp,ho,he.eval hx,he.eval hy,eqGuard,binOp,Op.intDiv,hb]
theorem rd_rem {t yt:Nat}{x y:Operand}{k:IntKind}{a b r:Int}(ho:o.op=.binOp .rem t x y yt)(hx:val s x=some (.int k a))(hy:val s y=some (.int k b))
 (hb:b≠0:=by first|(with_reducible assumption)|omega|decide) (hr:a.tmod b=r:=by first|(with_reducible assumption)|((try simp (disch:=omega) only [wrap_i64,wrap_u64,wrap_u8,wrap_u32,quo_nn,rem_nn,Int.reduceAdd,Int.reduceSub,Int.reduceMul,Int.reduceDiv,Int.reduceMod,Int.reduceLT,Int.reduceLE,Int.reduceBEq,Int.reduceBNe,Int.reduceToNat,Int.reduceNeg,Int.toNat_natCast,Nat.min_eq_left,Nat.min_eq_right,Nat.reduceMul,Nat.reduceAdd,Int.reducePow,Nat.reducePow,IntKind.bits,decide_true,decide_false,gt_iff_lt,ge_iff_le,Bool.not_true,Bool.not_false,Nat.mul_one,Nat.zero_add,Nat.zero_mul]);first|done|exact rfl)):RdV X s l o (.int k r):=
 rd_val fun e w he hm=>by
  subst hr
  simp [execOp,ho,he.eval hx,he.eval hy,eqGuard,binOp,Op.intDiv,hb]
theorem rd_shl {t yt:Nat}{x y:Operand}{k k':IntKind}{a b r:Int}(ho:o.op=.binOp .shl t x y yt)(hx:val s x=some (.int k a))(hy:val s y=some (.int k' b))
 (hb:0≤b:=by first|(with_reducible assumption)|omega|decide) (hr:k.wrap (a * 2 ^ (min b.toNat k.bits))=r:=by first|(with_reducible assumption)|((try simp (disch:=omega) only [wrap_i64,wrap_u64,wrap_u8,wrap_u32,quo_nn,rem_nn,Int.reduceAdd,Int.reduceSub,Int.reduceMul,Int.reduceDiv,Int.reduceMod,Int.reduceLT,Int.reduceLE,Int.reduceBEq,Int.reduceBNe,Int.reduceToNat,Int.reduceNeg,Int.toNat_natCast,Nat.min_eq_left,Nat.min_eq_right,Nat.reduceMul,Nat.reduceAdd,Int.reducePow,Nat.reducePow,IntKind.bits,decide_true,decide_false,gt_iff_lt,ge_iff_le,Bool.not_true,Bool.not_false,Nat.mul_one,Nat.zero_add,Nat.zero_mul]);first|done|exact rfl)):RdV X s l o (.int k r):=
 rd_val fun e w he hm=>by
  subst hr
  have:¬b<0:=by omega
  simp [execOp,ho,he.eval hx,he.eval hy,eqGuard,binOp,Op.shift,this]
theorem rd_shr {t yt:Nat}{x y:Operand}{k k':IntKind}{a b r:Int}(ho:o.op=.binOp .shr t x y yt)(hx:val s x=some (.int k a))(hy:val s y=some (.int k' b))
 (hb:0≤b:=by first|(with_reducible assumption)|omega|decide) (hr:a / 2 ^ (min b.toNat k.bits)=r:=by first|(with_reducible assumption)|((try simp (disch:=omega) only [wrap_i64,wrap_u64,wrap_u8,wrap_u32,quo_nn,rem_nn,Int.reduceAdd,Int.reduceSub,Int.reduceMul,Int.reduceDiv,Int.reduceMod,Int.reduceLT,Int.reduceLE,Int.reduceBEq,Int.reduceBNe,Int.reduceToNat,Int.reduceNeg,Int.toNat_natCast,Nat.min_eq_left,Nat.min_eq_right,Nat.reduceMul,Nat.reduceAdd,Int.reducePow,Nat.reducePow,IntKind.bits,decide_true,decide_false,gt_iff_lt,ge_iff_le,Bool.not_true,Bool.not_false,Nat.mul_one,Nat.zero_add,Nat.zero_mul]);first|done|exact rfl)):RdV X s l o (.int k r):=
 rd_val fun e w he hm=>by
  subst hr
  have:¬b<0:=by omega
  have h2:a.fdiv (2 ^ (min b.toNat k.bits))=a / 2 ^ (min b.toNat k.bits):=Int.fdiv_eq_ediv_of_nonneg _ (by have:(0:Int)<2 ^ (min b.toNat k.bits):=Int.pow_pos (by omega);omega)
  simp [execOp,ho,he.eval hx,he.eval hy,eqGuard,binOp,Op.shift,this,h2]
theorem rd_not {t:Nat}{x:Operand}{b r:Bool}(ho:o.op=.unOp .not t x)(hx:val s x=some (.bool b))(hr:(!b)=r:=by first|(with_reducible assumption)|((try simp (disch:=omega) only [wrap_i64,wrap_u64,wrap_u8,wrap_u32,quo_nn,rem_nn,Int.reduceAdd,Int.reduceSub,Int.reduceMul,Int.reduceDiv,Int.reduceMod,Int.reduceLT,Int.reduceLE,Int.reduceBEq,Int.reduceBNe,Int.reduceToNat,Int.reduceNeg,Int.toNat_natCast,Nat.min_eq_left,Nat.min_eq_right,Nat.reduceMul,Nat.reduceAdd,Int.reducePow,Nat.reducePow,IntKind.bits,decide_true,decide_false,gt_iff_lt,ge_iff_le,Bool.not_true,Bool.not_false,Nat.mul_one,Nat.zero_add,Nat.zero_mul]);first|done|exact rfl)):RdV X s l o (.bool r):=
 rd_val fun e w he hm=>by subst hr;simp [execOp,ho,he.eval hx,Op.unary]
theorem rd_neg {t:Nat}{x:Operand}{k:IntKind}{a r:Int}(ho:o.op=.unOp .neg t x)(hx:val s x=some (.int k a))(hr:k.wrap (0 - a)=r:=by first|(with_reducible assumption)|((try simp (disch:=omega) only [wrap_i64,wrap_u64,wrap_u8,wrap_u32,quo_nn,rem_nn,Int.reduceAdd,Int.reduceSub,Int.reduceMul,Int.reduceDiv,Int.reduceMod,Int.reduceLT,Int.reduceLE,Int.reduceBEq,Int.reduceBNe,Int.reduceToNat,Int.reduceNeg,Int.toNat_natCast,Nat.min_eq_left,Nat.min_eq_right,Nat.reduceMul,Nat.reduceAdd,Int.reducePow,Nat.reducePow,IntKind.bits,decide_true,decide_false,gt_iff_lt,ge_iff_le,Bool.not_true,Bool.not_false,Nat.mul_one,Nat.zero_add,Nat.zero_mul]);first|done|exact rfl)):RdV X s l o (.int k r):=
 rd_val fun e w he hm=>by subst hr;simp [execOp,ho,he.eval hx,Op.unary,Op.intArith]
theorem rd_inv {t:Nat}{x:Operand}{k:IntKind}{a r:Int}(ho:o.op=.unOp .xor t x)(hx:val s x=some (.int k a))(hr:bits .xor k (if k.signed then -1 else k.max) a=r:=by first|(with_reducible assumption)|((try simp (disch:=omega) only [wrap_i64,wrap_u64,wrap_u8,wrap_u32,quo_nn,rem_nn,Int.reduceAdd,Int.reduceSub,Int.reduceMul,Int.reduceDiv,Int.reduceMod,Int.reduceLT,Int.reduceLE,Int.reduceBEq,Int.reduceBNe,Int.reduceToNat,Int.reduceNeg,Int.toNat_natCast,Nat.min_eq_left,Nat.min_eq_right,Nat.reduceMul,Nat.reduceAdd,Int.reducePow,Nat.reducePow,IntKind.bits,decide_true,decide_false,gt_iff_lt,ge_iff_le,Bool.not_true,Bool.not_false,Nat.mul_one,Nat.zero_add,Nat.zero_mul]);first|done|exact rfl)):RdV X s l o (.int k r):=
 rd_val fun e w he hm=>by subst hr;simp [execOp,ho,he.eval hx,Op.unary,Op.intBits,bits]
theorem rd_conv {src dst:Nat}{x:Operand}{d:TypeDesc}{k k':IntKind}{a r:Int}(ho:o.op=.convert src dst x)(hx:val s x=some (.int k a))[h1:UT X.P src d][h2:UT X.P dst (.int k')](hr:k'.wrap a=r:=by first|(with_reducible assumption)|((try simp (disch:=omega) only [wrap_i64,wrap_u64,wrap_u8,wrap_u32,quo_nn,rem_nn,Int.reduceAdd,Int.reduceSub,Int.reduceMul,Int.reduceDiv,Int.reduceMod,Int.reduceLT,Int.reduceLE,Int.reduceBEq,Int.reduceBNe,Int.reduceToNat,Int.reduceNeg,Int.toNat_natCast,Nat.min_eq_left,Nat.min_eq_right,Nat.reduceMul,Nat.reduceAdd,Int.reducePow,Nat.reducePow,IntKind.bits,decide_true,decide_false,gt_iff_lt,ge_iff_le,Bool.not_true,Bool.not_false,Nat.mul_one,Nat.zero_add,Nat.zero_mul]);first|done|exact rfl)):RdV X s l o (.int k' r):=
 rd_val fun e w he hm=>by
  subst hr
  simp [execOp,ho,he.eval hx,convert,Sem.run_bind,run_underlying h1.out,run_underlying h2.out,Conv.intToInt]
theorem run_eql {P:Program}{t:Nat}{x y:Value}{r:Bool}(w:World)(hb:binOp .eql t x y=do pure (.bool (← Op.equal t x y)))(q:(Op.equalIn 10000 t x y).run P w=.ok r w):(binOp .eql t x y).run P w=.ok (.bool r) w:=by
 rw [hb,Sem.run_bind]
 show ((Op.equalIn 10000 t x y).run P w).andThen _=_
 rw [q]
 rfl
theorem run_neq {P:Program}{t:Nat}{x y:Value}{r:Bool}(w:World)(hb:binOp .neq t x y=do pure (.bool (!(← Op.equal t x y))))(q:(Op.equalIn 10000 t x y).run P w=.ok r w):(binOp .neq t x y).run P w=.ok (.bool (!r)) w:=by
 rw [hb,Sem.run_bind]
 show ((Op.equalIn 10000 t x y).run P w).andThen _=_
 rw [q]
 rfl
theorem rd_eqlB {t yt:Nat}{x y:Operand}{a b r:Bool}(ho:o.op=.binOp .eql t x y yt)(hx:val s x=some (.bool a))(hy:val s y=some (.bool b))[h:UT X.P t .bool](hr:(a == b)=r):RdV X s l o (.bool r):=
 rd_val fun e w he hm=>by
  subst hr
  have q:(Op.equalIn 10000 t (.bool a) (.bool b)).run X.P w=.ok (a == b) w:=by
   rw [show (10000:Nat)=9999+1 from rfl,Op.equalIn,Sem.run_bind,run_underlying h.out];rfl
  simp only [execOp,ho,he.eval hx,he.eval hy,eqGuard]
  simp [run_eql w rfl q]
theorem rd_eqlV {t yt:Nat}{x y:Operand}{cs ds:Array Value}{r:Bool}(ho:o.op=.binOp .eql t x y yt)(hx:val s x=some (.agg cs))(hy:val s y=some (.agg ds))
  (q:∀ w:World,(Op.equalIn 10000 t (.agg cs) (.agg ds)).run X.P w=.ok r w) (hg:X.P.eqGuardType X.P.depth t=false:=by kernel_rfl):RdV X s l o (.bool r):=
 rd_val fun e w he hm=>by
  simp only [execOp,ho,he.eval hx,he.eval hy,eqGuard]
  simp [run_eql w rfl (q w),hg]
theorem rd_neqV {t yt:Nat}{x y:Operand}{cs ds:Array Value}{r r':Bool}(ho:o.op=.binOp .neq t x y yt)(hx:val s x=some (.agg cs))(hy:val s y=some (.agg ds))
  (q:∀ w:World,(Op.equalIn 10000 t (.agg cs) (.agg ds)).run X.P w=.ok r w) (hg:X.P.eqGuardType X.P.depth t=false:=by kernel_rfl) (hr:(!r)=r':=by first|(with_reducible assumption)|((try simp (disch:=omega) only [wrap_i64,wrap_u64,wrap_u8,wrap_u32,quo_nn,rem_nn,Int.reduceAdd,Int.reduceSub,Int.reduceMul,Int.reduceDiv,Int.reduceMod,Int.reduceLT,Int.reduceLE,Int.reduceBEq,Int.reduceBNe,Int.reduceToNat,Int.reduceNeg,Int.toNat_natCast,Nat.min_eq_left,Nat.min_eq_right,Nat.reduceMul,Nat.reduceAdd,Int.reducePow,Nat.reducePow,IntKind.bits,decide_true,decide_false,gt_iff_lt,ge_iff_le,Bool.not_true,Bool.not_false,Nat.mul_one,Nat.zero_add,Nat.zero_mul]);first|done|exact rfl)):RdV X s l o (.bool r'):=
 rd_val fun e w he hm=>by
  subst hr
  simp only [execOp,ho,he.eval hx,he.eval hy,eqGuard]
  simp [run_neq w rfl (q w),hg]
theorem rd_nilP {x:Operand}{p:Addr}(ho:o.op=.nilCheck x)(hx:val s x=some (.pointer (some p))):RdV X s l o (.pointer (some p)):=
 rd_val fun e w he hm=>by simp [execOp,ho,he.eval hx]
theorem rd_ixA {t n e k:Nat}{x ix:Operand}{b off:Nat}{ki:IntKind}{i:Int}{p:Nat}(ho:o.op=.indexAddr t x ix)(hx:val s x=some (.pointer (some ⟨b,off,none⟩)))(hi:val s ix=some (.int ki i))
  [ht:UT X.P t (.array n e)] [hs:SZ X.P e k] (h0:0≤i:=by first|(with_reducible assumption)|omega|decide) (h1:i<n:=by first|(with_reducible assumption)|omega|decide) (hp:off+i.toNat * k=p:=by first|(with_reducible assumption)|((try simp (disch:=omega) only [wrap_i64,wrap_u64,wrap_u8,wrap_u32,quo_nn,rem_nn,Int.reduceAdd,Int.reduceSub,Int.reduceMul,Int.reduceDiv,Int.reduceMod,Int.reduceLT,Int.reduceLE,Int.reduceBEq,Int.reduceBNe,Int.reduceToNat,Int.reduceNeg,Int.toNat_natCast,Nat.min_eq_left,Nat.min_eq_right,Nat.reduceMul,Nat.reduceAdd,Int.reducePow,Nat.reducePow,IntKind.bits,decide_true,decide_false,gt_iff_lt,ge_iff_le,Bool.not_true,Bool.not_false,Nat.mul_one,Nat.zero_add,Nat.zero_mul]);first|done|exact rfl)):RdV X s l o (.pointer (some ⟨b,p,none⟩)):=
 rd_val fun a w he hm=>by
  subst hp
  simp [execOp,ho,he.eval hx,he.eval hi,Instr.indexAt,asIntOf,Sem.run_bind,run_underlying ht.out,hs.run,h0,h1,Instr.sureAddr,Addr.add_mid]
theorem rd_ixS {t e k:Nat}{x ix:Operand}{b off len cap:Nat}{ki:IntKind}{i:Int}{p:Nat}(ho:o.op=.indexAddr t x ix)(hx:val s x=some (.slice (some ⟨b,off,none⟩) len cap))(hi:val s ix=some (.int ki i))
  [ht:UT X.P t (.slice e)] [hs:SZ X.P e k] (h0:0≤i:=by first|(with_reducible assumption)|omega|decide) (h1:i<len:=by first|(with_reducible assumption)|omega|decide) (hp:off+i.toNat * k=p:=by first|(with_reducible assumption)|((try simp (disch:=omega) only [wrap_i64,wrap_u64,wrap_u8,wrap_u32,quo_nn,rem_nn,Int.reduceAdd,Int.reduceSub,Int.reduceMul,Int.reduceDiv,Int.reduceMod,Int.reduceLT,Int.reduceLE,Int.reduceBEq,Int.reduceBNe,Int.reduceToNat,Int.reduceNeg,Int.toNat_natCast,Nat.min_eq_left,Nat.min_eq_right,Nat.reduceMul,Nat.reduceAdd,Int.reducePow,Nat.reducePow,IntKind.bits,decide_true,decide_false,gt_iff_lt,ge_iff_le,Bool.not_true,Bool.not_false,Nat.mul_one,Nat.zero_add,Nat.zero_mul]);first|done|exact rfl)):RdV X s l o (.pointer (some ⟨b,p,none⟩)):=
 rd_val fun a w he hm=>by
  subst hp
  simp [execOp,ho,he.eval hx,he.eval hi,Instr.indexAt,asIntOf,Sem.run_bind,run_underlying ht.out,hs.run,h0,h1,Instr.sureAddr,Addr.add_mid]
theorem rd_fdA {t f k ty fo:Nat}{x:Operand}{b off p:Nat}(ho:o.op=.fieldAddr t x f)(hx:val s x=some (.pointer (some ⟨b,off,none⟩)))
  [hf:FD X.P t f fo ty (k+1)] (hp:off+fo=p:=by first|(with_reducible assumption)|((try simp (disch:=omega) only [wrap_i64,wrap_u64,wrap_u8,wrap_u32,quo_nn,rem_nn,Int.reduceAdd,Int.reduceSub,Int.reduceMul,Int.reduceDiv,Int.reduceMod,Int.reduceLT,Int.reduceLE,Int.reduceBEq,Int.reduceBNe,Int.reduceToNat,Int.reduceNeg,Int.toNat_natCast,Nat.min_eq_left,Nat.min_eq_right,Nat.reduceMul,Nat.reduceAdd,Int.reducePow,Nat.reducePow,IntKind.bits,decide_true,decide_false,gt_iff_lt,ge_iff_le,Bool.not_true,Bool.not_false,Nat.mul_one,Nat.zero_add,Nat.zero_mul]);first|done|exact rfl)):RdV X s l o (.pointer (some ⟨b,p,none⟩)):=
 rd_val fun a w he hm=>by
  subst hp
  have h:=hf.out
  unfold fieldOf at h
  cases hu:X.P.underlying t with
  | none=>simp [hu] at h
  | some d=>
   cases d with
   | struct fs=>
    simp only [hu] at h
    cases hfd:fs[f]? with
    | none=>simp [hfd] at h
    | some fd=>
     simp only [hfd] at h
     cases hi:X.P.info? fd.type with
     | none=>simp [hi] at h
     | some i=>
      simp only [hi,Option.map_some,Option.some.injEq,Prod.mk.injEq] at h
      obtain ⟨rfl,rfl,hk⟩:=h
      have hs:(X.P.info? fd.type).map (·.size)=some (k+1):=by simp [hi,hk]
      simp [execOp,ho,he.eval hx,Instr.fieldAt,fieldPlace,Sem.run_bind,run_underlying hu,hfd,(SZ.mk hs).run,Instr.sureAddr,Addr.add_mid]
   | _=>simp [hu] at h
def Ld (X:Cx)(l:Blks)(t b off:Nat)(v:Value):Prop:=∀ w,Mem X l w→(loadVar t ⟨b,off,none⟩).run X.P w=.ok v w
theorem ld_cell {t b off:Nat}{c:Array Value}{e:Nat}[hu:KD X.P t false](hh:Has X l b (c,e):=by first|(with_reducible assumption)|(refine Has.inn ?_;repeat (first|exact Inn.here|refine Inn.there ?_)))(hv:c[off]? = some v:=by first|(with_reducible assumption)|((try simp only [List.getElem?_toArray,List.getElem?_cons_zero,List.getElem?_cons_succ]);first|done|exact rfl)):Ld X l t b off v:=fun w hm=>by
 have hc:w.cell? ⟨b,off,none⟩=some v:=by rw [cell_of_row w b off c e _ (hh w hm)];exact hv
 simp [loadVar,Sem.run_bind,hu.agg,run_load,hc]
theorem ld_row {t b off k:Nat}{c:Array Value}{cs:List Value}{e:Nat}[hu:KD X.P t true][hs:SZ X.P t k]
 (hh:Has X l b (c,e):=by first|(with_reducible assumption)|(refine Has.inn ?_;repeat (first|exact Inn.here|refine Inn.there ?_))) (hv:(c.toList.drop off).take k=cs:=by (try simp only [List.drop_zero,List.drop_succ_cons,List.take_succ_cons,List.take_zero]);first|done|exact rfl) (hk:cs.length=k:=by rfl):Ld X l t b off (.agg cs.toArray):=fun w hm=>
by
 have h:=hu.out
 cases hd:X.P.underlying t with
 | none=>simp [hd] at h
 | some d=>
  simp only [hd,Option.map_some,Option.some.injEq] at h
  exact run_loadVar_mid w b off t cs d (fun j v hj=>by
   rw [cell_of_row w b (off+j) c e _ (hh w hm)]
   subst hv
   have hlt:j<k:=by
    have:=(List.getElem?_eq_some_iff.1 hj).1
    omega
   rw [List.getElem?_take_of_lt hlt,List.getElem?_drop] at hj
   simpa using hj) hd h (by rw [hs.out,hk])
class One (v:Value):Prop where
 out:v.oneCell'=true
instance {k:IntKind}{z:Int}:One (.int k z):=⟨rfl⟩
instance {p:Option Addr}{n m:Nat}:One (.slice p n m):=⟨rfl⟩
class Cells (c:Array Value)(k:outParam Nat):Prop where
 size:c.size=k
 one:c.all (·.oneCell')=true
theorem ld_whole {t b k:Nat}{c:Array Value}{e:Nat}[hu:KD X.P t true][hs:SZ X.P t k](hh:Has X l b (c,e):=by first|(with_reducible assumption)|(refine Has.inn ?_;repeat (first|exact Inn.here|refine Inn.there ?_)))(hk:c.size=k:=by first|exact Cells.size|rfl):Ld X l t b 0 (.agg c):=fun w hm=>by
 have h:=ld_row (X:=X) (l:=l) (t:=t) (b:=b) (off:=0) (k:=k) (cs:=c.toList) hh (by rw [List.drop_zero];exact List.take_of_length_le (by rw [Array.length_toList,hk];exact Nat.le_refl _)) (by rw [Array.length_toList,hk]) w hm
 simpa using h
theorem rd_load {t:Nat}{x:Operand}{b off:Nat}(ho:o.op=.load t x)(hx:val s x=some (.pointer (some ⟨b,off,none⟩)))(h:Ld X l t b off v):RdV X s l o v:=
 rd_val fun a w he hm=>by simp [execOp,ho,he.eval hx,Instr.loadAt,Instr.sureAddr,Sem.run_bind,h w hm]
theorem rd_index {t n e k:Nat}{x ix:Operand}{cs:Array Value}{ki:IntKind}{i:Int}(ho:o.op=.index t x ix)(hx:val s x=some (.agg cs))(hi:val s ix=some (.int ki i))
  [ht:UT X.P t (.array n e)] [hs:SZ X.P e 1] [he:KD X.P e false] (h0:0≤i:=by first|(with_reducible assumption)|omega|decide) (h1:i<n:=by first|(with_reducible assumption)|omega|decide) (hv:cs[i.toNat]? = some v:=by first|(with_reducible assumption)|((try simp only [List.getElem?_toArray,List.getElem?_cons_zero,List.getElem?_cons_succ]);first|done|exact rfl)):RdV X s l o v:=
 rd_val fun a w hev hm=>by
  simp [execOp,ho,hev.eval hx,hev.eval hi,Instr.index,asIntOf,Sem.run_bind,run_underlying ht.out,hs.run,h0,h1,part,he.agg,hv]
theorem rd_field {t f fo ty k:Nat}{x:Operand}{cs:Array Value}(ho:o.op=.field t x f)(hx:val s x=some (.agg cs))[hf:FD X.P t f fo ty k]
  (hp:∀ w:World,(part ty cs fo).run X.P w=.ok v w):RdV X s l o v:=
 rd_val fun a w hev hm=>by
  have h:=hf.out
  unfold fieldOf at h
  cases hu:X.P.underlying t with
  | none=>simp [hu] at h
  | some d=>
   cases d with
   | struct fs=>
    simp only [hu] at h
    cases hfd:fs[f]? with
    | none=>simp [hfd] at h
    | some fd=>
     simp only [hfd] at h
     cases hi:X.P.info? fd.type with
     | none=>simp [hi] at h
     | some i=>
      simp only [hi,Option.map_some,Option.some.injEq,Prod.mk.injEq] at h
      obtain ⟨rfl,rfl,hk⟩:=h
      simp [execOp,ho,hev.eval hx,Instr.field,asAgg,Sem.run_bind,run_underlying hu,hfd,hp]
   | _=>simp [hu] at h
theorem part_cell {P:Program}{t off:Nat}{cs:Array Value}[h:KD P t false](hv:cs[off]? = some v)(w:World):(part t cs off).run P w=.ok v w:=by
 simp [part,Sem.run_bind,h.agg,hv]
theorem part_row {P:Program}{t off k:Nat}{cs:Array Value}{cs':List Value}[h:KD P t true][hs:SZ P t k](hv:(cs.toList.drop off).take k=cs')(w:World):(part t cs off).run P w=.ok (.agg cs'.toArray) w:=by
 subst hv
 simp only [part,Sem.run_bind,h.agg,Result.andThen_ok,if_true,hs.run,Sem.run_pure]
 congr 2
 apply Array.ext'
 simp [Array.toList_extract,List.extract]
def valsP (s:Slots):List (Nat×Operand)→Option (List (Nat×Value))
 | []=>some []
 | (i,x)::r=>match val s x,valsP s r with
  | some v,some vs=>some ((i,v)::vs)
  | _,_=>none
theorem Env.valsP {N:Nat}{s:Slots}{a:Act}(h:Env N s a):∀ {l:List (Nat×Operand)} {vs:List (Nat×Value)},Proofs.YtkendlnjaopbeaaGreatDoor.valsP s l=some vs→l.map (fun p=>(p.1,a.eval p.2))=vs
 | [],vs,hv=>by cases hv;rfl
 | (i,x)::r,vs,hv=>by
  unfold Proofs.YtkendlnjaopbeaaGreatDoor.valsP at hv
  cases h1:val s x with
  | none=>simp [h1] at hv
  | some v=>
   cases h2:Proofs.YtkendlnjaopbeaaGreatDoor.valsP s r with
   | none=>simp [h1,h2] at hv
   | some us=>
    simp only [h1,h2,Option.some.injEq] at hv
    subst hv
    simp [h.eval h1,h.valsP h2]
def putR (c:List Value)(off:Nat)(cs:List Value):List Value:=c.take off++cs++c.drop (off+cs.length)
def fillC (place:Nat→Option (Nat×Nat)):List Value→List (Nat×Value)→Option (List Value)
 | z,[]=>some z
 | z,(i,v)::r=>match place i with
  | none=>none
  | some (off,size)=>bif v.cells.size == size && Nat.ble (off+size) z.length then fillC place (putR z off v.cells.toList) r else none
theorem foldl_put (cs:List Value):∀ (k off:Nat) (z:Array Value),off+k+cs.length≤z.size→
  (cs.zipIdx k).foldl (fun z (p:Value×Nat)=>z.setIfInBounds (off+p.2) p.1) z=(putR z.toList (off+k) cs).toArray:=by
 induction cs with
 | nil=>intro k off z h;simp [putR]
 | cons v r ih=>
  intro k off z h
  simp only [List.length_cons] at h
  simp only [List.zipIdx_cons,List.foldl_cons]
  rw [ih (k+1) off _ (by simp;omega)]
  unfold putR
  simp only [Array.toList_setIfInBounds,List.length_cons]
  have hlt:off+k<z.toList.length:=by simp;omega
  congr 1
  apply List.ext_getElem?
  intro i
  simp only [List.append_assoc,List.getElem?_append,List.length_take,List.length_set,List.getElem?_take,List.getElem?_drop,List.getElem?_set]
  rw [show off+(k+1)=off+k+1 by omega]
  generalize off+k=q at *
  have e1:min (q+1) z.toList.length=q+1:=by omega
  have e2:min q z.toList.length=q:=by omega
  rw [e1,e2]
  rcases Nat.lt_trichotomy i q with hi|hi|hi
  ·simp [hi,Nat.lt_succ_of_lt hi,Nat.ne_of_gt hi]
  ·subst hi;simp at hlt;simp [hlt]
  ·have hn:¬i<q+1:=by omega
   have hn':¬i<q:=by omega
   simp only [hn,hn',if_false]
   rw [show (v::r).length=r.length+1 from rfl]
   obtain ⟨d,rfl⟩:∃ d,i=q+1+d:=⟨i - (q+1),by omega⟩
   rw [show q+1+d - (q+1)=d by omega,show q+1+d - q=d+1 by omega]
   by_cases hd:d<r.length
   ·simp [hd]
   ·simp only [hd,if_false,List.getElem?_cons_succ,List.length_cons]
    have:¬d+1<r.length+1:=by omega
    simp only [this,if_false]
    have hne:¬q=q+1+r.length+(d - r.length):=by omega
    simp only [hne,if_false]
    congr 1
    omega
theorem fill_of {place:Nat→Option (Nat×Nat)}:∀ {ps:List (Nat×Value)} {z c:List Value},fillC place z ps=some c→Instr.fill place z.toArray ps=some c.toArray
 | [],z,c,h=>by cases h;rfl
 | (i,v)::r,z,c,h=>by
  unfold fillC at h
  unfold Instr.fill
  cases hp:place i with
  | none=>simp [hp] at h
  | some q=>
   obtain ⟨off,size⟩:=q
   simp only [hp] at h
   by_cases hc:(v.cells.size == size && Nat.ble (off+size) z.length)=true
   ·rw [hc] at h
    simp only [cond_true] at h
    simp only [Bool.and_eq_true,beq_iff_eq] at hc
    have hle:off+size≤z.length:=Nat.le_of_ble_eq_true hc.2
    have h1:¬(v.cells.size≠size∨off+v.cells.size>z.toArray.size):=by
     simp only [List.size_toArray];omega
    have h2:(decide (v.cells.size≠size) || decide (off+v.cells.size>z.toArray.size))=false:=by
     simp only [List.size_toArray,Bool.or_eq_false_iff,decide_eq_false_iff_not];omega
    simp only [hp]
    rw [if_neg (by rw [h2];exact Bool.false_ne_true)]
    have e:=foldl_put v.cells.toList 0 off z.toArray (by simp;omega)
    have e2:(v.cells.zipIdx.foldl (fun cs (p:Value×Nat)=>cs.setIfInBounds (off+p.2) p.1) z.toArray)=(putR z off v.cells.toList).toArray:=by
     rw [←Array.foldl_toList,Array.toList_zipIdx]
     simpa using e
    show Instr.fill place (v.cells.zipIdx.foldl (fun cs (p:Value×Nat)=>cs.setIfInBounds (off+p.2) p.1) z.toArray) r=_
    rw [e2]
    exact fill_of h
   ·have:(v.cells.size == size && Nat.ble (off+size) z.length)=false:=eq_false_of_ne_true hc
    rw [this] at h
    cases h
theorem rd_buildA {t n e k:Nat}{ps:Array (Nat×Operand)}{vs:List (Nat×Value)}{z:Array Value}{c:List Value}(ho:o.op=.build t ps)(hx:valsP s ps.toList=some vs)
  [ht:UT X.P t (.array n e)] [hs:SZ X.P e k] [hz:ZR X.P t (.agg z)] (hc:fillC (fun i=>some (i * k,k)) z.toList vs=some c:=by (try simp only [fillC,putR,List.length_cons,List.length_nil,Value.cells,List.size_toArray,Nat.reduceAdd,Nat.reduceMul,Nat.reduceBEq,Nat.mul_one,Nat.zero_mul,Nat.zero_add,Nat.ble,Nat.reduceLeDiff,beq_self_eq_true,Bool.and_true,Bool.true_and,cond_true,List.take_succ_cons,List.take_zero,List.drop_succ_cons,List.drop_zero,List.cons_append,List.nil_append,List.append_nil,List.getElem?_cons_zero,List.getElem?_cons_succ]);first|done|exact rfl):RdV X s l o (.agg c.toArray):=
 rd_val fun a w hev hm=>by
  have h2:(ps.map fun (i,x)=>(i,a.eval x)).toList=vs:=by rw [Array.toList_map];exact hev.valsP hx
  have h3:=fill_of hc
  rw [Array.toArray_toList] at h3
  simp only [execOp,ho]
  simp only [Instr.build,Sem.run_bind,hz.run,Result.andThen_ok,run_underlying ht.out,hs.run,h2,Value.cells]
  rw [h3]
  simp
theorem run_places {P:Program}{fs:List Field}(h:fs.all (fun f=>(P.info? f.type).isSome)=true)(w:World) :
  (fs.mapM fun f=>do pure (f.offset,←sizeOf f.type):Sem (List (Nat×Nat))).run P w=.ok (fs.map fun f=>(f.offset,P.cellsOf f.type)) w:=by
 induction fs with
 | nil=>simp
 | cons f r ih=>
  simp only [List.all_cons,Bool.and_eq_true] at h
  obtain ⟨i,hi⟩:=Option.isSome_iff_exists.1 h.1
  have h1:(sizeOf f.type).run P w=.ok (P.cellsOf f.type) w:=by simp [sizeOf,typeInfo,hi,Program.cellsOf]
  rw [List.mapM_cons]
  simp only [Sem.run_bind,h1,Result.andThen_ok,Sem.run_pure,ih h.2,List.map_cons]
theorem rd_buildS {t:Nat}{ps:Array (Nat×Operand)}{vs:List (Nat×Value)}{pl:List (Nat×Nat)}{z:Array Value}{c:List Value}(ho:o.op=.build t ps)(hx:valsP s ps.toList=some vs)
  [ht:SP X.P t pl] [hz:ZR X.P t (.agg z)] (hc:fillC (fun i=>pl[i]?) z.toList vs=some c:=by (try simp only [fillC,putR,List.length_cons,List.length_nil,Value.cells,List.size_toArray,Nat.reduceAdd,Nat.reduceMul,Nat.reduceBEq,Nat.mul_one,Nat.zero_mul,Nat.zero_add,Nat.ble,Nat.reduceLeDiff,beq_self_eq_true,Bool.and_true,Bool.true_and,cond_true,List.take_succ_cons,List.take_zero,List.drop_succ_cons,List.drop_zero,List.cons_append,List.nil_append,List.append_nil,List.getElem?_cons_zero,List.getElem?_cons_succ]);first|done|exact rfl):RdV X s l o (.agg c.toArray):=
 rd_val fun a w hev hm=>by
  have h:=ht.out
  unfold placesOf at h
  cases hu:X.P.underlying t with
  | none=>simp [hu] at h
  | some d=>
   cases d with
   | struct fs=>
    simp only [hu] at h
    by_cases hfs:fs.toList.all (fun f=>(X.P.info? f.type).isSome)=true
    ·rw [hfs] at h
     simp only [cond_true,Option.some.injEq] at h
     subst h
     have h2:(ps.map fun (i,x)=>(i,a.eval x)).toList=vs:=by rw [Array.toList_map];exact hev.valsP hx
     have h3:=fill_of hc
     rw [Array.toArray_toList] at h3
     have h4:(fs.mapM fun f=>do pure (f.offset,←sizeOf f.type):Sem (Array (Nat×Nat))).run X.P w=.ok (fs.toList.map fun f=>(f.offset,X.P.cellsOf f.type)).toArray w:=by
      rw [Array.mapM_eq_mapM_toList]
      show (Bind.bind (List.mapM (fun f=>do pure (f.offset,←sizeOf f.type)) fs.toList) fun l=>pure l.toArray:Sem (Array (Nat×Nat))).run X.P w=_
      rw [Sem.run_bind,run_places hfs]
      simp
     simp only [execOp,ho]
     simp only [Instr.build,Sem.run_bind,hz.run,Result.andThen_ok,run_underlying hu,h4,h2,Value.cells]
     simp only [List.getElem?_toArray,h3]
     simp
    ·rw [eq_false_of_ne_true hfs] at h
     cases h
   | _=>simp [hu] at h
theorem rd_lenS {c:Call}{x:Operand}{p:Option Addr}{len cap t e:Nat}(ho:o.op=.call c)(hc:c.callee=.builtin .len)(ha:c.args=#[x])(ht:c.argTypes=#[t])(hx:val s x=some (.slice p len cap))[hu:UT X.P t (.slice e)]:RdV X s l o (.int .i64 len):=
 rd_val fun a w he hm=>by
  simp only [execOp,ho,resolve,hc,ha,List.map_toArray,List.map_cons,List.map_nil,he.eval hx]
  simp [invoke,builtin,Builtin.len_,ht,Sem.run_bind,run_underlying hu.out]
  rfl
def callOk (P:Program)(f:Nat):Bool:=match P.funcs[f]? with
 | some fn=>!(fn.name == "runtime.NumGoroutine") && fn.body.isSome
 | none=>false
theorem run_enter {P:Program}{f:Nat}(h:callOk P f=true)(args:Array Value)(w:World):(callFunc f args).run P w=.ok (.enter f args) w:=by
 unfold callOk at h
 cases hf:P.funcs[f]? with
 | none=>simp [hf] at h
 | some fn=>
  simp only [hf,Bool.and_eq_true,Bool.not_eq_true',beq_eq_false_iff_ne] at h
  obtain ⟨c,hc⟩:=Option.isSome_iff_exists.1 h.2
  have h1:fn.name≠ "runtime.NumGoroutine":=by simpa using h.1
  simp [callFunc,hf,h1,hc]
theorem run_op_call {c:Call}{f:Nat}{vs:List Value}{a:Act}{w:World}(ho:o.op=.call c)(hc:c.callee=.value (.func f))(he:Env X.N s a)(ha:vals s c.args.toList=some vs) :
  (execOp a.eval o).run X.P w=(callFunc f vs.toArray).run X.P w:=by
 have h:=he.vals ha
 have h2:c.args.map a.eval=vs.toArray:=by rw [←h];simp [←Array.toList_map]
 simp only [execOp,ho,resolve,hc,h2,Act.eval,Deferred.ofValue]
 simp [invoke]
theorem rd_call {c:Call}{f:Nat}{vs:List Value}(ho:o.op=.call c)(hc:c.callee=.value (.func f))(ha:vals s c.args.toList=some vs)
  (h:∀ w,Mem X l w→Calls X.P f vs.toArray w (Ret v w)) (hk:callOk X.P f=true:=by kernel_rfl):Rd X s l o v:=fun a w he hm=>by
 rw [run_op_call ho hc he ha,run_enter hk]
 exact ⟨rfl,h w hm⟩
theorem rd_ext {c:Call}{f:Nat}{vs:List Value}(ho:o.op=.call c)(hc:c.callee=.value (.func f))(ha:vals s c.args.toList=some vs)
  (h:∀ w:World,(callFunc f vs.toArray).run X.P w=.ok (.value v) w):RdV X s l o v:=rd_val fun a w he hm=>by
 rw [run_op_call ho hc he ha,h]
end
def Wl (X:Cx)(ops:Array Oper)(Q:Post)(r:List Oper)(s:Slots)(l:Blks):Prop:=∀ a w,St X s l a w→wpList X.P ops (lift X Q) r a w
section
variable {X:Cx}{s:Slots}{l:Blks}{o:Oper}{v:Value}{Q:Post}{ops:Array Oper}{r:List Oper}
theorem wc_region {id:Nat}{l0:List Oper}(h:Wl X l0.toArray Q l0 s l):Wc X (.region id l0.toArray false) Q s l:=fun a w hs=>wp_region_lit (h a w hs)
theorem wl_nil (h:Q .normal s l):Wl X ops Q [] s l:=fun a w hs=>⟨s,l,hs,h⟩
theorem wl_skip {s':Slots}(hg:gd s ops o=some false)(hd:dOk X.N o.dst=true)(h:Wl X ops Q r s' l)(hs':sputO s o.dst undef=s':=by (try dsimp only [sputO,sput,Nat.reduceBEq,cond_true,cond_false,beq_self_eq_true]);first|done|exact rfl):Wl X ops Q (o::r) s l:=fun a w hs=>by
 subst hs'
 have:=gd_wanted hs.env hg
 unfold wpList
 rw [if_neg (by rw [this];exact Bool.false_ne_true)]
 exact h _ w ⟨hs.env.put hd _,hs.mem⟩
theorem wl_rd {s':Slots}(hg:gd s ops o=some true)(hd:dOk X.N o.dst=true)(hr:Rd X s l o v)(h:Wl X ops Q r s' l)(hs':sputO s o.dst v=s':=by (try dsimp only [sputO,sput,Nat.reduceBEq,cond_true,cond_false,beq_self_eq_true]);first|done|exact rfl):Wl X ops Q (o::r) s l:=fun a w hs=>by
 subst hs'
 have hw:=gd_wanted hs.env hg
 unfold wpList
 rw [if_pos hw]
 have h3:=hr a w hs.env hs.mem
 refine .inl ?_
 unfold Oper.wp
 generalize (execOp a.eval o).run X.P w=res at *
 cases res with
 | ok n w'=>
  cases n <;> simp only [mildUpon] at h3
  case value u=>
   obtain ⟨rfl,rfl⟩:=h3
   exact h _ _ ⟨hs.env.put hd _,hs.mem⟩
  case enter f args=>
   obtain ⟨rfl,hcall⟩:=h3
   exact hcall.mono fun e w'' ⟨he,hbel⟩=>by
    subst he
    exact h _ _ ⟨hs.env.put hd _,hs.mem.grow hbel⟩
 | halt x w'=>simp only [mildUpon] at h3
theorem wv {s':Slots}(hg:gd s ops o=some true)(hd:dOk X.N o.dst=true)(hr:RdV X s l o v)(h:Wl X ops Q r s' l)(hs':sputO s o.dst v=s':=by (try dsimp only [sputO,sput,Nat.reduceBEq,cond_true,cond_false,beq_self_eq_true]);first|done|exact rfl):Wl X ops Q (o::r) s l:=wl_rd hg hd (RdV.rd hr) h hs'
def Mk (X:Cx)(s:Slots)(o:Oper)(c:Array Value)(t:Nat)(mk:Nat→Value):Prop:=∀ a w,Env X.N s a→(execOp a.eval o).run X.P w=.ok (.value (mk w.heap.size)) (w.alloc (.cells c t))
abbrev ptr (n:Nat):Value:=.pointer (some ⟨n,0,none⟩)
theorem wl_new {c:Array Value}{t:Nat}{mk:Nat→Value}{s':Nat→Slots}(hg:gd s ops o=some true)(hd:dOk X.N o.dst=true)(hm:Mk X s o c t mk)
  (h:∀ n,X.W.heap.size≤n→Wl X ops Q r (s' n) ((n,(c,t))::l)) (hs':∀ n,sputO s o.dst (mk n)=s' n:=by intro _;(try dsimp only [sputO,sput,Nat.reduceBEq,cond_true,cond_false,beq_self_eq_true]);first|done|exact rfl) (hb:Nat.blt t BIG=true:=by first|rfl|assumption):Wl X ops Q (o::r) s l:=fun a w hs=>by
 obtain rfl:(fun n=>sputO s o.dst (mk n))=s':=funext hs'
 have hw:=gd_wanted hs.env hg
 unfold wpList
 rw [if_pos hw]
 refine .inl ?_
 unfold Oper.wp
 rw [hm a w hs.env]
 exact h w.heap.size hs.mem.cls.size _ _ ⟨hs.env.put hd _,hs.mem.new c t⟩
theorem mk_alloc {t:Nat}{z:Value}{c:Array Value}(ho:o.op=.alloc t)[hz:ZR X.P t z](hc:z.cells=c:=by (try dsimp only [Value.cells]);first|done|exact rfl):Mk X s o c t ptr:=fun a w he=>by
 subst hc
 simp [execOp,ho,Instr.alloc,Sem.run_bind,hz.run,newVar,newRow,go_sem]
theorem mk_box {t:Nat}{x:Operand}{c:Array Value}(ho:o.op=.box t x)(hx:val s x=some v)(hc:v.cells=c:=by (try dsimp only [Value.cells]);first|done|exact rfl):Mk X s o c t ptr:=fun a w he=>by
 subst hc
 simp only [execOp,ho,Instr.box,he.eval hx,newVar,newRow]
 simp [go_sem]
def putC (c:Array Value)(off:Nat)(v:Value):Array Value:=c.setIfInBounds off v
theorem setRow_self {w:World}{b:Nat}{c:Array Value}{t:Nat}(hg:w.heap[b]? = some (.cells c t)):w.setRow b c=w:=by
 unfold World.setRow
 have hlt:=blk_lt hg
 have hv:w.heap[b]=.cells c t:=(Array.getElem?_eq_some_iff.1 hg).2
 have:∀ f:Obj→Obj,f (.cells c t)=.cells c t→w.heap.modify b f=w.heap:=fun f hf=>by
  apply Array.ext (by simp)
  intro i h1 h2
  rw [Array.getElem_modify]
  split
  ·rename_i he;subst he;rw [hv,hf]
  ·rfl
 rw [this _ rfl]
theorem setRow_setRow {w:World}{b:Nat}{c c1 c2:Array Value}{t:Nat}(hg:w.heap[b]? = some (.cells c t)):(w.setRow b c1).setRow b c2=w.setRow b c2:=by
 have hv:w.heap[b]'(blk_lt hg)=.cells c t:=(Array.getElem?_eq_some_iff.1 hg).2
 have key:∀ f g:Obj→Obj,g (f (.cells c t))=g (.cells c t)→(w.heap.modify b f).modify b g=w.heap.modify b g:=fun f g hf=>by
  apply Array.ext (by simp)
  intro i h1 h2
  simp only [Array.getElem_modify]
  split
  ·rename_i he;subst he;rw [hv,hf]
  ·rfl
 unfold World.setRow
 rw [key _ _ rfl]
theorem setCells_row (b:Nat)(t:Nat):∀ (cs:List Value) (off:Nat) (c:Array Value) (w:World),w.heap[b]? = some (.cells c t)→off+cs.length≤c.size→
  w.setCells b off cs=w.setRow b (putR c.toList off cs).toArray
 | [],off,c,w,hg,hl=>by
  have:(putR c.toList off []).toArray=c:=by simp [putR]
  rw [this]
  exact (setRow_self hg).symm
 | v::r,off,c,w,hg,hl=>by
  simp only [List.length_cons] at hl
  have h1:=heap_setCell_same w b off c t v hg
  show (w.setCell ⟨b,off,none⟩ v).setCells b (off+1) r=_
  rw [setCells_row b t r (off+1) (c.setIfInBounds off v) _ h1 (by simp;omega),setCell_eq_setRow w b off c t _ v hg]
  have:(putR (c.setIfInBounds off v).toList (off+1) r)=putR c.toList off (v::r):=by
   unfold putR
   simp only [Array.toList_setIfInBounds,List.length_cons]
   have hlt:off<c.toList.length:=by simp;omega
   apply List.ext_getElem?
   intro i
   simp only [List.append_assoc,List.getElem?_append,List.length_take,List.length_set,List.getElem?_take,List.getElem?_drop,List.getElem?_set]
   have e1:min (off+1) c.toList.length=off+1:=by omega
   have e2:min off c.toList.length=off:=by omega
   rw [e1,e2]
   rcases Nat.lt_trichotomy i off with hi|hi|hi
   ·simp [hi,Nat.lt_succ_of_lt hi,Nat.ne_of_gt hi]
   ·subst hi;simp at hlt;simp [hlt]
   ·have hn:¬i<off+1:=by omega
    have hn':¬i<off:=by omega
    simp only [hn,hn',if_false]
    rw [show (v::r).length=r.length+1 from rfl]
    obtain ⟨d,rfl⟩:∃ d,i=off+1+d:=⟨i - (off+1),by omega⟩
    rw [show off+1+d - (off+1)=d by omega,show off+1+d - off=d+1 by omega]
    by_cases hd:d<r.length
    ·simp [hd]
    ·simp only [hd,if_false,List.getElem?_cons_succ,List.length_cons]
     have:¬d+1<r.length+1:=by omega
     simp only [this,if_false]
     have hne:¬off=off+1+r.length+(d - r.length):=by omega
     simp only [hne,if_false]
     congr 1
     omega
  rw [this]
  exact setRow_setRow hg
class PutC (c:Array Value)(off:Nat)(v:Value)(c':outParam (Array Value)):Prop where
 out:putC c off v=c'
def Sv (X:Cx)(s:Slots)(l:Blks)(o:Oper)(l':Blks):Prop:=∀ a w,Env X.N s a→Mem X l w→∃ w',(execOp a.eval o).run X.P w=.ok .skip w'∧Mem X l' w'
theorem wl_store {l':Blks}{s':Slots}(hg:gd s ops o=some true)(hd:dOk X.N o.dst=true)(hv:Sv X s l o l')(h:Wl X ops Q r s' l')(hs':sputO s o.dst undef=s':=by (try dsimp only [sputO,sput,Nat.reduceBEq,cond_true,cond_false,beq_self_eq_true]);first|done|exact rfl):Wl X ops Q (o::r) s l:=fun a w hs=>by
 subst hs'
 have hw:=gd_wanted hs.env hg
 unfold wpList
 rw [if_pos hw]
 refine .inl ?_
 unfold Oper.wp
 obtain ⟨w',h1,h2⟩:=hv a w hs.env hs.mem
 rw [h1]
 exact h _ _ ⟨hs.env.put hd _,h2⟩
theorem sv_cell {t:Nat}{x y:Operand}{b off:Nat}{c c':Array Value}{e:Nat}{l':Blks}(ho:o.op=.store t x y)(hx:val s x=some (.pointer (some ⟨b,off,none⟩)))(hy:val s y=some v)
  (h1:v.oneCell'=true) [hs:SZ X.P t 1] (ha:At l b (c,e) (c',e) l':=by repeat (first|exact At.here|apply At.there)) (hc:putC c off v=c':=by first|(with_reducible assumption)|exact PutC.out|(dsimp only [putC,List.setIfInBounds_toArray,List.set_cons_zero,List.set_cons_succ];done)|rfl|(simp only [putC,List.setIfInBounds_toArray,List.set_cons_zero,List.set_cons_succ];rfl)) (hlt:off<c.size:=by simp only [Cells.size,List.size_toArray,List.length_cons,List.length_nil,Nat.reduceAdd];first|done|omega) (hb:Nat.blt e BIG=true:=by first|rfl|assumption):Sv X s l o l':=fun a w he hm=>by
 subst hc
 refine ⟨w.setRow b (putC c off v),?_,hm.upd ha⟩
 have hg:=(Has.at ha) w hm
 have:=store_run (P:=X.P) (ty:=t) (off:=off) (v:=v) (w:=w) (.inr ⟨h1,hs.out,hlt⟩) hg
 have e:splice c off v=putC c off v:=by cases v <;> simp_all [Value.oneCell',splice,putC]
 rw [e] at this
 simp only [execOp,ho,he.eval hx,he.eval hy,Instr.storeAt,Instr.sureAddr,Sem.run_bind,Sem.run_pure,Result.andThen_ok,this]
theorem sv_row {t k:Nat}{x y:Operand}{b off:Nat}{c:Array Value}{cs c':List Value}{e:Nat}{l':Blks}(ho:o.op=.store t x y)(hx:val s x=some (.pointer (some ⟨b,off,none⟩)))(hy:val s y=some (.agg cs.toArray))
  [hs:SZ X.P t k] (h1:cs.all (·.oneCell')=true) (hk:cs.length=k:=by rfl) (ha:At l b (c,e) (c'.toArray,e) l':=by repeat (first|exact At.here|apply At.there)) (hc:putR c.toList off cs=c':=by (try simp only [fillC,putR,List.length_cons,List.length_nil,Value.cells,List.size_toArray,Nat.reduceAdd,Nat.reduceMul,Nat.reduceBEq,Nat.mul_one,Nat.zero_mul,Nat.zero_add,Nat.ble,Nat.reduceLeDiff,beq_self_eq_true,Bool.and_true,Bool.true_and,cond_true,List.take_succ_cons,List.take_zero,List.drop_succ_cons,List.drop_zero,List.cons_append,List.nil_append,List.append_nil,List.getElem?_cons_zero,List.getElem?_cons_succ]);first|done|exact rfl) (hlt:off+cs.length≤c.size:=by simp only [Cells.size,List.size_toArray,List.length_cons,List.length_nil,Nat.reduceAdd];first|done|omega) (hb:Nat.blt e BIG=true:=by first|rfl|assumption):Sv X s l o l':=fun a w he hm=>by
 subst hc
 have hg:=(Has.at ha) w hm
 refine ⟨w.setRow b (putR c.toList off cs).toArray,?_,hm.upd ha⟩
 have:=run_storeAt_mid (P:=X.P) w b off t cs.toArray (fun j hj=>by
  constructor
  ·rw [cell_of_row w b (off+j) c e _ hg]
   have:off+j<c.size:=by simp at hj;omega
   simp [this]
  ·exact frozen_of_row w b (off+j) c e hg) (by rw [hs.out];simp [hk]) (by simpa using h1)
 rw [setCells_row b e _ off c w hg hlt] at this
 simp only [execOp,ho,he.eval hx,he.eval hy,Sem.run_bind,this,Result.andThen_ok,Sem.run_pure]
theorem sv_whole {t k:Nat}{x y:Operand}{b:Nat}{c cs:Array Value}{e:Nat}{l':Blks}(ho:o.op=.store t x y)(hx:val s x=some (.pointer (some ⟨b,0,none⟩)))(hy:val s y=some (.agg cs))
  [hs:SZ X.P t k] (hk:cs.size=k:=by first|exact Cells.size|rfl) (h1:cs.all (·.oneCell')=true:=by first|exact Cells.one|rfl|(simp only [List.all_toArray,List.all_cons,List.all_nil,One.out,Bool.and_true];done)|(rw [List.setIfInBounds_toArray];simp [Value.oneCell'];done)|(simp [Value.oneCell'];done)) (ha:At l b (c,e) (cs,e) l':=by repeat (first|exact At.here|apply At.there)) (hlt:c.size=cs.size:=by first|rfl|(simp only [Cells.size];first|done|rfl)) (hb:Nat.blt e BIG=true:=by first|rfl|assumption):Sv X s l o l':=fun a w he hm=>by
 have hg:=(Has.at ha) w hm
 refine ⟨w.setRow b cs,?_,hm.upd ha⟩
 have:=store_run (P:=X.P) (ty:=t) (off:=0) (v:=.agg cs) (w:=w) (.inl ⟨cs,rfl,rfl,by rw [hs.out,hk],hlt,h1⟩) hg
 simp only [execOp,ho,he.eval hx,he.eval hy,Instr.storeAt,Instr.sureAddr,Sem.run_bind,Sem.run_pure,Result.andThen_ok,this,splice]
end
section
variable {X:Cx}{s:Slots}{l:Blks}{Q:Post}{ops:Array Oper}{r:List Oper}{d:Option Tmp}{ty:TypeId}{p:String}{af:Array Edge}{g:Option (Nat×Bool)}
theorem sel_move {x:Operand}(h:Wl X ops Q (⟨d,.move x,ty,p,af,g⟩::r) s l):Wl X ops Q (⟨d,.move x,ty,p,af,g⟩::r) s l:=h
theorem sel_assign {x:Operand}(h:Wl X ops Q (⟨d,.assign x,ty,p,af,g⟩::r) s l):Wl X ops Q (⟨d,.assign x,ty,p,af,g⟩::r) s l:=h
theorem sel_pick {x y z:Operand}(h:Wl X ops Q (⟨d,.pick x y z,ty,p,af,g⟩::r) s l):Wl X ops Q (⟨d,.pick x y z,ty,p,af,g⟩::r) s l:=h
theorem sel_alloc {t:Nat}(h:Wl X ops Q (⟨d,.alloc t,ty,p,af,g⟩::r) s l):Wl X ops Q (⟨d,.alloc t,ty,p,af,g⟩::r) s l:=h
theorem sel_box {t:Nat}{x:Operand}(h:Wl X ops Q (⟨d,.box t x,ty,p,af,g⟩::r) s l):Wl X ops Q (⟨d,.box t x,ty,p,af,g⟩::r) s l:=h
theorem sel_build {t:Nat}{ps:Array (Nat×Operand)}(h:Wl X ops Q (⟨d,.build t ps,ty,p,af,g⟩::r) s l):Wl X ops Q (⟨d,.build t ps,ty,p,af,g⟩::r) s l:=h
theorem sel_bslice {t n:Nat}{ps:Array (Nat×Operand)}(h:Wl X ops Q (⟨d,.buildSlice t n ps,ty,p,af,g⟩::r) s l):Wl X ops Q (⟨d,.buildSlice t n ps,ty,p,af,g⟩::r) s l:=h
theorem sel_load {t:Nat}{x:Operand}(h:Wl X ops Q (⟨d,.load t x,ty,p,af,g⟩::r) s l):Wl X ops Q (⟨d,.load t x,ty,p,af,g⟩::r) s l:=h
theorem sel_store {t:Nat}{x y:Operand}(h:Wl X ops Q (⟨d,.store t x y,ty,p,af,g⟩::r) s l):Wl X ops Q (⟨d,.store t x y,ty,p,af,g⟩::r) s l:=h
theorem sel_nilc {x:Operand}(h:Wl X ops Q (⟨d,.nilCheck x,ty,p,af,g⟩::r) s l):Wl X ops Q (⟨d,.nilCheck x,ty,p,af,g⟩::r) s l:=h
theorem sel_unop {o:UnOp}{t:Nat}{x:Operand}(h:Wl X ops Q (⟨d,.unOp o t x,ty,p,af,g⟩::r) s l):Wl X ops Q (⟨d,.unOp o t x,ty,p,af,g⟩::r) s l:=h
theorem sel_conv {a b:Nat}{x:Operand}(h:Wl X ops Q (⟨d,.convert a b x,ty,p,af,g⟩::r) s l):Wl X ops Q (⟨d,.convert a b x,ty,p,af,g⟩::r) s l:=h
theorem sel_fieldA {t f:Nat}{x:Operand}(h:Wl X ops Q (⟨d,.fieldAddr t x f,ty,p,af,g⟩::r) s l):Wl X ops Q (⟨d,.fieldAddr t x f,ty,p,af,g⟩::r) s l:=h
theorem sel_field {t f:Nat}{x:Operand}(h:Wl X ops Q (⟨d,.field t x f,ty,p,af,g⟩::r) s l):Wl X ops Q (⟨d,.field t x f,ty,p,af,g⟩::r) s l:=h
theorem sel_indexA {t:Nat}{x y:Operand}(h:Wl X ops Q (⟨d,.indexAddr t x y,ty,p,af,g⟩::r) s l):Wl X ops Q (⟨d,.indexAddr t x y,ty,p,af,g⟩::r) s l:=h
theorem sel_index {t:Nat}{x y:Operand}(h:Wl X ops Q (⟨d,.index t x y,ty,p,af,g⟩::r) s l):Wl X ops Q (⟨d,.index t x y,ty,p,af,g⟩::r) s l:=h
theorem sel_extract {x:Operand}{k:Nat}(h:Wl X ops Q (⟨d,.extract x k,ty,p,af,g⟩::r) s l):Wl X ops Q (⟨d,.extract x k,ty,p,af,g⟩::r) s l:=h
theorem sel_call {c:Call}(h:Wl X ops Q (⟨d,.call c,ty,p,af,g⟩::r) s l):Wl X ops Q (⟨d,.call c,ty,p,af,g⟩::r) s l:=h
theorem sel_slice {t:Nat}{x:Operand}{a b c:Option Operand}(h:Wl X ops Q (⟨d,.slice t x a b c,ty,p,af,g⟩::r) s l):Wl X ops Q (⟨d,.slice t x a b c,ty,p,af,g⟩::r) s l:=h
theorem sel_mslice {t:Nat}{x y:Operand}(h:Wl X ops Q (⟨d,.makeSlice t x y,ty,p,af,g⟩::r) s l):Wl X ops Q (⟨d,.makeSlice t x y,ty,p,af,g⟩::r) s l:=h
theorem sel_b_add {t yt:Nat}{x y:Operand}(h:Wl X ops Q (⟨d,.binOp .add t x y yt,ty,p,af,g⟩::r) s l):Wl X ops Q (⟨d,.binOp .add t x y yt,ty,p,af,g⟩::r) s l:=h
theorem sel_b_sub {t yt:Nat}{x y:Operand}(h:Wl X ops Q (⟨d,.binOp .sub t x y yt,ty,p,af,g⟩::r) s l):Wl X ops Q (⟨d,.binOp .sub t x y yt,ty,p,af,g⟩::r) s l:=h
theorem sel_b_mul {t yt:Nat}{x y:Operand}(h:Wl X ops Q (⟨d,.binOp .mul t x y yt,ty,p,af,g⟩::r) s l):Wl X ops Q (⟨d,.binOp .mul t x y yt,ty,p,af,g⟩::r) s l:=h
theorem sel_b_quo {t yt:Nat}{x y:Operand}(h:Wl X ops Q (⟨d,.binOp .quo t x y yt,ty,p,af,g⟩::r) s l):Wl X ops Q (⟨d,.binOp .quo t x y yt,ty,p,af,g⟩::r) s l:=h
theorem sel_b_rem {t yt:Nat}{x y:Operand}(h:Wl X ops Q (⟨d,.binOp .rem t x y yt,ty,p,af,g⟩::r) s l):Wl X ops Q (⟨d,.binOp .rem t x y yt,ty,p,af,g⟩::r) s l:=h
theorem sel_b_and {t yt:Nat}{x y:Operand}(h:Wl X ops Q (⟨d,.binOp .and t x y yt,ty,p,af,g⟩::r) s l):Wl X ops Q (⟨d,.binOp .and t x y yt,ty,p,af,g⟩::r) s l:=h
theorem sel_b_or {t yt:Nat}{x y:Operand}(h:Wl X ops Q (⟨d,.binOp .or t x y yt,ty,p,af,g⟩::r) s l):Wl X ops Q (⟨d,.binOp .or t x y yt,ty,p,af,g⟩::r) s l:=h
theorem sel_b_xor {t yt:Nat}{x y:Operand}(h:Wl X ops Q (⟨d,.binOp .xor t x y yt,ty,p,af,g⟩::r) s l):Wl X ops Q (⟨d,.binOp .xor t x y yt,ty,p,af,g⟩::r) s l:=h
theorem sel_b_andNot {t yt:Nat}{x y:Operand}(h:Wl X ops Q (⟨d,.binOp .andNot t x y yt,ty,p,af,g⟩::r) s l):Wl X ops Q (⟨d,.binOp .andNot t x y yt,ty,p,af,g⟩::r) s l:=h
theorem sel_b_shl {t yt:Nat}{x y:Operand}(h:Wl X ops Q (⟨d,.binOp .shl t x y yt,ty,p,af,g⟩::r) s l):Wl X ops Q (⟨d,.binOp .shl t x y yt,ty,p,af,g⟩::r) s l:=h
theorem sel_b_shr {t yt:Nat}{x y:Operand}(h:Wl X ops Q (⟨d,.binOp .shr t x y yt,ty,p,af,g⟩::r) s l):Wl X ops Q (⟨d,.binOp .shr t x y yt,ty,p,af,g⟩::r) s l:=h
theorem sel_b_eql {t yt:Nat}{x y:Operand}(h:Wl X ops Q (⟨d,.binOp .eql t x y yt,ty,p,af,g⟩::r) s l):Wl X ops Q (⟨d,.binOp .eql t x y yt,ty,p,af,g⟩::r) s l:=h
theorem sel_b_neq {t yt:Nat}{x y:Operand}(h:Wl X ops Q (⟨d,.binOp .neq t x y yt,ty,p,af,g⟩::r) s l):Wl X ops Q (⟨d,.binOp .neq t x y yt,ty,p,af,g⟩::r) s l:=h
theorem sel_b_lss {t yt:Nat}{x y:Operand}(h:Wl X ops Q (⟨d,.binOp .lss t x y yt,ty,p,af,g⟩::r) s l):Wl X ops Q (⟨d,.binOp .lss t x y yt,ty,p,af,g⟩::r) s l:=h
theorem sel_b_leq {t yt:Nat}{x y:Operand}(h:Wl X ops Q (⟨d,.binOp .leq t x y yt,ty,p,af,g⟩::r) s l):Wl X ops Q (⟨d,.binOp .leq t x y yt,ty,p,af,g⟩::r) s l:=h
theorem sel_b_gtr {t yt:Nat}{x y:Operand}(h:Wl X ops Q (⟨d,.binOp .gtr t x y yt,ty,p,af,g⟩::r) s l):Wl X ops Q (⟨d,.binOp .gtr t x y yt,ty,p,af,g⟩::r) s l:=h
theorem sel_b_geq {t yt:Nat}{x y:Operand}(h:Wl X ops Q (⟨d,.binOp .geq t x y yt,ty,p,af,g⟩::r) s l):Wl X ops Q (⟨d,.binOp .geq t x y yt,ty,p,af,g⟩::r) s l:=h
theorem sel_cond {c:Operand}{x y:Code}(h:Wc X (.cond c x y) Q s l):Wc X (.cond c x y) Q s l:=h
end
section
variable {X:Cx}{s:Slots}{l:Blks}
theorem Env.init {N:Nat}{vs:List Value}(h:vs.length≤N):Env N (initS vs 0) {tmps:=vs.toArray++Array.replicate (N - vs.toArray.size) undef,defers:=[]}:=by
 refine ⟨by simp;omega,fun i v hv=>?_,rfl⟩
 obtain ⟨h1,h2⟩:=look_initS vs 0 i v hv
 have h3:vs[i]? = some v:=by simpa using h2
 have:i<vs.length:=(List.getElem?_eq_some_iff.1 h3).1
 rw [Array.getElem?_append_left (by simpa using this)]
 simpa using h3
theorem Mem.init {P:Program}{W:World}{N:Nat}{own:List Nat}:Mem ⟨P,W,N,own⟩ [] W:=⟨by simp,⟨rfl,rfl,rfl,Nat.le_refl _,fun _ _ _=>rfl,fun _ _ _ h=>by cases h⟩,fun _ h=>by simp at h⟩
theorem Mem.below {X:Cx}{l:Blks}{w:World}(h:Mem X l w)(ho:X.own=[]):Below X.W.heap.size X.W w:=
 ⟨h.cls.os,h.cls.tape,h.cls.output,h.cls.size,fun k hk=>h.cls.old k hk (by rw [ho];simp)⟩
inductive ResP (X:Cx)(s:Slots)(l:Blks):List ResultVar→List Value→Prop
 | nil:ResP X s l [] []
 | tmp {t:Nat} {v:Value} {r:List ResultVar} {vs:List Value} (h:look s t=some v) (hr:ResP X s l r vs):ResP X s l (.tmp t::r) (v::vs)
 | cell {t ty b off:Nat} {v:Value} {r:List ResultVar} {vs:List Value} (h:look s t=some (.pointer (some ⟨b,off,none⟩))) (hv:Ld X l ty b off v) (hr:ResP X s l r vs):ResP X s l (.cell t ty::r) (v::vs)
def resOne (tm:Array Value)(x:ResultVar):Sem Value:=match x with
 | .tmp t=>pure (tm.getD t undef)
 | .cell c t=>do loadVar t (← asAddr (tm.getD c undef))
theorem resOne_tmp {tm:Array Value}{t:Nat}{v:Value}{P:Program}{w:World}(h:tm[t]? = some v):(resOne tm (.tmp t)).run P w=.ok v w:=by
 show (pure (tm.getD t undef):Sem Value).run P w=_
 simp [h]
theorem resOne_cell {tm:Array Value}{t ty:Nat}{p:Addr}{v:Value}{P:Program}{w:World}(h:tm[t]? = some (.pointer (some p)))(h':(loadVar ty p).run P w=.ok v w):(resOne tm (.cell t ty)).run P w=.ok v w:=by
 have e:tm.getD t undef=.pointer (some p):=by simp [h]
 show (do loadVar ty (← asAddr (tm.getD t undef)):Sem Value).run P w=_
 rw [e,Sem.run_bind]
 simpa [asAddr] using h'
theorem ResP.run {a:Act}{w:World}(he:Env X.N s a)(hm:Mem X l w){rs:List ResultVar}{vs:List Value}(h:ResP X s l rs vs):(rs.mapM (resOne a.tmps)).run X.P w=.ok vs w:=by
 induction h with
 | nil=>simp
 | tmp h _ ih=>
  rw [List.mapM_cons,Sem.run_bind,resOne_tmp (he.get _ _ h)]
  simp only [Result.andThen_ok,Sem.run_bind,ih,Sem.run_pure]
 | cell h hv _ ih=>
  rw [List.mapM_cons,Sem.run_bind,resOne_cell (he.get _ _ h) (hv w hm)]
  simp only [Result.andThen_ok,Sem.run_bind,ih,Sem.run_pure]
def endP (X:Cx)(rs:List ResultVar)(R:Value→Blks→Prop):Post
 | .normal,s,l | .ret,s,l=>∃ vs,ResP X s l rs vs∧R (tupV vs) l
 | _,_,_=>False
theorem end_ret {rs:List ResultVar}{R:Value→Blks→Prop}{vs:List Value}(h:ResP X s l rs vs)(hr:R (tupV vs) l):endP X rs R .ret s l:=⟨vs,h,hr⟩
theorem end_normal {rs:List ResultVar}{R:Value→Blks→Prop}{vs:List Value}(h:ResP X s l rs vs)(hr:R (tupV vs) l):endP X rs R .normal s l:=⟨vs,h,hr⟩
theorem results_run {fn:Func}{a:Act}{w:World}{vs:List Value}(he:Env X.N s a)(hm:Mem X l w)(h:ResP X s l fn.results.toList vs):(results fn a.tmps).run X.P w=.ok (tupV vs) w:=by
 have h1:=h.run he hm
 have e:results fn a.tmps=(do
  let vs ← fn.results.mapM (resOne a.tmps)
  pure (if h:vs.size=1 then vs[0] else .tuple vs)):=rfl
 rw [e]
 have:(fn.results.mapM (resOne a.tmps)).run X.P w=.ok vs.toArray w:=by
  rw [Array.mapM_eq_mapM_toList]
  simp [Sem.run_bind,h1]
 rw [Sem.run_bind,this]
 simp only [Result.andThen_ok,Sem.run_pure]
 congr 1
 unfold tupV
 match vs with
 | []=>rfl
 | [v]=>rfl
 | _::_::_=>simp
theorem fn_calls {P:Program}{f:Nat}{fn:Func}{c:Code}{vs:List Value}{W:World}{N:Nat}{own:List Nat}{l0:Blks}{R:Value→Blks→Prop}(hf:P.funcs[f]? = some fn)(hb:fn.body=some c)(hN:fn.ntmps=N){rs:List ResultVar}(hrs:fn.results=rs.toArray)(hl:vs.length≤N)
  (h0:Mem ⟨P,W,N,own⟩ l0 W) (h:Wc ⟨P,W,N,own⟩ c (endP ⟨P,W,N,own⟩ rs R) (initS vs 0) l0) :
  Calls P f vs.toArray W fun e w'=>∃ v l,e=.returned v∧R v l∧Mem ⟨P,W,N,own⟩ l w':=by
 have hrs':fn.results.toList=rs:=by rw [hrs]
 subst hrs'
 refine calls_of_wp hf hb ?_
 rw [hN]
 refine wp_mono (h _ W ⟨Env.init hl,h0⟩) fun e a w ⟨s,l,hst,hq⟩=>?_
 cases e with
 | normal=>
  obtain ⟨vs',h1,h2⟩:=hq
  exact ⟨hst.env.nodef,_,results_run hst.env hst.mem h1,_,l,rfl,h2,hst.mem⟩
 | ret=>
  obtain ⟨vs',h1,h2⟩:=hq
  exact ⟨hst.env.nodef,_,results_run hst.env hst.mem h1,_,l,rfl,h2,hst.mem⟩
 | _=>exact hq.elim
theorem fn_ret {P:Program}{f:Nat}{fn:Func}{c:Code}{vs:List Value}{W:World}{N:Nat}{v:Value}(hf:P.funcs[f]? = some fn)(hb:fn.body=some c)(hN:fn.ntmps=N){rs:List ResultVar}(hrs:fn.results=rs.toArray)(hl:vs.length≤N)
  (h:Wc ⟨P,W,N,[]⟩ c (endP ⟨P,W,N,[]⟩ rs fun u _=>u=v) (initS vs 0) []):Calls P f vs.toArray W (Ret v W):=
 (fn_calls hf hb hN hrs hl Mem.init h).mono fun e w' ⟨u,l,he,hu,hm⟩=>⟨by rw [he,hu],hm.below rfl⟩
end
structure Box (q:Prop):Prop where
 out:q
section
variable {X:Cx}{s:Slots}{l:Blks}{v:Value}{d:Option Tmp}{ty:TypeId}{p:String}{af:Array Edge}{g:Option (Nat×Bool)}
theorem selr_move {x:Operand}(h:RdV X s l ⟨d,.move x,ty,p,af,g⟩ v):RdV X s l ⟨d,.move x,ty,p,af,g⟩ v:=h
theorem selr_assign {x:Operand}(h:RdV X s l ⟨d,.assign x,ty,p,af,g⟩ v):RdV X s l ⟨d,.assign x,ty,p,af,g⟩ v:=h
theorem selr_pick {x y z:Operand}(h:RdV X s l ⟨d,.pick x y z,ty,p,af,g⟩ v):RdV X s l ⟨d,.pick x y z,ty,p,af,g⟩ v:=h
theorem selr_build {t:Nat}{ps:Array (Nat×Operand)}(h:RdV X s l ⟨d,.build t ps,ty,p,af,g⟩ v):RdV X s l ⟨d,.build t ps,ty,p,af,g⟩ v:=h
theorem selr_load {t:Nat}{x:Operand}(h:RdV X s l ⟨d,.load t x,ty,p,af,g⟩ v):RdV X s l ⟨d,.load t x,ty,p,af,g⟩ v:=h
theorem selr_nilc {x:Operand}(h:RdV X s l ⟨d,.nilCheck x,ty,p,af,g⟩ v):RdV X s l ⟨d,.nilCheck x,ty,p,af,g⟩ v:=h
theorem selr_unop {o:UnOp}{t:Nat}{x:Operand}(h:RdV X s l ⟨d,.unOp o t x,ty,p,af,g⟩ v):RdV X s l ⟨d,.unOp o t x,ty,p,af,g⟩ v:=h
theorem selr_conv {a b:Nat}{x:Operand}(h:RdV X s l ⟨d,.convert a b x,ty,p,af,g⟩ v):RdV X s l ⟨d,.convert a b x,ty,p,af,g⟩ v:=h
theorem selr_fieldA {t f:Nat}{x:Operand}(h:RdV X s l ⟨d,.fieldAddr t x f,ty,p,af,g⟩ v):RdV X s l ⟨d,.fieldAddr t x f,ty,p,af,g⟩ v:=h
theorem selr_field {t f:Nat}{x:Operand}(h:RdV X s l ⟨d,.field t x f,ty,p,af,g⟩ v):RdV X s l ⟨d,.field t x f,ty,p,af,g⟩ v:=h
theorem selr_indexA {t:Nat}{x y:Operand}(h:RdV X s l ⟨d,.indexAddr t x y,ty,p,af,g⟩ v):RdV X s l ⟨d,.indexAddr t x y,ty,p,af,g⟩ v:=h
theorem selr_index {t:Nat}{x y:Operand}(h:RdV X s l ⟨d,.index t x y,ty,p,af,g⟩ v):RdV X s l ⟨d,.index t x y,ty,p,af,g⟩ v:=h
theorem selr_extract {x:Operand}{k:Nat}(h:RdV X s l ⟨d,.extract x k,ty,p,af,g⟩ v):RdV X s l ⟨d,.extract x k,ty,p,af,g⟩ v:=h
theorem selr_call {c:Call}(h:RdV X s l ⟨d,.call c,ty,p,af,g⟩ v):RdV X s l ⟨d,.call c,ty,p,af,g⟩ v:=h
theorem selr_slice {t:Nat}{x:Operand}{a b c:Option Operand}(h:RdV X s l ⟨d,.slice t x a b c,ty,p,af,g⟩ v):RdV X s l ⟨d,.slice t x a b c,ty,p,af,g⟩ v:=h
theorem selr_b_add {t yt:Nat}{x y:Operand}(h:RdV X s l ⟨d,.binOp .add t x y yt,ty,p,af,g⟩ v):RdV X s l ⟨d,.binOp .add t x y yt,ty,p,af,g⟩ v:=h
theorem selr_b_sub {t yt:Nat}{x y:Operand}(h:RdV X s l ⟨d,.binOp .sub t x y yt,ty,p,af,g⟩ v):RdV X s l ⟨d,.binOp .sub t x y yt,ty,p,af,g⟩ v:=h
theorem selr_b_mul {t yt:Nat}{x y:Operand}(h:RdV X s l ⟨d,.binOp .mul t x y yt,ty,p,af,g⟩ v):RdV X s l ⟨d,.binOp .mul t x y yt,ty,p,af,g⟩ v:=h
theorem selr_b_quo {t yt:Nat}{x y:Operand}(h:RdV X s l ⟨d,.binOp .quo t x y yt,ty,p,af,g⟩ v):RdV X s l ⟨d,.binOp .quo t x y yt,ty,p,af,g⟩ v:=h
theorem selr_b_rem {t yt:Nat}{x y:Operand}(h:RdV X s l ⟨d,.binOp .rem t x y yt,ty,p,af,g⟩ v):RdV X s l ⟨d,.binOp .rem t x y yt,ty,p,af,g⟩ v:=h
theorem selr_b_and {t yt:Nat}{x y:Operand}(h:RdV X s l ⟨d,.binOp .and t x y yt,ty,p,af,g⟩ v):RdV X s l ⟨d,.binOp .and t x y yt,ty,p,af,g⟩ v:=h
theorem selr_b_or {t yt:Nat}{x y:Operand}(h:RdV X s l ⟨d,.binOp .or t x y yt,ty,p,af,g⟩ v):RdV X s l ⟨d,.binOp .or t x y yt,ty,p,af,g⟩ v:=h
theorem selr_b_xor {t yt:Nat}{x y:Operand}(h:RdV X s l ⟨d,.binOp .xor t x y yt,ty,p,af,g⟩ v):RdV X s l ⟨d,.binOp .xor t x y yt,ty,p,af,g⟩ v:=h
theorem selr_b_andNot {t yt:Nat}{x y:Operand}(h:RdV X s l ⟨d,.binOp .andNot t x y yt,ty,p,af,g⟩ v):RdV X s l ⟨d,.binOp .andNot t x y yt,ty,p,af,g⟩ v:=h
theorem selr_b_shl {t yt:Nat}{x y:Operand}(h:RdV X s l ⟨d,.binOp .shl t x y yt,ty,p,af,g⟩ v):RdV X s l ⟨d,.binOp .shl t x y yt,ty,p,af,g⟩ v:=h
theorem selr_b_shr {t yt:Nat}{x y:Operand}(h:RdV X s l ⟨d,.binOp .shr t x y yt,ty,p,af,g⟩ v):RdV X s l ⟨d,.binOp .shr t x y yt,ty,p,af,g⟩ v:=h
theorem selr_b_eql {t yt:Nat}{x y:Operand}(h:RdV X s l ⟨d,.binOp .eql t x y yt,ty,p,af,g⟩ v):RdV X s l ⟨d,.binOp .eql t x y yt,ty,p,af,g⟩ v:=h
theorem selr_b_neq {t yt:Nat}{x y:Operand}(h:RdV X s l ⟨d,.binOp .neq t x y yt,ty,p,af,g⟩ v):RdV X s l ⟨d,.binOp .neq t x y yt,ty,p,af,g⟩ v:=h
theorem selr_b_lss {t yt:Nat}{x y:Operand}(h:RdV X s l ⟨d,.binOp .lss t x y yt,ty,p,af,g⟩ v):RdV X s l ⟨d,.binOp .lss t x y yt,ty,p,af,g⟩ v:=h
theorem selr_b_leq {t yt:Nat}{x y:Operand}(h:RdV X s l ⟨d,.binOp .leq t x y yt,ty,p,af,g⟩ v):RdV X s l ⟨d,.binOp .leq t x y yt,ty,p,af,g⟩ v:=h
theorem selr_b_gtr {t yt:Nat}{x y:Operand}(h:RdV X s l ⟨d,.binOp .gtr t x y yt,ty,p,af,g⟩ v):RdV X s l ⟨d,.binOp .gtr t x y yt,ty,p,af,g⟩ v:=h
theorem selr_b_geq {t yt:Nat}{x y:Operand}(h:RdV X s l ⟨d,.binOp .geq t x y yt,ty,p,af,g⟩ v):RdV X s l ⟨d,.binOp .geq t x y yt,ty,p,af,g⟩ v:=h
end
theorem rvS {p:Prop}(h:p:=by first|((with_reducible apply selr_indexA);exact rd_ixO rfl rfl rfl)|((with_reducible apply selr_fieldA);exact rd_fdO rfl rfl)|((with_reducible apply selr_load);first|exact rd_load rfl rfl ld_O|exact rd_load rfl rfl ld_OR)|((with_reducible apply selr_call);exact rd_lenO rfl rfl rfl rfl rfl)|((with_reducible apply selr_build);exact rd_buildO rfl rfl rfl rfl rfl)|((with_reducible apply selr_slice);first|exact rd_slA (lo:=0) rfl rfl rfl rfl rfl rfl|exact rd_slA rfl rfl rfl rfl rfl rfl)|((with_reducible apply selr_conv);exact rd_convS rfl rfl)|((with_reducible apply selr_b_eql);exact rd_eqlS rfl rfl rfl)|fail):p:=h
theorem wlS {p q:Prop}(k:q)(h:Box q→p:=by refine fun k=>?_;first|((with_reducible refine sel_indexA ?_);refine wv rfl rfl (rd_ixO rfl rfl rfl) ?_;exact k.out)|((with_reducible refine sel_fieldA ?_);refine wv rfl rfl (rd_fdO rfl rfl) ?_;exact k.out)|((with_reducible refine sel_load ?_);first|(refine wv rfl rfl (rd_load rfl rfl ld_O) ?_;exact k.out)|(refine wv rfl rfl (rd_load rfl rfl ld_OR) ?_;exact k.out))|((with_reducible refine sel_call ?_);refine wv rfl rfl (rd_lenO rfl rfl rfl rfl rfl) ?_;exact k.out)|((with_reducible refine sel_build ?_);refine wv rfl rfl (rd_buildO rfl rfl rfl rfl rfl) ?_;exact k.out)|((with_reducible refine sel_slice ?_);first|(refine wv rfl rfl (rd_slA (lo:=0) rfl rfl rfl rfl rfl rfl) ?_;exact k.out)|(refine wv rfl rfl (rd_slA rfl rfl rfl rfl rfl rfl) ?_;exact k.out))|((with_reducible refine sel_conv ?_);refine wv rfl rfl (rd_convS rfl rfl) ?_;exact k.out)|((with_reducible refine sel_b_eql ?_);refine wv rfl rfl (rd_eqlS rfl rfl rfl) ?_;exact k.out)|fail):p:=h ⟨k⟩
theorem rvG {p:Prop}(h:p:=by first|((with_reducible apply selr_load);first|exact rd_load rfl rfl ld_wholeG|exact rd_load rfl rfl ld_sg|exact rd_load rfl rfl ld_sg1)|((with_reducible apply selr_field);first|exact rd_fieldG rfl rfl|exact rd_fieldG1 rfl rfl)|((with_reducible apply selr_build);exact rd_buildH rfl rfl)|fail):p:=h
theorem wlG {p q:Prop}(k:q)(h:Box q→p:=by refine fun k=>?_;first|((with_reducible refine sel_load ?_);first|(refine wv rfl rfl (rd_load rfl rfl ld_wholeG) ?_;exact k.out)|(refine wv rfl rfl (rd_load rfl rfl ld_sg) ?_;exact k.out)|(refine wv rfl rfl (rd_load rfl rfl ld_sg1) ?_;exact k.out))|((with_reducible refine sel_field ?_);first|(refine wv rfl rfl (rd_fieldG rfl rfl) ?_;exact k.out)|(refine wv rfl rfl (rd_fieldG1 rfl rfl) ?_;exact k.out))|((with_reducible refine sel_build ?_);refine wv rfl rfl (rd_buildH rfl rfl) ?_;exact k.out)|fail):p:=h ⟨k⟩
theorem wlBZ {p q:Prop}(k:q)(h:Box q→p:=by refine fun k=>?_;first|((with_reducible refine sel_build ?_);refine wv rfl rfl (rd_buildZ rfl rfl) ?_;exact k.out)|fail):p:=h ⟨k⟩
theorem rvR {p:Prop}(h:p:=by first|((with_reducible apply selr_load);exact rd_load rfl rfl ld_num)|((with_reducible apply selr_build);first|exact rd_build2 rfl rfl|exact rd_build2y rfl rfl|exact rd_build2x rfl rfl|exact rd_build20 rfl rfl|exact rd_build4 rfl rfl)|fail):p:=h
theorem wlR {p q:Prop}(k:q)(h:Box q→p:=by refine fun k=>?_;first|((with_reducible refine sel_load ?_);refine wv rfl rfl (rd_load rfl rfl ld_num) ?_;exact k.out)|((with_reducible refine sel_build ?_);first|(refine wv rfl rfl (rd_build2 rfl rfl) ?_;exact k.out)|(refine wv rfl rfl (rd_build2y rfl rfl) ?_;exact k.out)|(refine wv rfl rfl (rd_build2x rfl rfl) ?_;exact k.out)|(refine wv rfl rfl (rd_build20 rfl rfl) ?_;exact k.out)|(refine wv rfl rfl (rd_build4 rfl rfl) ?_;exact k.out))|fail):p:=h ⟨k⟩
theorem rvB {p:Prop}(h:p:=by first|((with_reducible apply selr_move);exact rd_move rfl rfl)|((with_reducible apply selr_load);first|exact rd_load rfl rfl (ld_whole)|exact rd_load rfl rfl (ld_cell)|exact rd_load rfl rfl (ld_row))|((with_reducible apply selr_indexA);first|exact rd_ixA rfl rfl rfl|exact rd_ixS rfl rfl rfl)|((with_reducible apply selr_fieldA);exact rd_fdA rfl rfl)|((with_reducible apply selr_extract);exact rd_extract rfl rfl)|((with_reducible apply selr_nilc);exact rd_nilP rfl rfl)|((with_reducible apply selr_assign);exact rd_assign rfl rfl)|((with_reducible apply selr_pick);exact rd_pick rfl rfl rfl rfl rfl)|((with_reducible apply selr_b_lss);exact rd_cm rfl rfl rfl rfl)|((with_reducible apply selr_b_leq);exact rd_cm rfl rfl rfl rfl)|((with_reducible apply selr_b_gtr);exact rd_cm rfl rfl rfl rfl)|((with_reducible apply selr_b_geq);exact rd_cm rfl rfl rfl rfl)|((with_reducible apply selr_b_eql);first|exact rd_cm rfl rfl rfl rfl|exact rd_eqlB rfl rfl rfl (by first|with_reducible assumption|rfl))|((with_reducible apply selr_b_neq);exact rd_cm rfl rfl rfl rfl)|((with_reducible apply selr_b_add);exact rd_ar rfl rfl rfl rfl)|((with_reducible apply selr_b_sub);exact rd_ar rfl rfl rfl rfl)|((with_reducible apply selr_b_mul);exact rd_ar rfl rfl rfl rfl)|((with_reducible apply selr_b_and);exact rd_bw rfl rfl rfl rfl)|((with_reducible apply selr_b_or);exact rd_bw rfl rfl rfl rfl)|((with_reducible apply selr_b_xor);exact rd_bw rfl rfl rfl rfl)|((with_reducible apply selr_b_andNot);exact rd_bw rfl rfl rfl rfl)|((with_reducible apply selr_b_shl);exact rd_shl rfl rfl rfl)|((with_reducible apply selr_b_shr);exact rd_shr rfl rfl rfl)|((with_reducible apply selr_b_quo);exact rd_quo rfl rfl rfl)|((with_reducible apply selr_b_rem);exact rd_rem rfl rfl rfl)|((with_reducible apply selr_index);exact rd_index (k:=0) rfl rfl rfl)|((with_reducible apply selr_conv);exact rd_conv rfl rfl)|((with_reducible apply selr_unop);first|exact rd_not rfl rfl|exact rd_neg rfl rfl|exact rd_inv rfl rfl)|fail):p:=h
theorem wlB {p q:Prop}(k:q)(h:Box q→p:=by refine fun k=>?_;first|((with_reducible refine sel_move ?_);refine wv rfl rfl (rd_move rfl rfl) ?_;exact k.out)|((with_reducible refine sel_load ?_);first|(refine wv rfl rfl (rd_load rfl rfl (ld_whole)) ?_;exact k.out)|(refine wv rfl rfl (rd_load rfl rfl (ld_cell)) ?_;exact k.out)|(refine wv rfl rfl (rd_load rfl rfl (ld_row)) ?_;exact k.out))|((with_reducible refine sel_indexA ?_);first|(refine wv rfl rfl (rd_ixA rfl rfl rfl) ?_;exact k.out)|(refine wv rfl rfl (rd_ixS rfl rfl rfl) ?_;exact k.out))|((with_reducible refine sel_fieldA ?_);refine wv rfl rfl (rd_fdA rfl rfl) ?_;exact k.out)|((with_reducible refine sel_extract ?_);refine wv rfl rfl (rd_extract rfl rfl) ?_;exact k.out)|((with_reducible refine sel_nilc ?_);refine wv rfl rfl (rd_nilP rfl rfl) ?_;exact k.out)|((with_reducible refine sel_assign ?_);refine wv rfl rfl (rd_assign rfl rfl) ?_;exact k.out)|((with_reducible refine sel_pick ?_);refine wv rfl rfl (rd_pick rfl rfl rfl rfl rfl) ?_;exact k.out)|((with_reducible refine sel_b_lss ?_);refine wv rfl rfl (rd_cm rfl rfl rfl rfl) ?_;exact k.out)|((with_reducible refine sel_b_leq ?_);refine wv rfl rfl (rd_cm rfl rfl rfl rfl) ?_;exact k.out)|((with_reducible refine sel_b_gtr ?_);refine wv rfl rfl (rd_cm rfl rfl rfl rfl) ?_;exact k.out)|((with_reducible refine sel_b_geq ?_);refine wv rfl rfl (rd_cm rfl rfl rfl rfl) ?_;exact k.out)|((with_reducible refine sel_b_eql ?_);first|(refine wv rfl rfl (rd_cm rfl rfl rfl rfl) ?_;exact k.out)|(refine wv rfl rfl (rd_eqlB rfl rfl rfl (by first|with_reducible assumption|rfl)) ?_;exact k.out))|((with_reducible refine sel_b_neq ?_);refine wv rfl rfl (rd_cm rfl rfl rfl rfl) ?_;exact k.out)|((with_reducible refine sel_b_add ?_);refine wv rfl rfl (rd_ar rfl rfl rfl rfl) ?_;exact k.out)|((with_reducible refine sel_b_sub ?_);refine wv rfl rfl (rd_ar rfl rfl rfl rfl) ?_;exact k.out)|((with_reducible refine sel_b_mul ?_);refine wv rfl rfl (rd_ar rfl rfl rfl rfl) ?_;exact k.out)|((with_reducible refine sel_b_and ?_);refine wv rfl rfl (rd_bw rfl rfl rfl rfl) ?_;exact k.out)|((with_reducible refine sel_b_or ?_);refine wv rfl rfl (rd_bw rfl rfl rfl rfl) ?_;exact k.out)|((with_reducible refine sel_b_xor ?_);refine wv rfl rfl (rd_bw rfl rfl rfl rfl) ?_;exact k.out)|((with_reducible refine sel_b_andNot ?_);refine wv rfl rfl (rd_bw rfl rfl rfl rfl) ?_;exact k.out)|((with_reducible refine sel_b_shl ?_);refine wv rfl rfl (rd_shl rfl rfl rfl) ?_;exact k.out)|((with_reducible refine sel_b_shr ?_);refine wv rfl rfl (rd_shr rfl rfl rfl) ?_;exact k.out)|((with_reducible refine sel_b_quo ?_);refine wv rfl rfl (rd_quo rfl rfl rfl) ?_;exact k.out)|((with_reducible refine sel_b_rem ?_);refine wv rfl rfl (rd_rem rfl rfl rfl) ?_;exact k.out)|((with_reducible refine sel_index ?_);refine wv rfl rfl (rd_index (k:=0) rfl rfl rfl) ?_;exact k.out)|((with_reducible refine sel_conv ?_);refine wv rfl rfl (rd_conv rfl rfl) ?_;exact k.out)|((with_reducible refine sel_unop ?_);first|(refine wv rfl rfl (rd_not rfl rfl) ?_;exact k.out)|(refine wv rfl rfl (rd_neg rfl rfl) ?_;exact k.out)|(refine wv rfl rfl (rd_inv rfl rfl) ?_;exact k.out))|fail):p:=h ⟨k⟩
theorem wlEQ {p q:Prop}(k:q)(h:Box q→p:=by refine fun k=>?_;first|((with_reducible refine sel_b_eql ?_);refine wv rfl rfl (rd_eqlV rfl rfl rfl (eqNu (by first|with_reducible assumption|with_reducible exact decide_eq_true rfl) (by first|(with_reducible assumption)|(with_reducible exact SmT.out)|decide) (by first|(with_reducible assumption)|(with_reducible exact SmT.out)|decide))) ?_;exact k.out)|((with_reducible refine sel_b_neq ?_);refine wv rfl rfl (rd_neqV rfl rfl rfl (eqNu (by first|with_reducible assumption|with_reducible exact decide_eq_true rfl) (by first|(with_reducible assumption)|(with_reducible exact SmT.out)|decide) (by first|(with_reducible assumption)|(with_reducible exact SmT.out)|decide))) ?_;exact k.out)|fail):p:=h ⟨k⟩
theorem wlNL {p q:Prop}(k:q)(h:Box q→p:=by refine fun k=>?_;first|((with_reducible refine sel_build ?_);refine wv rfl rfl (rd_cast (rd_buildA rfl rfl) (by first|exact nu_l0|exact nu_l1|exact nu_l2|exact nu_l3|exact nu_l5|exact nu_l7|exact nu_l8|exact nu_l9|exact nu_l19|exact nu_l38|exact nu_l121665|exact wi_l0|exact wi_l3|exact wi_l7|exact wi_l15)) ?_;exact k.out)|fail):p:=h ⟨k⟩
theorem rvO {p:Prop}(h:p:=by first|((with_reducible apply selr_load);exact rd_load rfl rfl (ld_old (by with_reducible assumption)))|fail):p:=h
theorem wlO {p q:Prop}(k:q)(h:Box q→p:=by refine fun k=>?_;first|((with_reducible refine sel_load ?_);refine wv rfl rfl (rd_load rfl rfl (ld_old (by with_reducible assumption))) ?_;exact k.out)|fail):p:=h ⟨k⟩
theorem wlPN {p q:Prop}(k:q)(h:Box q→p:=by refine fun k=>?_;first|((with_reducible refine sel_b_eql ?_);refine wv rfl rfl (rd_eqlP rfl rfl rfl ptr_nil) ?_;exact k.out)|((with_reducible refine sel_b_neq ?_);refine wv rfl rfl (rd_neqP rfl rfl rfl ptr_nil) ?_;exact k.out)|fail):p:=h ⟨k⟩
theorem wlPNN {p q:Prop}(k:q)(h:Box q→p:=by refine fun k=>?_;first|((with_reducible refine sel_b_eql ?_);refine wv rfl rfl (rd_eqlPN rfl rfl rfl ptr_nil2) ?_;exact k.out)|fail):p:=h ⟨k⟩
theorem wlMIN {p q:Prop}(k:q)(h:Box q→p:=by refine fun k=>?_;first|((with_reducible refine sel_call ?_);refine wv rfl rfl (rd_min rfl rfl rfl rfl rfl) ?_;exact k.out)|fail):p:=h ⟨k⟩
theorem rvNB {p:Prop}(h:p:=by first|((with_reducible apply selr_b_neq);exact rd_neqB rfl rfl rfl (by with_reducible assumption))|fail):p:=h
theorem wlNB {p q:Prop}(k:q)(h:Box q→p:=by refine fun k=>?_;first|((with_reducible refine sel_b_neq ?_);refine wv rfl rfl (rd_neqB rfl rfl rfl (by with_reducible assumption)) ?_;exact k.out)|fail):p:=h ⟨k⟩
theorem rvE {p:Prop}(h:p:=by first|((with_reducible apply selr_build);first|exact rd_buildA rfl rfl|exact rd_buildS rfl rfl)|((with_reducible apply selr_call);exact rd_lenS rfl rfl rfl rfl rfl)|fail):p:=h
theorem wlE {p q:Prop}(k:q)(h:Box q→p:=by refine fun k=>?_;first|((with_reducible refine sel_build ?_);first|(refine wv rfl rfl (rd_buildA rfl rfl) ?_;exact k.out)|(refine wv rfl rfl (rd_buildS rfl rfl) ?_;exact k.out))|((with_reducible refine sel_call ?_);refine wv rfl rfl (rd_lenS rfl rfl rfl rfl rfl) ?_;exact k.out)|fail):p:=h ⟨k⟩
theorem efSvvp {p q:Prop}(k:q)(h:Box q→p:=by refine fun k=>?_;first|((with_reducible refine sel_slice ?_);first|(refine wl_subB (lo:=0) rfl rfl rfl rfl rfl rfl rfl rfl ?_;exact k.out)|(refine wl_subB rfl rfl rfl rfl rfl rfl rfl rfl ?_;exact k.out)|(refine wl_sub (lo:=0) rfl rfl rfl rfl rfl rfl rfl rfl ?_;exact k.out)|(refine wl_sub rfl rfl rfl rfl rfl rfl rfl rfl ?_;exact k.out))|fail):p:=h ⟨k⟩
theorem efSvao {p q:Prop}(k:q)(h:Box q→p:=by refine fun k=>?_;first|((with_reducible refine sel_call ?_);first|(refine wl_appendB rfl rfl rfl rfl rfl ?_;exact k.out)|(refine wl_appendO rfl rfl rfl rfl rfl ?_;exact k.out))|((with_reducible refine sel_bslice ?_);first|(refine wl_bsliceB rfl rfl rfl rfl ?_;exact k.out)|(refine wl_bslice rfl rfl rfl rfl ?_;exact k.out)|(refine wl_bsliceO rfl rfl rfl rfl ?_;exact k.out))|fail):p:=h ⟨k⟩
theorem efM {p q:Prop}(k:q)(h:Box q→p:=by refine fun k=>?_;first|((with_reducible refine sel_call ?_);first|(refine wl_copyB rfl rfl rfl rfl rfl ?_;exact k.out))|fail):p:=h ⟨k⟩
theorem efMvao {p q:Prop}(k:q)(h:Box q→p:=by refine fun k=>?_;first|((with_reducible refine sel_call ?_);first|(refine wl_append0 rfl rfl rfl rfl rfl ?_;exact k.out))|((with_reducible refine sel_mslice ?_);first|(refine wl_makeB rfl rfl rfl rfl rfl ?_;exact k.out))|fail):p:=h ⟨k⟩
theorem efCOao {p q:Prop}(k:q)(h:Box q→p:=by refine fun k=>?_;first|((with_reducible refine sel_call ?_);first|(refine wl_copyO rfl rfl rfl rfl rfl ?_;exact k.out))|fail):p:=h ⟨k⟩
theorem efAFvao {p q:Prop}(k:q)(h:Box q→p:=by refine fun k=>?_;first|((with_reducible refine sel_call ?_);first|(refine wl_appendF rfl rfl rfl rfl rfl ?_;exact k.out))|fail):p:=h ⟨k⟩
theorem efC3vv {p q:Prop}(k:q)(h:Box q→p:=by refine fun k=>?_;first|((with_reducible refine sel_slice ?_);first|(refine wl_cut3 rfl rfl rfl rfl rfl rfl rfl rfl ?_;exact k.out))|fail):p:=h ⟨k⟩
theorem efG {p q:Prop}(k:q)(h:Box q→p:=by refine fun k=>?_;first|((with_reducible refine sel_store ?_);first|(refine wl_store rfl rfl (sv_wholeG rfl rfl rfl) ?_;exact k.out)|(refine wl_store rfl rfl (sv_sg rfl rfl rfl) ?_;exact k.out)|(refine wl_store rfl rfl (sv_sg1 rfl rfl rfl) ?_;exact k.out))|fail):p:=h ⟨k⟩
theorem efGnn {p q:Prop}(k:q)(h:Box q→p:=by refine fun k=>?_;first|((with_reducible refine sel_alloc ?_);first|(refine wl_new rfl rfl (mk_allocG rfl) ?_;exact k.out))|fail):p:=h ⟨k⟩
theorem efR {p q:Prop}(k:q)(h:Box q→p:=by refine fun k=>?_;first|((with_reducible refine sel_store ?_);first|(refine wl_store rfl rfl (sv_num0 rfl rfl rfl) ?_;exact k.out)|(refine wl_store rfl rfl (sv_num4 rfl rfl rfl) ?_;exact k.out))|fail):p:=h ⟨k⟩
theorem efZCnn {p q:Prop}(k:q)(h:Box q→p:=by refine fun k=>?_;first|((with_reducible refine sel_alloc ?_);first|(refine wl_new rfl rfl (mk_allocC rfl) ?_;exact k.out))|fail):p:=h ⟨k⟩
theorem efBnn {p q:Prop}(k:q)(h:Box q→p:=by refine fun k=>?_;first|((with_reducible refine sel_alloc ?_);first|(refine wl_new rfl rfl (mk_alloc rfl) ?_;exact k.out))|((with_reducible refine sel_box ?_);first|(refine wl_new rfl rfl (mk_box rfl rfl) ?_;exact k.out))|fail):p:=h ⟨k⟩
theorem efB {p q:Prop}(k:q)(h:Box q→p:=by refine fun k=>?_;first|((with_reducible refine sel_store ?_);first|(refine wl_store rfl rfl (sv_whole rfl rfl rfl) ?_;exact k.out)|(refine wl_store rfl rfl (sv_cell rfl rfl rfl rfl) ?_;exact k.out)|(refine wl_store rfl rfl (sv_row rfl rfl rfl rfl) ?_;exact k.out))|fail):p:=h ⟨k⟩
theorem efBS {p q:Prop}(k:q)(h:Box q→p:=by refine fun k=>?_;first|((with_reducible refine sel_store ?_);first|(refine wl_store rfl rfl (sv_cell rfl rfl rfl One.out) ?_;exact k.out)|(refine wl_store rfl rfl (sv_row rfl rfl rfl (by simp only [List.all_cons,List.all_nil,One.out,Bool.and_true])) ?_;exact k.out))|fail):p:=h ⟨k⟩
theorem auP {p q:Prop}(k:q)(h:q→p:=by with_reducible first|exact fun k=>then_normal k|exact fun k=>inB_normal k|exact fun k=>inB_ret k|exact fun k=>inB_here k|exact fun k=>inB_out (by decide) k|fail):p:=h k
theorem auR {p q:Prop}(k:q)(h:q→p:=by with_reducible first|exact fun k=>then_ret k|exact fun k=>then_exit k|fail):p:=h k
theorem auC {p q:Prop}(k:q)(h:q→p:=by refine fun k=>?_;first|((with_reducible refine wc_region ?_);(try simp only [List.append_eq,List.cons_append,List.nil_append]);exact k)|(with_reducible first|exact wc_block k|exact wc_skip k|exact wc_exit k|exact wc_ret k|exact wc_label k|exact wl_nil k)|((with_reducible refine sel_cond ?_);first|exact wc_true rfl k|exact wc_false rfl k)|fail):p:=h k
end Go.Proofs.YtkendlnjaopbeaaGreatDoor
