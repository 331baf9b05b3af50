/- Slices of bytes that come in as arguments;the builtin min;and,or,xor of int. -/
import Derived.Test.YtkendlnjaopbeaaGreatDoorJnAB
import Derived.ChangeSlices
import Derived.Below
import Derived.WideShapes
namespace Go.Proofs.YtkendlnjaopbeaaGreatDoor
open Go.RowKit Go.ChangeShapes
set_option linter.unusedVariables false
set_option linter.unusedSimpArgs false
structure Sl (W:World)(p:Option Addr)(n:Nat)(f:Nat→Nat):Prop where
 small:n<9223372036854775808
 byte:∀ i,f i<256
 cell:∀ i,i<n→∃ b off,p=some ⟨b,off,none⟩∧W.cell? ⟨b,off+i,none⟩=some (.int .u8 ((f i:Nat):Int))
section
variable {X:Cx}{s:Slots}{l:Blks}{o:Oper}{v:Value}
theorem ld_old {t b off:Nat}[hu:KD X.P t false](hc:X.W.cell? ⟨b,off,none⟩=some v)(ho:X.own=[]:=by rfl):Ld X l t b off v:=fun w hm=>by
 have hc':w.cell? ⟨b,off,none⟩=some v:=by rw [(hm.below ho).cell (World.block_lt_of_cell? _ _ hc)];exact hc
 simp [loadVar,Sem.run_bind,hu.agg,run_load,hc']
theorem rd_min {c:Call}{x y:Operand}{k k':IntKind}{a b r:Int}(ho:o.op=.call c)(hc:c.callee=.builtin .min)(ha:c.args=#[x,y])(hx:val s x=some (.int k a))(hy:val s y=some (.int k' b))(hr:(if b<a then b else a)=r:=by with_reducible assumption):RdV X s l o (.int k r):=
 rd_val fun e w he hm=>by
  subst hr
  simp only [execOp,ho,resolve,hc,ha,List.map_toArray,List.map_cons,List.map_nil,he.eval hx,he.eval hy]
  simp [invoke,builtin,Sem.run_bind,run_min_int2]
theorem rd_neqB {t yt:Nat}{x y:Operand}{a b r:Bool}(ho:o.op=.binOp .neq t x y yt)(hx:val s x=some (.bool a))(hy:val s y=some (.bool b))[h:UT X.P t .bool](hr:(a != b)=r):RdV X s l o (.bool r):=
 rd_val fun e w he hm=>by
  subst hr
  have q:(Op.equalIn 10000 t (.bool a) (.bool b)).run X.P w=.ok (a == b) w:=by
   rw [show (10000:Nat)=9999+1 from rfl,Op.equalIn,Sem.run_bind,run_underlying h.out];rfl
  simp only [execOp,ho,he.eval hx,he.eval hy,eqGuard]
  simp [run_neq w rfl q]
  cases a <;> cases b <;> rfl
theorem rd_callv {c:Call}{f:Nat}{y:Operand}{vs:List Value}(ho:o.op=.call c)(hc:c.callee=.value y)(hy:val s y=some (.func (.func f) #[] #[]))(ha:vals s c.args.toList=some vs)
  (h:∀ w,Mem X l w→Calls X.P f vs.toArray w (Ret v w)) (hk:callOk X.P f=true:=by kernel_rfl):Rd X s l o v:=fun a w he hm=>by
 have h1:=he.vals ha
 have h2:c.args.map a.eval=vs.toArray:=by rw [←h1];simp [←Array.toList_map]
 have e:(execOp a.eval o).run X.P w=(callFunc f vs.toArray).run X.P w:=by
  simp only [execOp,ho,resolve,hc,h2,he.eval hy,Deferred.ofValue]
  simp [invoke]
 rw [e,run_enter hk]
 exact ⟨rfl,h w hm⟩
end
section
variable {H:Type}{enc:TypeId×Value→H}{P:Program}{w:World}{base:Nat}
end
theorem b63 {a:Nat}(ha:a<9223372036854775808):(BitVec.ofInt 64 (a:Int)).toNat=a:=by
 rw [BitVec.ofInt_natCast,BitVec.toNat_ofNat];exact Nat.mod_eq_of_lt (by omega)
theorem xor63 {a b:Nat}(ha:a<9223372036854775808)(hb:b<9223372036854775808):a ^^^ b<9223372036854775808:=Nat.xor_lt_two_pow (n:=63) ha hb
theorem or63 {a b:Nat}(ha:a<9223372036854775808)(hb:b<9223372036854775808):a ||| b<9223372036854775808:=Nat.or_lt_two_pow (n:=63) ha hb
theorem xor_int {a b:Nat}(ha:a<9223372036854775808)(hb:b<9223372036854775808):bits .xor .i64 (a:Int) (b:Int)=((a ^^^ b:Nat):Int):=by
 have hx:=xor63 ha hb
 show IntKind.i64.wrap ((BitVec.ofInt 64 (a:Int) ^^^ BitVec.ofInt 64 (b:Int)).toNat:Int)=_
 rw [BitVec.toNat_xor,b63 ha,b63 hb]
 exact wrap_i64 _ (by omega) (by omega)
theorem or_int {a b:Nat}(ha:a<9223372036854775808)(hb:b<9223372036854775808):bits .or .i64 (a:Int) (b:Int)=((a ||| b:Nat):Int):=by
 have hx:=or63 ha hb
 show IntKind.i64.wrap ((BitVec.ofInt 64 (a:Int) ||| BitVec.ofInt 64 (b:Int)).toNat:Int)=_
 rw [BitVec.toNat_or,b63 ha,b63 hb]
 exact wrap_i64 _ (by omega) (by omega)
theorem xor_nought {a b:Nat}:a ^^^ b=0↔a=b:=by
 constructor
 ·intro h
  have:a ^^^ (b ^^^ b)=b:=by rw [←Nat.xor_assoc,h,Nat.zero_xor]
  rwa [Nat.xor_self,Nat.xor_zero] at this
 ·rintro rfl;exact Nat.xor_self a
theorem xor_u8 {a b:Nat}(ha:a<256)(hb:b<256):bits .xor .u8 (a:Int) (b:Int)=((a ^^^ b:Nat):Int):=by
 have hx:a ^^^ b<256:=Nat.xor_lt_two_pow (n:=8) ha hb
 have h1:(BitVec.ofInt 8 (a:Int)).toNat=a:=by
  rw [BitVec.ofInt_natCast,BitVec.toNat_ofNat];exact Nat.mod_eq_of_lt (by omega)
 have h2:(BitVec.ofInt 8 (b:Int)).toNat=b:=by
  rw [BitVec.ofInt_natCast,BitVec.toNat_ofNat];exact Nat.mod_eq_of_lt (by omega)
 show IntKind.u8.wrap ((BitVec.ofInt 8 (a:Int) ^^^ BitVec.ofInt 8 (b:Int)).toNat:Int)=_
 rw [BitVec.toNat_xor,h1,h2]
 exact wrap_u8 _ (by omega) (by omega)
end Go.Proofs.YtkendlnjaopbeaaGreatDoor
