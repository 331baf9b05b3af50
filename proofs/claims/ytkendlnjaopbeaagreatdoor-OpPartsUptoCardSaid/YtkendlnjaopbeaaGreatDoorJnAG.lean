/- A struct built of nothing. Numbers of 256 bits as rows of four words: plain facts,no program in sight. What an argument is that came in: arrays of integers,numbers of 256 and 512 bits. What a [32]uint8 is that came in,as a list of bytes. The package hash,walked: Sum of bytes;equality of 32 bytes. -/
import Derived.Test.YtkendlnjaopbeaaGreatDoorJnAE
import Derived.WalkKit
import Derived.Test.YtkendlnjaopbeaaGreatDoorJnAA
import Derived.ProofKit
import Derived.OpenShut
import Derived.Test.YtkendlnjaopbeaaGreatDoorJnAD
namespace Go.Proofs.YtkendlnjaopbeaaGreatDoor
open Go.RowKit
section
variable {X:Cx}{s:Slots}{l:Blks}{o:Oper}
theorem rd_buildZ {t:Nat}{ps:Array (Nat×Operand)}{pl:List (Nat×Nat)}{g0:Sg}(ho:o.op=.build t ps)(hx:valsP s ps.toList=some [])[ht:SP X.P t pl][hz:ZG X.P t g0]:RdV X s l o (.agg (rwA g0)):=
 rd_buildH (vs:=[]) ho hx (hc:=rfl) (hg:=rfl) (h1:=fun p hp=>by cases hp) (h2:=fun p hp=>by cases hp)
end
end Go.Proofs.YtkendlnjaopbeaaGreatDoor
namespace Go.Proofs.YtkendlnjaopbeaaGreatDoor
open Go.RowKit
def U (x:Int):Prop:=0≤x∧x<18446744073709551616
def limb (n i:Nat):Int:=((n / 2 ^ (64 * i) % 18446744073709551616:Nat):Int)
abbrev num (n:Nat):Value:=.agg #[.int .u64 (limb n 0),.int .u64 (limb n 1),.int .u64 (limb n 2),.int .u64 (limb n 3)]
abbrev wide (n:Nat):Value:=.agg #[.int .u64 (limb n 0),.int .u64 (limb n 1),.int .u64 (limb n 2),.int .u64 (limb n 3),.int .u64 (limb n 4),.int .u64 (limb n 5),.int .u64 (limb n 6),.int .u64 (limb n 7)]
def T256:Nat:=115792089237316195423570985008687907853269984665640564039457584007913129639936
class SmT (a:Nat):Prop where
 out:a<T256
def T512:Nat:=T256 * T256
theorem T256_eq:T256=2 ^ 256:=by decide +kernel
theorem T512_eq:T512=2 ^ 512:=by decide +kernel
theorem limb_U (n i:Nat):U (limb n i):=by
 unfold limb U
 have:=Nat.mod_lt (n / 2 ^ (64 * i)) (show 0<18446744073709551616 by omega)
 omega
def sumLo (x y c:Int):Int:=(x+y+c) % 18446744073709551616
def sumHi (x y c:Int):Int:=(x+y+c) / 18446744073709551616
def subLo (x y c:Int):Int:=(x - y - c) % 18446744073709551616
def subHi (x y c:Int):Int:=if x<y+c then 1 else 0
theorem sumHi_bd {x y c:Int}(hx:U x)(hy:U y)(h0:0≤c)(h1:c≤1):0≤sumHi x y c∧sumHi x y c≤1:=by
 unfold sumHi U at *;omega
theorem subHi_bd (x y c:Int):0≤subHi x y c∧subHi x y c≤1:=by
 unfold subHi;split <;> omega
def four (a0 a1 a2 a3:Nat):Nat:=a0+18446744073709551616 * a1+340282366920938463463374607431768211456 * a2+6277101735386680763835789423207666416102355444464034512896 * a3
theorem limb0 (n:Nat):limb n 0=((n % 18446744073709551616:Nat):Int):=by unfold limb;simp
theorem limb1 (n:Nat):limb n 1=((n / 18446744073709551616 % 18446744073709551616:Nat):Int):=by unfold limb;simp
theorem limb2 (n:Nat):limb n 2=((n / 340282366920938463463374607431768211456 % 18446744073709551616:Nat):Int):=by unfold limb;simp
theorem limb3 (n:Nat):limb n 3=((n / 6277101735386680763835789423207666416102355444464034512896 % 18446744073709551616:Nat):Int):=by unfold limb;simp
theorem limb_shift4 (n i:Nat):limb n (i+4)=limb (n / T256) i:=by
 unfold limb
 rw [Nat.div_div_eq_div_mul,T256_eq,←Nat.pow_add,show 64 * (i+4)=256+64 * i by omega]
theorem limb_four (a0 a1 a2 a3:Nat)(h0:a0<18446744073709551616)(h1:a1<18446744073709551616)(h2:a2<18446744073709551616)(h3:a3<18446744073709551616) :
  limb (four a0 a1 a2 a3) 0=a0∧limb (four a0 a1 a2 a3) 1=a1∧limb (four a0 a1 a2 a3) 2=a2∧limb (four a0 a1 a2 a3) 3=a3:=by
 rw [limb0,limb1,limb2,limb3];unfold four
 refine ⟨?_,?_,?_,?_⟩ <;> (congr 1;omega)
theorem four_lt (a0 a1 a2 a3:Nat)(h0:a0<18446744073709551616)(h1:a1<18446744073709551616)(h2:a2<18446744073709551616)(h3:a3<18446744073709551616):four a0 a1 a2 a3<T256:=by
 unfold four T256;omega
theorem four_of (n:Nat)(h:n<T256):∃ a0 a1 a2 a3,a0<18446744073709551616∧a1<18446744073709551616∧a2<18446744073709551616∧a3<18446744073709551616∧n=four a0 a1 a2 a3:=by
 refine ⟨n % 18446744073709551616,n / 18446744073709551616 % 18446744073709551616,n / 340282366920938463463374607431768211456 % 18446744073709551616,n / 6277101735386680763835789423207666416102355444464034512896 % 18446744073709551616,?_,?_,?_,?_,?_⟩
 all_goals unfold T256 at h
 all_goals first|omega|(unfold four;omega)
theorem num_inj {a b:Nat}(ha:a<T256)(hb:b<T256)(h0:limb a 0=limb b 0)(h1:limb a 1=limb b 1)(h2:limb a 2=limb b 2)(h3:limb a 3=limb b 3):a=b:=by
 obtain ⟨a0,a1,a2,a3,k0,k1,k2,k3,rfl⟩:=four_of a ha
 obtain ⟨b0,b1,b2,b3,l0,l1,l2,l3,rfl⟩:=four_of b hb
 have k:=limb_four a0 a1 a2 a3 k0 k1 k2 k3
 have l:=limb_four b0 b1 b2 b3 l0 l1 l2 l3
 rw [k.1,l.1] at h0;rw [k.2.1,l.2.1] at h1;rw [k.2.2.1,l.2.2.1] at h2;rw [k.2.2.2,l.2.2.2] at h3
 obtain rfl:=Int.ofNat.inj h0;obtain rfl:=Int.ofNat.inj h1;obtain rfl:=Int.ofNat.inj h2;obtain rfl:=Int.ofNat.inj h3
 rfl
theorem limb_lo (n m i:Nat)(hi:i<4):limb (n % T256+T256 * m) i=limb n i:=by
 unfold limb
 congr 1
 rw [T256_eq]
 have e:2 ^ 256=2 ^ (64 * i) * (18446744073709551616 * 2 ^ (192 - 64 * i)):=by
  rw [show (18446744073709551616:Nat)=2 ^ 64 by decide,←Nat.pow_add,←Nat.pow_add];congr 1;omega
 have h1:(n % 2 ^ 256+2 ^ 256 * m) / 2 ^ (64 * i)=n % 2 ^ 256 / 2 ^ (64 * i)+18446744073709551616 * (2 ^ (192 - 64 * i) * m):=by
  rw [show 2 ^ 256 * m=2 ^ (64 * i) * (18446744073709551616 * (2 ^ (192 - 64 * i) * m)) by conv=>lhs;rw [e];simp only [Nat.mul_assoc],Nat.add_mul_div_left _ _ (Nat.two_pow_pos _)]
 rw [h1,Nat.add_mul_mod_self_left]
 conv=>lhs;rw [e,Nat.mod_mul_right_div_self]
 rw [Nat.mod_mul_right_mod]
theorem limb_hi (n m i:Nat)(hn:n<T256):limb (n+T256 * m) (i+4)=limb m i:=by
 rw [limb_shift4,Nat.add_mul_div_left _ _ (by unfold T256;omega),Nat.div_eq_of_lt hn,Nat.zero_add]
theorem limb_two (n m:Nat)(hn:n<T256):limb (n+T256 * m) 0=limb n 0∧limb (n+T256 * m) 1=limb n 1∧limb (n+T256 * m) 2=limb n 2∧limb (n+T256 * m) 3=limb n 3∧
  limb (n+T256 * m) 4=limb m 0∧limb (n+T256 * m) 5=limb m 1∧limb (n+T256 * m) 6=limb m 2∧limb (n+T256 * m) 7=limb m 3:=by
 have a:=limb_lo n m 0 (by omega)
 have b:=limb_lo n m 1 (by omega)
 have c:=limb_lo n m 2 (by omega)
 have d:=limb_lo n m 3 (by omega)
 rw [Nat.mod_eq_of_lt hn] at a b c d
 exact ⟨a,b,c,d,limb_hi n m 0 hn,limb_hi n m 1 hn,limb_hi n m 2 hn,limb_hi n m 3 hn⟩
theorem add_law (a b:Nat)(ha:a<T256)(hb:b<T256)(c0 c1 c2:Int)(e0:c0=sumHi (limb a 0) (limb b 0) 0)(e1:c1=sumHi (limb a 1) (limb b 1) c0)(e2:c2=sumHi (limb a 2) (limb b 2) c1) :
  limb ((a+b) % T256) 0=sumLo (limb a 0) (limb b 0) 0∧limb ((a+b) % T256) 1=sumLo (limb a 1) (limb b 1) c0∧limb ((a+b) % T256) 2=sumLo (limb a 2) (limb b 2) c1∧
  limb ((a+b) % T256) 3=sumLo (limb a 3) (limb b 3) c2∧(((a+b) / T256:Nat):Int)=sumHi (limb a 3) (limb b 3) c2:=by
 obtain ⟨a0,a1,a2,a3,k0,k1,k2,k3,rfl⟩:=four_of a ha
 obtain ⟨b0,b1,b2,b3,l0,l1,l2,l3,rfl⟩:=four_of b hb
 have k:=limb_four a0 a1 a2 a3 k0 k1 k2 k3
 have l:=limb_four b0 b1 b2 b3 l0 l1 l2 l3
 rw [k.1,l.1] at e0;rw [k.2.1,l.2.1] at e1;rw [k.2.2.1,l.2.2.1] at e2;rw [k.1,l.1,k.2.1,l.2.1,k.2.2.1,l.2.2.1,k.2.2.2,l.2.2.2]
 clear k l
 obtain ⟨s0,t0,hs0,hs0',ht0⟩:∃ s t:Nat,a0+b0=s+18446744073709551616 * t∧s<18446744073709551616∧t≤1:=⟨(a0+b0) % 18446744073709551616,(a0+b0) / 18446744073709551616,by omega,by omega,by omega⟩
 obtain ⟨s1,t1,hs1,hs1',ht1⟩:∃ s t:Nat,a1+b1+t0=s+18446744073709551616 * t∧s<18446744073709551616∧t≤1:=⟨(a1+b1+t0) % 18446744073709551616,(a1+b1+t0) / 18446744073709551616,by omega,by omega,by omega⟩
 obtain ⟨s2,t2,hs2,hs2',ht2⟩:∃ s t:Nat,a2+b2+t1=s+18446744073709551616 * t∧s<18446744073709551616∧t≤1:=⟨(a2+b2+t1) % 18446744073709551616,(a2+b2+t1) / 18446744073709551616,by omega,by omega,by omega⟩
 obtain ⟨s3,t3,hs3,hs3',ht3⟩:∃ s t:Nat,a3+b3+t2=s+18446744073709551616 * t∧s<18446744073709551616∧t≤1:=⟨(a3+b3+t2) % 18446744073709551616,(a3+b3+t2) / 18446744073709551616,by omega,by omega,by omega⟩
 have hsum:four a0 a1 a2 a3+four b0 b1 b2 b3=four s0 s1 s2 s3+T256 * t3:=by unfold four T256;omega
 have hlt:=four_lt s0 s1 s2 s3 hs0' hs1' hs2' hs3'
 have hm:(four a0 a1 a2 a3+four b0 b1 b2 b3) % T256=four s0 s1 s2 s3:=by rw [hsum,Nat.add_mul_mod_self_left,Nat.mod_eq_of_lt hlt]
 have hd:(four a0 a1 a2 a3+four b0 b1 b2 b3) / T256=t3:=by
  rw [hsum,Nat.add_mul_div_left _ _ (by unfold T256;omega),Nat.div_eq_of_lt hlt];omega
 rw [hm,hd]
 have m:=limb_four s0 s1 s2 s3 hs0' hs1' hs2' hs3'
 rw [m.1,m.2.1,m.2.2.1,m.2.2.2]
 unfold sumHi at e0;obtain rfl:c0=(t0:Int):=by omega
 unfold sumHi at e1;obtain rfl:c1=(t1:Int):=by omega
 unfold sumHi at e2;obtain rfl:c2=(t2:Int):=by omega
 unfold sumLo sumHi
 omega
theorem sub_law (a b:Nat)(ha:a<T256)(hb:b<T256)(c0 c1 c2:Int)(e0:c0=subHi (limb a 0) (limb b 0) 0)(e1:c1=subHi (limb a 1) (limb b 1) c0)(e2:c2=subHi (limb a 2) (limb b 2) c1) :
  limb ((a+T256 - b) % T256) 0=subLo (limb a 0) (limb b 0) 0∧limb ((a+T256 - b) % T256) 1=subLo (limb a 1) (limb b 1) c0∧limb ((a+T256 - b) % T256) 2=subLo (limb a 2) (limb b 2) c1∧
  limb ((a+T256 - b) % T256) 3=subLo (limb a 3) (limb b 3) c2∧(if a<b then 1 else 0:Int)=subHi (limb a 3) (limb b 3) c2:=by
 obtain ⟨a0,a1,a2,a3,k0,k1,k2,k3,rfl⟩:=four_of a ha
 obtain ⟨b0,b1,b2,b3,l0,l1,l2,l3,rfl⟩:=four_of b hb
 have k:=limb_four a0 a1 a2 a3 k0 k1 k2 k3
 have l:=limb_four b0 b1 b2 b3 l0 l1 l2 l3
 rw [k.1,l.1] at e0;rw [k.2.1,l.2.1] at e1;rw [k.2.2.1,l.2.2.1] at e2;rw [k.1,l.1,k.2.1,l.2.1,k.2.2.1,l.2.2.1,k.2.2.2,l.2.2.2]
 clear k l
 have step:∀ x y c:Nat,x<18446744073709551616→y<18446744073709551616→c≤1→∃ s t:Nat,x+18446744073709551616 * t=s+y+c∧s<18446744073709551616∧t≤1∧subLo x y c=s∧subHi x y c=t:=by
  intro x y c hx hy hc
  unfold subLo subHi
  by_cases h:x<y+c
  ·exact ⟨x+18446744073709551616 - y - c,1,by omega,by omega,by omega,by omega,by rw [if_pos (by omega)];rfl⟩
  ·exact ⟨x - y - c,0,by omega,by omega,by omega,by omega,by rw [if_neg (by omega)];rfl⟩
 obtain ⟨s0,t0,hs0,hs0',ht0,m0,n0⟩:=step a0 b0 0 k0 l0 (by omega)
 obtain ⟨s1,t1,hs1,hs1',ht1,m1,n1⟩:=step a1 b1 t0 k1 l1 ht0
 obtain ⟨s2,t2,hs2,hs2',ht2,m2,n2⟩:=step a2 b2 t1 k2 l2 ht1
 obtain ⟨s3,t3,hs3,hs3',ht3,m3,n3⟩:=step a3 b3 t2 k3 l3 ht2
 clear step
 have e0':c0=(t0:Int):=e0.trans n0
 subst e0'
 have e1':c1=(t1:Int):=e1.trans n1
 subst e1'
 have e2':c2=(t2:Int):=e2.trans n2
 subst e2'
 clear e0 e1 e2 n0 n1 n2
 have z:((0:Nat):Int)=0:=rfl
 rw [z] at m0
 rw [m0,m1,m2,m3,n3]
 have hsum:four a0 a1 a2 a3+T256 * t3=four s0 s1 s2 s3+four b0 b1 b2 b3:=by unfold four T256;omega
 have hlt:=four_lt s0 s1 s2 s3 hs0' hs1' hs2' hs3'
 have hm:(four a0 a1 a2 a3+T256 - four b0 b1 b2 b3) % T256=four s0 s1 s2 s3:=by
  have:t3=0∨t3=1:=by omega
  rcases this with rfl|rfl
  ·rw [show four a0 a1 a2 a3+T256 - four b0 b1 b2 b3=four s0 s1 s2 s3+T256 * 1 by omega,Nat.add_mul_mod_self_left,Nat.mod_eq_of_lt hlt]
  ·rw [show four a0 a1 a2 a3+T256 - four b0 b1 b2 b3=four s0 s1 s2 s3 by omega,Nat.mod_eq_of_lt hlt]
 rw [hm]
 have m:=limb_four s0 s1 s2 s3 hs0' hs1' hs2' hs3'
 rw [m.1,m.2.1,m.2.2.1,m.2.2.2]
 refine ⟨rfl,rfl,rfl,rfl,?_⟩
 have:t3=0∨t3=1:=by omega
 rcases this with rfl|rfl
 ·rw [if_neg (by omega)];rfl
 ·rw [if_pos (by omega)];rfl
end Go.Proofs.YtkendlnjaopbeaaGreatDoor
namespace Go.Proofs.YtkendlnjaopbeaaGreatDoor
open Go.RowKit Go.ChangeShapes Go.WideShapes Go.ChangeAt
section
variable {H:Type}{enc:TypeId×Value→H}{P:Program}{w:World}{base:Nat}{spare:Nat→Bool}{held:Bool}
theorem okWide_array {t e:TypeId}{n:Nat}{r:Reach}{b0:Nat}{v:Value}(ht:P.underlying t=some (.array n e))(h:Value.okWide P w r b0 t v):∃ cs,v=.agg cs∧cs.size=P.cellsOf t:=by
 simp only [Value.okWide,ht] at h
 obtain ⟨cs,h1,h2,_⟩:=h
 exact ⟨cs,h1,h2⟩
def intAt (cs:List Value)(i:Nat):Int:=match cs[i]? with|some (.int _ z)=>z|_=>0
theorem cells_ints {t e:TypeId}{n:Nat}{k:IntKind}{cs:List Value}{fuel:Nat}{x:DataW H×List MemPlace}(ht:P.underlying t=some (.array n e))(he:P.underlying e=some (.int k))(hce:P.cellsOf e=1)(hct:P.cellsOf t=n)
  (h:DataW.trod enc P w base spare held fuel t cs=some x):∃ zs:List Int,zs.length=n∧cs=zs.map (Value.int k)∧∀ z∈zs,(Lit.int k z).wf=true:=by
 obtain ⟨xs,m,_,_,hl,hx,hf⟩:=DataW.trod_array ht h
 rw [hct] at hl
 have key:∀ i,i<n→∃ z,cs[i]? = some (.int k z)∧(Lit.int k z).wf=true:=by
  intro i hi
  have:=hf i hi
  rw [hce,Nat.mul_one,List.getElem?_eq_getElem (by omega)] at this
  obtain ⟨z,hc,_,hz⟩:=DataW.trod_int he this
  refine ⟨z,?_,hz⟩
  have:=congrArg (·[0]?) hc
  simpa [List.getElem?_take,List.getElem?_drop] using this
 refine ⟨(List.range n).map (intAt cs),by simp,?_,?_⟩
 ·apply List.ext_getElem?
  intro i
  by_cases hi:i<n
  ·obtain ⟨z,hz,_⟩:=key i hi
   simp [hi,intAt,hz]
  ·simp only [List.map_map,List.getElem?_map]
   rw [List.getElem?_eq_none (by omega),List.getElem?_eq_none (by simp;omega)]
   rfl
 ·intro z hz
  obtain ⟨i,hi,rfl⟩:=List.mem_map.1 hz
  obtain ⟨z,hz,hw⟩:=key i (List.mem_range.1 hi)
  simpa [intAt,hz] using hw
theorem open_array {t e:TypeId}{n:Nat}{k:IntKind}{r:Reach}{b0:Nat}{v:Value}{d:DataW H}{p:List MemPlace}(ht:P.underlying t=some (.array n e))(he:P.underlying e=some (.int k))(hce:P.cellsOf e=1)(hct:P.cellsOf t=n)
  (hv:Value.okWide P w r b0 t v) (h:DataW.Trod enc P w base spare held t v d p):∃ zs:List Int,zs.length=n∧v=.agg (zs.map (Value.int k)).toArray∧∀ z∈zs,(Lit.int k z).wf=true:=by
 obtain ⟨cs,rfl,_⟩:=okWide_array ht hv
 obtain ⟨fuel,hf⟩:=h
 obtain ⟨zs,h1,h2,h3⟩:=cells_ints ht he hce hct (cs:=cs.toList) (by simpa [Value.cells] using hf)
 refine ⟨zs,h1,?_,h3⟩
 rw [←h2]
end
end Go.Proofs.YtkendlnjaopbeaaGreatDoor
namespace Go.Proofs.YtkendlnjaopbeaaGreatDoor
open Go.RowKit Go.ChangeShapes Go.WideShapes
set_option linter.unusedVariables false
structure ArB (n:Nat)(v:Value)(d:List Nat):Prop where
 eq:v=.agg (bys d)
 len:d.length=n
 by':∀ x∈d,x<256
theorem open_arrl {P:Program}{t e:TypeId}{n:Nat}{H:Type}{enc:TypeId×Value→H}{W:World}{r:Reach}{b0:Nat}{v:Value}{d:DataW H}{q:List MemPlace}(ht:P.underlying t=some (.array n e))(he:P.underlying e=some (.int .u8))(hce:P.cellsOf e=1)(hct:P.cellsOf t=n)
  (hv:Value.okWide P W r b0 t v) (h:DataW.Trod enc P W 0 (fun _=>true) true t v d q):∃ d:List Nat,ArB n v d∧True:=by
 obtain ⟨zs,h1,h2,h3⟩:=open_array ht he hce hct hv h
 refine ⟨zs.map Int.toNat,⟨?_,by rw [List.length_map,h1],?_⟩,trivial⟩
 ·rw [h2,bys,bl,List.map_map]
  congr 2
  refine List.map_congr_left fun z hz=>?_
  have:=h3 z hz
  simp [Lit.wf,IntKind.min,IntKind.max,IntKind.signed,IntKind.bits] at this
  show Value.int .u8 z=Value.int .u8 ((z.toNat:Nat):Int)
  rw [Int.toNat_of_nonneg this.1]
 ·intro x hx
  obtain ⟨z,hz,rfl⟩:=List.mem_map.1 hx
  have:=h3 z hz
  simp [Lit.wf,IntKind.min,IntKind.max,IntKind.signed,IntKind.bits] at this
  omega
end Go.Proofs.YtkendlnjaopbeaaGreatDoor
namespace Go.Proofs.YtkendlnjaopbeaaGreatDoor
open Go.RowKit
set_option linter.unusedVariables false
set_option maxRecDepth 100000
set_option linter.unusedSimpArgs false
instance {p:List Nat}:NBy (dig p) 32:=⟨dig_len p⟩
instance:HSo newH:=⟨newH_ok⟩
set_option maxRecDepth 100000 in
set_option maxHeartbeats 4000000 in
theorem dig_c (w:World)(hT:Tab w){v:Value}{m:Nat}{p:List Nat}(hp:Cb w v m p):Calls Tryz.prog 44 [v].toArray w (Ret (.agg (bys (dig p))) w):=by
 haveI:=hp.old
 have N1:=new_c
 have W1:∀ w',Below w.heap.size w w'→Calls Tryz.prog 22 [hv newH,v].toArray w' (Ret (hv (newH.write p)) w'):=fun w' hb=>write_c w' (hT.below hb) newH_ok (hp.below hb)
 have S1:∀ w',Below w.heap.size w w'→Calls Tryz.prog 23 [hv (newH.write p)].toArray w' (Ret (.agg (bys (dig p))) w'):=fun w' hb=>sum_c w' (hT.below hb) (HS.write_ok hp.ok.by' newH_ok)
 clear hp hT
 refine fn_ret (N:=_) Tryz.func44 rfl Tryz.ntmps44 Tryz.results44 (by simp) ?_
 simp only [initS,Nat.reduceAdd,Nat.zero_add]
 repeat' (first|(refine wlS ?_)|(refine wlB ?_)|((with_reducible refine sel_call ?_);refine wl_rd rfl rfl (rd_call rfl rfl rfl (fun w hm=>by with_reducible first|exact N1 w|exact W1 w (hm.below rfl)|exact S1 w (hm.below rfl))) ?_)|(refine wlE ?_)|(refine efSvao ?_;intro v oa ho)|(refine efG ?_)|(refine efGnn ?_;intro n hn)|(refine efZCnn ?_;intro n hn)|(refine efBnn ?_;intro n hn)|(refine efB ?_)|(refine efBS ?_)|(refine wl_skip rfl rfl ?_)|((with_reducible refine wc_seq ?_);intro K hK)|(refine auC ?_)|(refine wc_cond rfl (fun hc=>?_) (fun hc=>?_))|(refine wc_draw (by kernel_rfl) (by kernel_rfl) (by decide +kernel) ?_;intro w0 hw0 hm0;(try simp only [List.append_eq,List.cons_append,List.nil_append]))|(refine auP ?_)|((refine auR ?_);clear hK K)|(refine auR ?_)|((with_reducible refine hK _ _ ?_);clear hK K)|fail)
 first|refine end_ret (ResP.cell rfl ld_whole ResP.nil) ?_|refine end_normal (ResP.cell rfl ld_whole ResP.nil) ?_
 first|rfl|(show _=_;rfl)|(simp only [tupV, *];done)
theorem cb_nil (w:World):Cb w (.slice none 0 0) 0 []:=(CsB.nil).cs.out w (by intro p hp;cases hp) |> fun h=>⟨h,BL.nil⟩
end Go.Proofs.YtkendlnjaopbeaaGreatDoor
