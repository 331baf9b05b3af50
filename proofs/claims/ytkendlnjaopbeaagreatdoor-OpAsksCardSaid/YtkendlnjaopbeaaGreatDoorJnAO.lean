/- The field of 2^255 - 19 elements: no divisors of 0,inverses,roots: plain laws. More of roots: the root of a square is one of the two,the even one. The associative law of the curve: two identities,printed by genedw.py;over whatever modulus (a named one makes grind slow). The curve a*x^2+y^2=1+d*x^2*y^2,a a square,d none: its points are a group (EDWARDS;BERNSTEIN,LANGE). Plain laws,over whatever field of p elements. So often a point: laws. And points by four numbers (x*z,y*z,z,x*y*z). Plain laws. The field of 2^255 - 19 elements as a type,for laws of polynomials. The program's points are the curve's: plain laws. -/
import Derived.Test.YtkendlnjaopbeaaGreatDoorJnAL
import Derived.Test.YtkendlnjaopbeaaGreatDoorJnAN
namespace Go.Proofs.YtkendlnjaopbeaaGreatDoor
set_option linter.unusedVariables false
set_option linter.unusedSimpArgs false
theorem PP_prime:Prime PP:=prime_P
theorem PP_four:PP - 1=4 * E2:=by decide +kernel
theorem PP_two:2≤PP:=by decide
theorem PP_odd:PP % 2=1:=by decide +kernel
theorem two_ord:IsOrd PP 2 (PP - 1):=ord_P
theorem flow_zero_iff {a:Nat}:flow a=0↔PP ∣ a:=by
 simp only [flow_def]
 exact Nat.dvd_iff_mod_eq_zero.symm
theorem fmul_zero_iff (a b:Nat):fmul a b=0↔flow a=0∨flow b=0:=by
 rw [flow_zero_iff,flow_zero_iff]
 simp only [fmul_def]
 rw [←Nat.dvd_iff_mod_eq_zero]
 exact ⟨PP_prime.dvd_mul,fun h=>h.elim (fun h=>Nat.dvd_trans h (Nat.dvd_mul_right a b)) (fun h=>Nat.dvd_trans h (Nat.dvd_mul_left b a))⟩
theorem fmul_flow (a b:Nat):flow (fmul a b)=fmul a b:=flow_of (fmul_P a b)
theorem fpow_flow' (a b:Nat):flow (fpow a b)=fpow a b:=flow_of (fpow_P a b)
theorem fpow2_eq {i j:Nat}(h:i % (PP - 1)=j % (PP - 1)):fpow 2 i=fpow 2 j:=by
 have key:∀ n,fpow 2 n=fpow 2 (n % (PP - 1)):=fun n=>by
  have hd:=Nat.mod_add_div n (PP - 1)
  conv=>lhs;rw [←hd]
  rw [fpow_add]
  have:fpow 2 ((PP - 1) * (n / (PP - 1)))=1:=by
   simp only [fpow_def]
   rw [pow_mod_mul,two_ord.2.1,Nat.one_pow,one_mod PP_two]
  rw [this,fmul_one,fpow_flow']
 rw [key i,key j,h]
theorem is_pow2 {a:Nat}(h:flow a≠0):∃ i,flow a=fpow 2 i:=by
 have hlt:=flow_P a
 obtain ⟨i,h1,h2⟩:=gen_all PP_two two_ord (flow a) (by omega) hlt
 refine ⟨i,?_⟩
 rw [←h2,fpow_def]
theorem fpow_fpow (a m n:Nat):fpow (fpow a m) n=fpow a (m * n):=by
 simp only [fpow_def]
 rw [pow_mod_mul]
theorem finv_flow (a:Nat):finv (flow a)=finv a:=by unfold finv;rw [fpow_flow]
theorem fmul_ff (a b:Nat):fmul (flow a) (flow b)=fmul a b:=by rw [fmul_flow_left,fmul_flow_right]
theorem finv_pow2 (i:Nat):finv (fpow 2 i)=fpow 2 (i * (PP - 2)):=by unfold finv;rw [fpow_fpow]
theorem fmul_finv {a:Nat}(h:flow a≠0):fmul a (finv a)=1:=by
 obtain ⟨i,hi⟩:=is_pow2 h
 rw [←finv_flow,←fmul_flow_left,hi,finv_pow2,←fpow_add,←fpow_zero 2]
 apply fpow2_eq
 rw [show i+i * (PP - 2)=(PP - 1) * i by
  have:=PP_two
  rw [show PP - 1=1+(PP - 2) by omega,Nat.add_mul,Nat.one_mul,Nat.mul_comm],Nat.mul_mod_right,Nat.zero_mod]
theorem fneg_def (x:Nat):fsub 0 x=(PP - x % PP) % PP:=by
 simp only [fsub_def]
 rw [Nat.zero_mod,Nat.zero_add]
theorem fneg_add (x:Nat):fadd (fsub 0 x) x=0:=by rw [fsub_add];exact flow_of (by decide)
theorem add_cancel {a b c:Nat}(ha:a<PP)(hb:b<PP)(h:fadd a c=fadd b c):a=b:=by
 have k:fadd (fadd a c) (fsub 0 c)=fadd (fadd b c) (fsub 0 c):=by rw [h]
 have z:∀ x,x<PP→fadd (fadd x c) (fsub 0 c)=x:=fun x hx=>by
  rw [fadd_assoc,fadd_comm c,fneg_add]
  simp only [fadd_def]
  rw [Nat.add_zero,Nat.mod_eq_of_lt hx]
 rwa [z a ha,z b hb] at k
theorem fmul_neg (a b:Nat):fmul a (fsub 0 b)=fsub 0 (fmul a b):=by
 refine add_cancel (c:=fmul a b) (fmul_P _ _) (fsub_P _ _) ?_
 rw [←fmul_add,fneg_add,fneg_add,fmul_comm]
 simp only [fmul_def]
 rw [Nat.zero_mul,Nat.zero_mod]
theorem fneg_neg (a:Nat):fsub 0 (fsub 0 a)=flow a:=by
 refine add_cancel (c:=fsub 0 a) (fsub_P _ _) (flow_P _) ?_
 rw [fneg_add]
 simp only [flow_def,fadd_def,fsub_def]
 rw [Nat.mod_add_mod,Nat.zero_mod,Nat.zero_add,Nat.add_mod_mod]
 have h:=Nat.mod_lt a (show 0<PP by decide)
 have e:=Nat.mod_add_div a PP
 generalize PP=p at *
 generalize a / p=q at *
 generalize a % p=r at *
 rw [show a+(p - r)=p+p * q by omega,Nat.add_mul_mod_self_left,Nat.mod_self]
theorem neg_sq (x:Nat):fmul (fsub 0 x) (fsub 0 x)=fmul x x:=by
 rw [fmul_neg,fmul_comm,fmul_neg,fneg_neg,fmul_flow]
theorem fneg_parity {x:Nat}(hx:x<PP)(h0:x≠0):fsub 0 x=PP - x:=by
 rw [fneg_def,Nat.mod_eq_of_lt hx,Nat.mod_eq_of_lt (by omega)]
theorem rootC_sq (a:Nat):fmul (rootC a) (rootC a)=fmul (rootB a) (rootB a):=by
 unfold rootC;split
 ·exact neg_sq _
 ·rfl
theorem rootC_even (a:Nat):rootC a % 2=0:=by
 unfold rootC;split
 ·rename_i h
  have h1:=rootB_P a
  have h2:=PP_odd
  rw [fneg_parity h1 (by omega)]
  omega
 ·omega
theorem isSq_iff {a:Nat}:isSq a=true↔fmul (rootB a) (rootB a)=flow a:=by unfold isSq;exact decide_eq_true_iff
end Go.Proofs.YtkendlnjaopbeaaGreatDoor
namespace Go.Proofs.YtkendlnjaopbeaaGreatDoor
set_option linter.unusedVariables false
theorem root_sq {a:Nat}(h:isSq a=true):fmul (froot a) (froot a)=flow a:=by
 unfold froot
 rw [if_pos h,rootC_sq]
 exact isSq_iff.1 h
theorem root_even (a:Nat):froot a % 2=0:=by
 unfold froot;split
 ·exact rootC_even a
 ·rfl
end Go.Proofs.YtkendlnjaopbeaaGreatDoor
namespace Go.Proofs.YtkendlnjaopbeaaGreatDoor
variable {p:Nat}[NeZero p]
theorem assocIdX (x1 y1 x2 y2 x3 y3 d a:Fin p):((x1*y2+y1*x2)*(1 - d*x1*x2*y1*y2)*y3+(y1*y2 - a*x1*x2)*(1+d*x1*x2*y1*y2)*x3) * ((1+d*x2*x3*y2*y3)*(1 - d*x2*x3*y2*y3)+d*(x2*y3+y2*x3)*(y2*y3 - a*x2*x3)*x1*y1) - ((x2*y3+y2*x3)*(1 - d*x2*x3*y2*y3)*y1+(y2*y3 - a*x2*x3)*(1+d*x2*x3*y2*y3)*x1) * ((1+d*x1*x2*y1*y2)*(1 - d*x1*x2*y1*y2)+d*(x1*y2+y1*x2)*(y1*y2 - a*x1*x2)*x3*y3) =
  (y1*x2*y2*y2*y2*y2*x3*x3*y3*d+y1*x2*x2*y2*y2*y2*x3*d - y1*x2*x2*y2*y2*y2*x3*x3*x3*d*a+y1*x2*x2*x2*y2*y2*y3*d - y1*x2*x2*x2*y2*y2*y3*y3*y3*d - y1*x2*x2*x2*y2*y2*y2*y2*x3*x3*y3*d*d+y1*x2*x2*x2*x2*y2*x3*y3*y3*d*a - y1*x2*x2*x2*x2*y2*y2*y2*x3*y3*y3*d*d - x1*x2*y2*y2*y2*y2*x3*y3*y3*d+x1*x2*x2*y2*y2*y2*y3*d - x1*x2*x2*y2*y2*y2*y3*y3*y3*d - x1*x2*x2*x2*y2*y2*x3*d*a+x1*x2*x2*x2*y2*y2*x3*x3*x3*d*a*a+x1*x2*x2*x2*y2*y2*y2*y2*x3*y3*y3*d*d+x1*x2*x2*x2*x2*y2*x3*x3*y3*d*a*a - x1*x2*x2*x2*x2*y2*y2*y2*x3*x3*y3*d*d*a) * (d*x1*x1*y1*y1 - y1*y1 - a*x1*x1+1) +
  (0 - y1*y2*x3+y1*y2*x3*y3*y3+y1*y2*x3*x3*x3*a - y1*y2*x3*x3*x3*y3*y3*d - y1*x2*y3+y1*x2*y3*y3*y3+y1*x2*x3*x3*y3*a - y1*x2*x3*x3*y3*y3*y3*d+y1*x2*y2*y2*x3*x3*y3*d+y1*x2*x2*y2*x3*y3*y3*d+y1*y1*y1*y2*x3 - y1*y1*y1*y2*x3*y3*y3 - y1*y1*y1*y2*x3*x3*x3*a+y1*y1*y1*y2*x3*x3*x3*y3*y3*d+y1*y1*y1*x2*y3 - y1*y1*y1*x2*y3*y3*y3 - y1*y1*y1*x2*x3*x3*y3*a+y1*y1*y1*x2*x3*x3*y3*y3*y3*d - y1*y1*y1*x2*y2*y2*x3*x3*y3*d - y1*y1*y1*x2*x2*y2*x3*y3*y3*d - x1*y2*y3+x1*y2*y3*y3*y3+x1*y2*x3*x3*y3*a - x1*y2*x3*x3*y3*y3*y3*d+x1*x2*x3*a - x1*x2*x3*y3*y3*a - x1*x2*x3*x3*x3*a*a+x1*x2*x3*x3*x3*y3*y3*d*a - x1*x2*y2*y2*x3*y3*y3*d+x1*x2*x2*y2*x3*x3*y3*d*a+x1*y1*y1*y2*y3 - x1*y1*y1*y2*y3*y3*y3 - x1*y1*y1*y2*x3*x3*y3*a+x1*y1*y1*y2*x3*x3*y3*y3*y3*d - x1*y1*y1*x2*x3*a+x1*y1*y1*x2*x3*y3*y3*a+x1*y1*y1*x2*x3*x3*x3*a*a - x1*y1*y1*x2*x3*x3*x3*y3*y3*d*a+x1*y1*y1*x2*y2*y2*x3*y3*y3*d - x1*y1*y1*x2*y2*y2*x3*x3*x3*y3*y3*d*d - x1*y1*y1*x2*x2*y2*x3*x3*y3*d*a+x1*y1*y1*x2*x2*y2*x3*x3*y3*y3*y3*d*d+x1*x1*y1*y2*x3*a - x1*x1*y1*y2*x3*y3*y3*a - x1*x1*y1*y2*x3*x3*x3*a*a+x1*x1*y1*y2*x3*x3*x3*y3*y3*d*a+x1*x1*y1*x2*y3*a - x1*x1*y1*x2*y3*y3*y3*a - x1*x1*y1*x2*x3*x3*y3*a*a+x1*x1*y1*x2*x3*x3*y3*y3*y3*d*a - x1*x1*y1*x2*y2*y2*x3*x3*y3*d*a+x1*x1*y1*x2*y2*y2*x3*x3*y3*y3*y3*d*d - x1*x1*y1*x2*x2*y2*x3*y3*y3*d*a+x1*x1*y1*x2*x2*y2*x3*x3*x3*y3*y3*d*d*a+x1*x1*x1*y2*y3*a - x1*x1*x1*y2*y3*y3*y3*a - x1*x1*x1*y2*x3*x3*y3*a*a+x1*x1*x1*y2*x3*x3*y3*y3*y3*d*a - x1*x1*x1*x2*x3*a*a+x1*x1*x1*x2*x3*y3*y3*a*a+x1*x1*x1*x2*x3*x3*x3*a*a*a - x1*x1*x1*x2*x3*x3*x3*y3*y3*d*a*a+x1*x1*x1*x2*y2*y2*x3*y3*y3*d*a - x1*x1*x1*x2*x2*y2*x3*x3*y3*d*a*a) * (d*x2*x2*y2*y2 - y2*y2 - a*x2*x2+1) +
  (y1*y2*x3 - y1*y2*y2*y2*x3+y1*x2*y3 - y1*x2*y2*y2*y3 - y1*x2*x2*y2*x3*a - y1*x2*x2*x2*y3*a - y1*y1*y1*y2*x3+y1*y1*y1*y2*y2*y2*x3 - y1*y1*y1*x2*y3+y1*y1*y1*x2*y2*y2*y3+y1*y1*y1*x2*x2*y2*x3*a+y1*y1*y1*x2*x2*x2*y3*a+x1*y2*y3 - x1*y2*y2*y2*y3 - x1*x2*x3*a+x1*x2*y2*y2*x3*a - x1*x2*x2*y2*y3*a+x1*x2*x2*x2*x3*a*a - x1*y1*y1*y2*y3+x1*y1*y1*y2*y2*y2*y3+x1*y1*y1*x2*x3*a - x1*y1*y1*x2*y2*y2*x3*a+x1*y1*y1*x2*y2*y2*x3*d+x1*y1*y1*x2*x2*y2*y3*a - x1*y1*y1*x2*x2*y2*y3*d - x1*y1*y1*x2*x2*x2*x3*a*a - x1*x1*y1*y2*x3*a+x1*x1*y1*y2*y2*y2*x3*a - x1*x1*y1*x2*y3*a+x1*x1*y1*x2*y2*y2*y3*a - x1*x1*y1*x2*y2*y2*y3*d+x1*x1*y1*x2*x2*y2*x3*a*a - x1*x1*y1*x2*x2*y2*x3*d*a+x1*x1*y1*x2*x2*x2*y3*a*a - x1*x1*x1*y2*y3*a+x1*x1*x1*y2*y2*y2*y3*a+x1*x1*x1*x2*x3*a*a - x1*x1*x1*x2*y2*y2*x3*a*a+x1*x1*x1*x2*x2*y2*y3*a*a - x1*x1*x1*x2*x2*x2*x3*a*a*a) * (d*x3*x3*y3*y3 - y3*y3 - a*x3*x3+1):=by grind
theorem assocIdY (x1 y1 x2 y2 x3 y3 d a:Fin p):((y1*y2 - a*x1*x2)*(1+d*x1*x2*y1*y2)*y3 - a*(x1*y2+y1*x2)*(1 - d*x1*x2*y1*y2)*x3) * ((1+d*x2*x3*y2*y3)*(1 - d*x2*x3*y2*y3) - d*(x2*y3+y2*x3)*(y2*y3 - a*x2*x3)*x1*y1) - ((y2*y3 - a*x2*x3)*(1+d*x2*x3*y2*y3)*y1 - a*(x2*y3+y2*x3)*(1 - d*x2*x3*y2*y3)*x1) * ((1+d*x1*x2*y1*y2)*(1 - d*x1*x2*y1*y2) - d*(x1*y2+y1*x2)*(y1*y2 - a*x1*x2)*x3*y3) =
  (0 - y1*x2*y2*y2*y2*y2*x3*y3*y3*d+y1*x2*x2*y2*y2*y2*y3*d - y1*x2*x2*y2*y2*y2*y3*y3*y3*d - y1*x2*x2*x2*y2*y2*x3*d*a+y1*x2*x2*x2*y2*y2*x3*x3*x3*d*a*a+y1*x2*x2*x2*y2*y2*y2*y2*x3*y3*y3*d*d+y1*x2*x2*x2*x2*y2*x3*x3*y3*d*a*a - y1*x2*x2*x2*x2*y2*y2*y2*x3*x3*y3*d*d*a - x1*x2*y2*y2*y2*y2*x3*x3*y3*d*a - x1*x2*x2*y2*y2*y2*x3*d*a+x1*x2*x2*y2*y2*y2*x3*x3*x3*d*a*a - x1*x2*x2*x2*y2*y2*y3*d*a+x1*x2*x2*x2*y2*y2*y3*y3*y3*d*a+x1*x2*x2*x2*y2*y2*y2*y2*x3*x3*y3*d*d*a - x1*x2*x2*x2*x2*y2*x3*y3*y3*d*a*a+x1*x2*x2*x2*x2*y2*y2*y2*x3*y3*y3*d*d*a) * (d*x1*x1*y1*y1 - y1*y1 - a*x1*x1+1) +
  (0 - y1*y2*y3+y1*y2*y3*y3*y3+y1*y2*x3*x3*y3*a - y1*y2*x3*x3*y3*y3*y3*d+y1*x2*x3*a - y1*x2*x3*y3*y3*a - y1*x2*x3*x3*x3*a*a+y1*x2*x3*x3*x3*y3*y3*d*a - y1*x2*y2*y2*x3*y3*y3*d+y1*x2*x2*y2*x3*x3*y3*d*a+y1*y1*y1*y2*y3 - y1*y1*y1*y2*y3*y3*y3 - y1*y1*y1*y2*x3*x3*y3*a+y1*y1*y1*y2*x3*x3*y3*y3*y3*d - y1*y1*y1*x2*x3*a+y1*y1*y1*x2*x3*y3*y3*a+y1*y1*y1*x2*x3*x3*x3*a*a - y1*y1*y1*x2*x3*x3*x3*y3*y3*d*a+y1*y1*y1*x2*y2*y2*x3*y3*y3*d - y1*y1*y1*x2*x2*y2*x3*x3*y3*d*a+x1*y2*x3*a - x1*y2*x3*y3*y3*a - x1*y2*x3*x3*x3*a*a+x1*y2*x3*x3*x3*y3*y3*d*a+x1*x2*y3*a - x1*x2*y3*y3*y3*a - x1*x2*x3*x3*y3*a*a+x1*x2*x3*x3*y3*y3*y3*d*a - x1*x2*y2*y2*x3*x3*y3*d*a - x1*x2*x2*y2*x3*y3*y3*d*a - x1*y1*y1*y2*x3*a+x1*y1*y1*y2*x3*y3*y3*a+x1*y1*y1*y2*x3*x3*x3*a*a - x1*y1*y1*y2*x3*x3*x3*y3*y3*d*a - x1*y1*y1*x2*y3*a+x1*y1*y1*x2*y3*y3*y3*a+x1*y1*y1*x2*x3*x3*y3*a*a - x1*y1*y1*x2*x3*x3*y3*y3*y3*d*a+x1*y1*y1*x2*y2*y2*x3*x3*y3*d*a - x1*y1*y1*x2*y2*y2*x3*x3*y3*y3*y3*d*d+x1*y1*y1*x2*x2*y2*x3*y3*y3*d*a - x1*y1*y1*x2*x2*y2*x3*x3*x3*y3*y3*d*d*a+x1*x1*y1*y2*y3*a - x1*x1*y1*y2*y3*y3*y3*a - x1*x1*y1*y2*x3*x3*y3*a*a+x1*x1*y1*y2*x3*x3*y3*y3*y3*d*a - x1*x1*y1*x2*x3*a*a+x1*x1*y1*x2*x3*y3*y3*a*a+x1*x1*y1*x2*x3*x3*x3*a*a*a - x1*x1*y1*x2*x3*x3*x3*y3*y3*d*a*a+x1*x1*y1*x2*y2*y2*x3*y3*y3*d*a - x1*x1*y1*x2*y2*y2*x3*x3*x3*y3*y3*d*d*a - x1*x1*y1*x2*x2*y2*x3*x3*y3*d*a*a+x1*x1*y1*x2*x2*y2*x3*x3*y3*y3*y3*d*d*a - x1*x1*x1*y2*x3*a*a+x1*x1*x1*y2*x3*y3*y3*a*a+x1*x1*x1*y2*x3*x3*x3*a*a*a - x1*x1*x1*y2*x3*x3*x3*y3*y3*d*a*a - x1*x1*x1*x2*y3*a*a+x1*x1*x1*x2*y3*y3*y3*a*a+x1*x1*x1*x2*x3*x3*y3*a*a*a - x1*x1*x1*x2*x3*x3*y3*y3*y3*d*a*a+x1*x1*x1*x2*y2*y2*x3*x3*y3*d*a*a+x1*x1*x1*x2*x2*y2*x3*y3*y3*d*a*a) * (d*x2*x2*y2*y2 - y2*y2 - a*x2*x2+1) +
  (y1*y2*y3 - y1*y2*y2*y2*y3 - y1*x2*x3*a+y1*x2*y2*y2*x3*a - y1*x2*x2*y2*y3*a+y1*x2*x2*x2*x3*a*a - y1*y1*y1*y2*y3+y1*y1*y1*y2*y2*y2*y3+y1*y1*y1*x2*x3*a - y1*y1*y1*x2*y2*y2*x3*a+y1*y1*y1*x2*x2*y2*y3*a - y1*y1*y1*x2*x2*x2*x3*a*a - x1*y2*x3*a+x1*y2*y2*y2*x3*a - x1*x2*y3*a+x1*x2*y2*y2*y3*a+x1*x2*x2*y2*x3*a*a+x1*x2*x2*x2*y3*a*a+x1*y1*y1*y2*x3*a - x1*y1*y1*y2*y2*y2*x3*a+x1*y1*y1*x2*y3*a - x1*y1*y1*x2*y2*y2*y3*a+x1*y1*y1*x2*y2*y2*y3*d - x1*y1*y1*x2*x2*y2*x3*a*a+x1*y1*y1*x2*x2*y2*x3*d*a - x1*y1*y1*x2*x2*x2*y3*a*a - x1*x1*y1*y2*y3*a+x1*x1*y1*y2*y2*y2*y3*a+x1*x1*y1*x2*x3*a*a - x1*x1*y1*x2*y2*y2*x3*a*a+x1*x1*y1*x2*y2*y2*x3*d*a+x1*x1*y1*x2*x2*y2*y3*a*a - x1*x1*y1*x2*x2*y2*y3*d*a - x1*x1*y1*x2*x2*x2*x3*a*a*a+x1*x1*x1*y2*x3*a*a - x1*x1*x1*y2*y2*y2*x3*a*a+x1*x1*x1*x2*y3*a*a - x1*x1*x1*x2*y2*y2*y3*a*a - x1*x1*x1*x2*x2*y2*x3*a*a*a - x1*x1*x1*x2*x2*x2*y3*a*a*a) * (d*x3*x3*y3*y3 - y3*y3 - a*x3*x3+1):=by grind
theorem closedId (x1 y1 x2 y2 d a:Fin p)(h1:d*x1*x1*y1*y1 - y1*y1 - a*x1*x1+1=0)(h2:d*x2*x2*y2*y2 - y2*y2 - a*x2*x2+1=0):a*(x1*y2+y1*x2)*(x1*y2+y1*x2)*(1 - d*x1*x2*y1*y2)*(1 - d*x1*x2*y1*y2)+(y1*y2 - a*x1*x2)*(y1*y2 - a*x1*x2)*(1+d*x1*x2*y1*y2)*(1+d*x1*x2*y1*y2)=(1+d*x1*x2*y1*y2)*(1+d*x1*x2*y1*y2)*(1 - d*x1*x2*y1*y2)*(1 - d*x1*x2*y1*y2)+d*(x1*y2+y1*x2)*(x1*y2+y1*x2)*(y1*y2 - a*x1*x2)*(y1*y2 - a*x1*x2):=by grind
end Go.Proofs.YtkendlnjaopbeaaGreatDoor
namespace Go.Proofs.YtkendlnjaopbeaaGreatDoor
set_option linter.unusedVariables false
structure Fl (n:Nat)[NeZero n] where
 inv:Fin n→Fin n
 mul_inv:∀ a:Fin n,a≠0→a * inv a=1
 mul_zero:∀ a b:Fin n,a * b=0→a=0∨b=0
 one_ne:(1:Fin n)≠0
 two_ne:(2:Fin n)≠0
variable {n:Nat}[NeZero n]{K:Fl n}
theorem sub_zero_eq {a b:Fin n}(h:a - b=0):a=b:=by grind
theorem mul_sub_zero {a b c:Fin n}(h:a * b=a * c):a * (b - c)=0:=by grind
theorem Fl.cancel (K:Fl n){a b c:Fin n}(ha:a≠0)(h:a * b=a * c):b=c:=by
 rcases K.mul_zero _ _ (mul_sub_zero h) with h1|h1
 ·exact absurd h1 ha
 ·exact sub_zero_eq h1
structure Ed (K:Fl n) where
 a:Fin n
 d:Fin n
 s:Fin n
 hs:s * s=a
 s0:s≠0
 nd:∀ w:Fin n,w * w≠d
structure P2 (n:Nat) where
 x:Fin n
 y:Fin n
set_option linter.unusedSectionVars false
theorem P2.ext' {p q:P2 n}(h:p.x=q.x)(k:p.y=q.y):p=q:=by cases p;cases q;cases h;cases k;rfl
def Ed.on (E:Ed K)(p:P2 n):Prop:=E.a * p.x * p.x+p.y * p.y=1+E.d * p.x * p.x * p.y * p.y
def Ed.dl (E:Ed K)(p q:P2 n):Fin n:=E.d * p.x * q.x * p.y * q.y
def Ed.add (E:Ed K)(p q:P2 n):P2 n:=⟨(p.x * q.y+p.y * q.x) * K.inv (1+E.dl p q),(p.y * q.y - E.a * p.x * q.x) * K.inv (1 - E.dl p q)⟩
def P2.zero:P2 n:=⟨0,1⟩
theorem on_poly {a d x y:Fin n}(h:a * x * x+y * y=1+d * x * x * y * y):d * x * x * y * y - y * y - a * x * x+1=0:=by grind
theorem two_zero {s x y:Fin n}(h1:s * x+1 * y=0)(h2:s * x+(0 - 1) * y=0):2 * (s * x)=0:=by grind
theorem neg_one_sq:(0 - 1:Fin n) * (0 - 1)=1:=by grind
theorem one_sq:(1:Fin n) * 1=1:=by grind
theorem Ed.d0 (E:Ed K):E.d≠0:=fun h=>E.nd 0 (by rw [h];grind)
theorem Ed.complete (E:Ed K){p q:P2 n}(hp:E.on p)(hq:E.on q)(h:E.dl p q * E.dl p q=1):False:=by
 obtain ⟨x1,y1⟩:=p
 obtain ⟨x2,y2⟩:=q
 obtain ⟨a,d,s,hs,s0,nd⟩:=E
 simp only [Ed.on,Ed.dl] at *
 have hd0:d≠0:=fun h0=>nd 0 (by rw [h0];grind)
 have hx1:x1≠0:=fun h0=>by
  rw [h0] at h
  exact K.one_ne (by grind)
 have hy1:y1≠0:=fun h0=>by
  rw [h0] at h
  exact K.one_ne (by grind)
 have hx2:x2≠0:=fun h0=>by
  rw [h0] at h
  exact K.one_ne (by grind)
 have e0:a * x1 * x1+y1 * y1=d * x1 * x1 * y1 * y1 * (a * x2 * x2+y2 * y2):=by
  rw [hq,hp]
  have:d * x1 * x1 * y1 * y1 * (1+d * x2 * x2 * y2 * y2)=d * x1 * x1 * y1 * y1+d * x1 * x2 * y1 * y2 * (d * x1 * x2 * y1 * y2):=by grind
  rw [this,h]
  grind
 have key:∀ t:Fin n,t * t=1→(s * x1+t * (d * x1 * x2 * y1 * y2) * y1) * (s * x1+t * (d * x1 * x2 * y1 * y2) * y1)=d * (x1 * y1) * (x1 * y1) * ((s * x2+t * y2) * (s * x2+t * y2)):=by
  intro t ht
  have:(s * x1+t * (d * x1 * x2 * y1 * y2) * y1) * (s * x1+t * (d * x1 * x2 * y1 * y2) * y1)=s * s * x1 * x1+t * t * (d * x1 * x2 * y1 * y2 * (d * x1 * x2 * y1 * y2)) * (y1 * y1)+2 * s * t * x1 * y1 * (d * x1 * x2 * y1 * y2):=by grind
  rw [this,h,hs,ht]
  have e1:a * x1 * x1+1 * 1 * (y1 * y1)=d * x1 * x1 * y1 * y1 * (a * x2 * x2+y2 * y2):=by rw [←e0];grind
  rw [e1,←hs]
  have e2:d * (x1 * y1) * (x1 * y1) * ((s * x2+t * y2) * (s * x2+t * y2))=d * (x1 * y1) * (x1 * y1) * (s * s * x2 * x2+t * t * (y2 * y2)+2 * s * t * x2 * y2):=by grind
  rw [e2,ht]
  grind
 have fin:∀ t:Fin n,t * t=1→s * x2+t * y2≠0→False:=fun t ht hne=>by
  have hz:x1 * y1 * (s * x2+t * y2)≠0:=fun h0=>by
   rcases K.mul_zero _ _ h0 with h1|h1
   ·rcases K.mul_zero _ _ h1 with h2|h2
    ·exact hx1 h2
    ·exact hy1 h2
   ·exact hne h1
  have hi:=K.mul_inv _ hz
  refine nd ((s * x1+t * (d * x1 * x2 * y1 * y2) * y1) * K.inv (x1 * y1 * (s * x2+t * y2))) ?_
  have k:=key t ht
  generalize K.inv (x1 * y1 * (s * x2+t * y2))=i at *
  generalize s * x1+t * (d * x1 * x2 * y1 * y2) * y1=u at *
  generalize s * x2+t * y2=v at *
  have:u * i * (u * i)=u * u * (i * i):=by grind
  rw [this,k]
  have:d * (x1 * y1) * (x1 * y1) * (v * v) * (i * i)=d * ((x1 * y1 * v * i) * (x1 * y1 * v * i)):=by grind
  rw [this,hi]
  grind
 by_cases h1:s * x2+1 * y2=0
 ·by_cases h2:s * x2+(0 - 1) * y2=0
  ·have:=two_zero h1 h2
   rcases K.mul_zero _ _ this with h3|h3
   ·exact K.two_ne h3
   ·rcases K.mul_zero _ _ h3 with h4|h4
    ·exact s0 h4
    ·exact hx2 h4
  ·exact fin (0 - 1) neg_one_sq h2
 ·exact fin 1 one_sq h1
theorem Ed.plus_ne (E:Ed K){p q:P2 n}(hp:E.on p)(hq:E.on q):1+E.dl p q≠0:=fun h=>E.complete hp hq (by grind)
theorem Ed.minus_ne (E:Ed K){p q:P2 n}(hp:E.on p)(hq:E.on q):1 - E.dl p q≠0:=fun h=>E.complete hp hq (by grind)
theorem Ed.add_spec (E:Ed K){p q:P2 n}(hp:E.on p)(hq:E.on q):(E.add p q).x * (1+E.dl p q)=p.x * q.y+p.y * q.x∧(E.add p q).y * (1 - E.dl p q)=p.y * q.y - E.a * p.x * q.x:=by
 have h1:=K.mul_inv _ (E.plus_ne hp hq)
 have h2:=K.mul_inv _ (E.minus_ne hp hq)
 unfold Ed.add
 dsimp only
 generalize K.inv (1+E.dl p q)=u at *
 generalize K.inv (1 - E.dl p q)=v at *
 generalize E.dl p q=t at *
 constructor
 ·have:(p.x * q.y+p.y * q.x) * u * (1+t)=(p.x * q.y+p.y * q.x) * ((1+t) * u):=by grind
  rw [this,h1];grind
 ·have:(p.y * q.y - E.a * p.x * q.x) * v * (1 - t)=(p.y * q.y - E.a * p.x * q.x) * ((1 - t) * v):=by grind
  rw [this,h2];grind
theorem Ed.add_of (E:Ed K){p q r:P2 n}(hp:E.on p)(hq:E.on q)(hx:r.x * (1+E.dl p q)=p.x * q.y+p.y * q.x)(hy:r.y * (1 - E.dl p q)=p.y * q.y - E.a * p.x * q.x):E.add p q=r:=by
 obtain ⟨kx,ky⟩:=E.add_spec hp hq
 apply P2.ext'
 ·exact K.cancel (E.plus_ne hp hq) (by rw [←hx] at kx;grind)
 ·exact K.cancel (E.minus_ne hp hq) (by rw [←hy] at ky;grind)
theorem Ed.zero_on (E:Ed K):E.on P2.zero:=by unfold Ed.on P2.zero;dsimp only;grind
theorem Ed.add_zero (E:Ed K){p:P2 n}(h:E.on p):E.add p P2.zero=p:=by
 refine E.add_of h E.zero_on ?_ ?_
 ·unfold Ed.dl P2.zero;dsimp only;grind
 ·unfold Ed.dl P2.zero;dsimp only;grind
theorem Ed.add_on (E:Ed K){p q:P2 n}(hp:E.on p)(hq:E.on q):E.on (E.add p q):=by
 obtain ⟨kx,ky⟩:=E.add_spec hp hq
 have n1:=E.plus_ne hp hq
 have n2:=E.minus_ne hp hq
 generalize E.add p q=r at *
 obtain ⟨x1,y1⟩:=p
 obtain ⟨x2,y2⟩:=q
 obtain ⟨x,y⟩:=r
 unfold Ed.on Ed.dl at *
 dsimp only at *
 have hD:(1+E.d * x1 * x2 * y1 * y2) * (1 - E.d * x1 * x2 * y1 * y2)≠0:=fun h0=>(K.mul_zero _ _ h0).elim n1 n2
 have e1:E.d * x1 * x1 * y1 * y1 - y1 * y1 - E.a * x1 * x1+1=0:=on_poly hp
 have e2:E.d * x2 * x2 * y2 * y2 - y2 * y2 - E.a * x2 * x2+1=0:=on_poly hq
 have id:=closedId x1 y1 x2 y2 E.d E.a e1 e2
 rw [←kx,←ky] at id
 generalize 1+E.d * x1 * x2 * y1 * y2=m at *
 generalize 1 - E.d * x1 * x2 * y1 * y2=n at *
 refine K.cancel hD (K.cancel hD ?_)
 clear n1 n2 hD kx ky hp hq e1 e2
 grind
theorem Ed.add_assoc (E:Ed K){p q r:P2 n}(hp:E.on p)(hq:E.on q)(hr:E.on r):E.add (E.add p q) r=E.add p (E.add q r):=by
 have h12:=E.add_on hp hq
 have h23:=E.add_on hq hr
 obtain ⟨kx,ky⟩:=E.add_spec hp hq
 obtain ⟨lx,ly⟩:=E.add_spec hq hr
 have n1:=E.plus_ne hp hq
 have n2:=E.minus_ne hp hq
 have m1:=E.plus_ne hq hr
 have m2:=E.minus_ne hq hr
 have w1:=E.plus_ne hp h23
 have w2:=E.minus_ne hp h23
 obtain ⟨ux,uy⟩:=E.add_spec hp h23
 generalize E.add p (E.add q r)=t at *
 generalize E.add p q=v at *
 generalize E.add q r=z at *
 refine E.add_of h12 hr ?_ ?_
 ·have id:=assocIdX p.x p.y q.x q.y r.x r.y E.d E.a
  have e1:E.d * p.x * p.x * p.y * p.y - p.y * p.y - E.a * p.x * p.x+1=0:=on_poly hp
  have e2:E.d * q.x * q.x * q.y * q.y - q.y * q.y - E.a * q.x * q.x+1=0:=on_poly hq
  have e3:E.d * r.x * r.x * r.y * r.y - r.y * r.y - E.a * r.x * r.x+1=0:=on_poly hr
  rw [e1,e2,e3] at id
  clear e1 e2 e3 hp hq hr h12 h23
  unfold Ed.dl at *
  rw [←kx,←ky,←lx,←ly] at id
  clear kx ky lx ly uy w2
  generalize 1+E.d * p.x * q.x * p.y * q.y=P at *
  generalize 1 - E.d * p.x * q.x * p.y * q.y=M at *
  generalize 1+E.d * q.x * r.x * q.y * r.y=P' at *
  generalize 1 - E.d * q.x * r.x * q.y * r.y=M' at *
  have hK:P * M * (P' * M')≠0:=fun h0=>(K.mul_zero _ _ h0).elim (fun h=>(K.mul_zero _ _ h).elim n1 n2) (fun h=>(K.mul_zero _ _ h).elim m1 m2)
  have key:P * M * (P' * M') * ((v.x * r.y+v.y * r.x) * (1+E.d * p.x * z.x * p.y * z.y))=P * M * (P' * M') * ((p.x * z.y+p.y * z.x) * (1+E.d * v.x * r.x * v.y * r.y)):=by
   clear ux w1 n1 n2 m1 m2 hK
   grind
  have k2:=K.cancel hK key
  clear key hK id n1 n2 m1 m2
  rw [←ux] at k2
  refine K.cancel w1 ?_
  clear ux w1
  grind
 ·have id:=assocIdY p.x p.y q.x q.y r.x r.y E.d E.a
  have e1:E.d * p.x * p.x * p.y * p.y - p.y * p.y - E.a * p.x * p.x+1=0:=on_poly hp
  have e2:E.d * q.x * q.x * q.y * q.y - q.y * q.y - E.a * q.x * q.x+1=0:=on_poly hq
  have e3:E.d * r.x * r.x * r.y * r.y - r.y * r.y - E.a * r.x * r.x+1=0:=on_poly hr
  rw [e1,e2,e3] at id
  clear e1 e2 e3 hp hq hr h12 h23
  unfold Ed.dl at *
  rw [←kx,←ky,←lx,←ly] at id
  clear kx ky lx ly ux w1
  generalize 1+E.d * p.x * q.x * p.y * q.y=P at *
  generalize 1 - E.d * p.x * q.x * p.y * q.y=M at *
  generalize 1+E.d * q.x * r.x * q.y * r.y=P' at *
  generalize 1 - E.d * q.x * r.x * q.y * r.y=M' at *
  have hK:P * M * (P' * M')≠0:=fun h0=>(K.mul_zero _ _ h0).elim (fun h=>(K.mul_zero _ _ h).elim n1 n2) (fun h=>(K.mul_zero _ _ h).elim m1 m2)
  have key:P * M * (P' * M') * ((v.y * r.y - E.a * v.x * r.x) * (1 - E.d * p.x * z.x * p.y * z.y))=P * M * (P' * M') * ((p.y * z.y - E.a * p.x * z.x) * (1 - E.d * v.x * r.x * v.y * r.y)):=by
   clear uy w2 n1 n2 m1 m2 hK
   grind
  have k2:=K.cancel hK key
  clear key hK id n1 n2 m1 m2
  rw [←uy] at k2
  refine K.cancel w2 ?_
  clear uy w2
  grind
end Go.Proofs.YtkendlnjaopbeaaGreatDoor
namespace Go.Proofs.YtkendlnjaopbeaaGreatDoor
set_option linter.unusedVariables false
set_option linter.unusedSectionVars false
variable {n:Nat}[NeZero n]{K:Fl n}
def Ed.smul (E:Ed K):Nat→P2 n→P2 n
 | 0,_=>P2.zero
 | k+1,p=>E.add (E.smul k p) p
section
variable (E:Ed K){p q r:P2 n}
theorem Ed.smul_on (hp:E.on p):∀ k,E.on (E.smul k p)
 | 0=>E.zero_on
 | k+1=>E.add_on (Ed.smul_on hp k) hp
theorem Ed.smul_add (hp:E.on p)(j:Nat):∀ k,E.smul (j+k) p=E.add (E.smul j p) (E.smul k p)
 | 0=>by rw [Nat.add_zero,Ed.smul,E.add_zero (E.smul_on hp j)]
 | k+1=>by
  rw [←Nat.add_assoc,Ed.smul,Ed.smul,Ed.smul_add hp j k,E.add_assoc (E.smul_on hp j) (E.smul_on hp k) hp]
theorem Ed.smul_double (hp:E.on p)(k:Nat):E.smul (2 * k) p=E.add (E.smul k p) (E.smul k p):=by rw [Nat.two_mul,E.smul_add hp]
end
structure Rep (x y z t:Fin n)(p:P2 n):Prop where
 z0:z≠0
 x:x=p.x * z
 y:y=p.y * z
 t:t=p.x * p.y * z
theorem rep_plus_id (d x1 y1 z1 x2 y2 z2:Fin n) :
  (y1*z1+x1*z1)*(y2*z2+x2*z2) - (y1*z1 - x1*z1)*(y2*z2 - x2*z2)=2*(z1*z2)*(x1*y2+y1*x2)∧
  (z1*z2+z1*z2) - ((x1*y1*z1)*(x2*y2*z2)*d+(x1*y1*z1)*(x2*y2*z2)*d)=2*(z1*z2)*(1 - d*x1*x2*y1*y2)∧
  (z1*z2+z1*z2)+((x1*y1*z1)*(x2*y2*z2)*d+(x1*y1*z1)*(x2*y2*z2)*d)=2*(z1*z2)*(1+d*x1*x2*y1*y2)∧
  (y1*z1+x1*z1)*(y2*z2+x2*z2)+(y1*z1 - x1*z1)*(y2*z2 - x2*z2)=2*(z1*z2)*(y1*y2+x1*x2):=by
 refine ⟨?_,?_,?_,?_⟩ <;> grind
theorem Rep.plus (E:Ed K)(ha:E.a=0 - 1){x1 y1 z1 t1 x2 y2 z2 t2:Fin n}{p q:P2 n}(hp:Rep x1 y1 z1 t1 p)(hq:Rep x2 y2 z2 t2 q)(op:E.on p)(oq:E.on q){e f g h:Fin n}
  (he:e=(y1+x1)*(y2+x2) - (y1 - x1)*(y2 - x2)) (hf:f=(z1*z2+z1*z2) - (t1*t2*E.d+t1*t2*E.d)) (hg:g=(z1*z2+z1*z2)+(t1*t2*E.d+t1*t2*E.d)) (hh:h=(y1+x1)*(y2+x2)+(y1 - x1)*(y2 - x2)) :
  Rep (e * f) (g * h) (f * g) (e * h) (E.add p q):=by
 obtain ⟨i1,i2,i3,i4⟩:=rep_plus_id E.d p.x p.y z1 q.x q.y z2
 rw [hp.x,hp.y,hq.x,hq.y] at he hh
 rw [hp.t,hq.t] at hf hg
 rw [i1] at he
 rw [i2] at hf
 rw [i3] at hg
 rw [i4] at hh
 have hz1:=hp.z0
 have hz2:=hq.z0
 obtain ⟨sx,sy⟩:=E.add_spec op oq
 have n1:=E.plus_ne op oq
 have n2:=E.minus_ne op oq
 generalize E.add p q=r at *
 unfold Ed.dl at *
 have hc:2 * (z1 * z2)≠0:=fun h0=>(K.mul_zero _ _ h0).elim K.two_ne (fun h=>(K.mul_zero _ _ h).elim hz1 hz2)
 clear i1 i2 i3 i4 hp hq hz1 hz2
 have sy':r.y * (1 - E.d * p.x * q.x * p.y * q.y)=p.y * q.y+p.x * q.x:=by rw [sy,ha];clear sy sx he hf hg hh n1 n2 hc;grind
 rw [←sx] at he
 rw [←sy'] at hh
 generalize 1+E.d * p.x * q.x * p.y * q.y=P at *
 generalize 1 - E.d * p.x * q.x * p.y * q.y=M at *
 generalize 2 * (z1 * z2)=c at *
 clear sx sy sy' op oq
 subst he hf hg hh
 refine ⟨fun h0=>(K.mul_zero _ _ h0).elim (fun h=>(K.mul_zero _ _ h).elim hc n2) (fun h=>(K.mul_zero _ _ h).elim hc n1),?_,?_,?_⟩
 ·clear hc n1 n2;grind
 ·clear hc n1 n2;grind
 ·clear hc n1 n2;grind
end Go.Proofs.YtkendlnjaopbeaaGreatDoor
namespace Go.Proofs.YtkendlnjaopbeaaGreatDoor
set_option linter.unusedVariables false
instance ne_PP:NeZero PP:=⟨by decide⟩
abbrev F:Type:=Fin PP
def toF (n:Nat):F:=Fin.ofNat PP n
theorem toF_val (n:Nat):(toF n).val=flow n:=by rw [flow_def];rfl
theorem toF_of (a:F):toF a.val=a:=by apply Fin.ext;rw [toF_val,flow_of a.isLt]
theorem toF_eq {m n:Nat}:toF m=toF n↔flow m=flow n:=by
 rw [←toF_val,←toF_val];exact ⟨fun h=>by rw [h],fun h=>Fin.ext h⟩
theorem toF_inj {m n:Nat}(hm:m<PP)(hn:n<PP)(h:toF m=toF n):m=n:=by
 rw [toF_eq,flow_of hm,flow_of hn] at h;exact h
theorem toF_mul (a b:Nat):toF (fmul a b)=toF a * toF b:=by
 apply Fin.ext
 rw [toF_val,fmul_flow,Fin.val_mul,toF_val,toF_val,←fmul_def,fmul_ff]
theorem toF_add (a b:Nat):toF (fadd a b)=toF a+toF b:=by
 apply Fin.ext
 rw [toF_val,flow_of (fadd_P _ _),Fin.val_add,toF_val,toF_val]
 simp only [fadd_def,flow_def]
 rw [←Nat.add_mod]
theorem toF_flow (a:Nat):toF (flow a)=toF a:=by rw [toF_eq,flow_of (flow_P a)]
theorem toF_zero:toF 0=0:=rfl
theorem toF_one:toF 1=1:=rfl
theorem toF_sub (a b:Nat):toF (fsub a b)=toF a - toF b:=by
 have h:=fsub_add a b
 have h2:=congrArg toF h
 rw [toF_add,toF_flow] at h2
 rw [←h2]
 generalize toF (fsub a b)=x
 generalize toF b=y
 grind
theorem F_mul_zero {a b:F}(h:a * b=0):a=0∨b=0:=by
 rw [←toF_of a,←toF_of b,←toF_mul,←toF_zero,toF_eq,fmul_flow,flow_of (show 0<PP by decide),fmul_zero_iff] at h
 rcases h with h|h
 ·left;rw [flow_of a.isLt] at h;exact Fin.ext h
 ·right;rw [flow_of b.isLt] at h;exact Fin.ext h
def Finv (a:F):F:=toF (finv a.val)
theorem toF_inv (n:Nat):toF (finv n)=Finv (toF n):=by unfold Finv;rw [toF_val,finv_flow]
theorem mul_Finv {a:F}(h:a≠0):a * Finv a=1:=by
 have h1:flow a.val≠0:=by
  rw [flow_of a.isLt];intro h2;exact h (Fin.ext h2)
 have h2:=congrArg toF (fmul_finv h1)
 rw [toF_mul,toF_of] at h2
 exact h2
theorem F_one_ne:(1:F)≠0:=fun h=>absurd (congrArg Fin.val h) (by decide)
theorem F_two_ne:(2:F)≠0:=fun h=>absurd (congrArg Fin.val h) (by decide)
theorem nonsq {n:Nat}(h0:flow n≠0)(h:qpowP PP n (2 * E2)≠1)(w:F):w * w≠toF n:=by
 intro hw
 rw [←toF_of w,←toF_mul,toF_eq,fmul_flow] at hw
 apply h
 rw [qpow_is,←fpow_def,←fpow_flow,←hw]
 have hw0:flow w.val≠0:=fun h1=>h0 (by rw [←hw];exact (fmul_zero_iff _ _).2 (.inl h1))
 obtain ⟨i,hi⟩:=is_pow2 hw0
 rw [←fmul_ff,hi,←fpow_add,fpow_fpow,←fpow_zero 2]
 apply fpow2_eq
 rw [PP_four,show (i+i) * (2 * E2)=4 * E2 * i by rw [←Nat.two_mul,Nat.mul_mul_mul_comm,show 2 * 2=4 by rfl,Nat.mul_comm i E2,Nat.mul_assoc],Nat.mul_mod_right,Nat.zero_mod]
end Go.Proofs.YtkendlnjaopbeaaGreatDoor
namespace Go.Proofs.YtkendlnjaopbeaaGreatDoor
set_option linter.unusedVariables false
def K0:Fl PP:=⟨Finv,fun _ h=>mul_Finv h,fun _ _ h=>F_mul_zero h,F_one_ne,F_two_ne⟩
def rootM:Nat:=19681161376707505956807079304988542015446066515923890162744021073123829784752
theorem DD_nonsq (w:F):w * w≠toF DD:=nonsq (n:=DD) (by rw [flow_def];decide +kernel) (by decide +kernel) w
theorem rootM_sq:toF rootM * toF rootM=0 - 1:=by decide +kernel
theorem rootM_ne:toF rootM≠0:=by decide +kernel
def E0:Ed K0:=⟨0 - 1,toF DD,toF rootM,rootM_sq,rootM_ne,DD_nonsq⟩
def Pt.f (p:Pt):P2 PP:=⟨toF p.x,toF p.y⟩
def Pt.red (p:Pt):Prop:=p.x<PP∧p.y<PP
theorem Pt.red.lt {p:Pt}(h:p.red):p.lt:=⟨Nat.lt_trans h.1 PP_lt,Nat.lt_trans h.2 PP_lt⟩
theorem on_iff_id {n:Nat}[NeZero n](d x y:Fin n):(y * y - x * x=1+d * (x * x * (y * y)))↔((0 - 1) * x * x+y * y=1+d * x * x * y * y):=by
 have e1:y * y - x * x=(0 - 1) * x * x+y * y:=by grind
 have e2:1+d * (x * x * (y * y))=1+d * x * x * y * y:=by grind
 rw [e1,e2]
theorem red_iff {a:Nat}:a=flow a↔a<PP:=⟨fun h=>h ▸ flow_P a,fun h=>(flow_of h).symm⟩
theorem on_iff (p:Pt):p.on↔p.red∧E0.on p.f:=by
 have key:p.eqn↔E0.on p.f:=by
  unfold Pt.eqn Ed.on
  show _↔(0 - 1) * toF p.x * toF p.x+toF p.y * toF p.y=1+toF DD * toF p.x * toF p.x * toF p.y * toF p.y
  rw [←on_iff_id]
  constructor
  ·intro h
   have:=congrArg toF h
   rw [toF_sub,toF_mul,toF_mul,toF_add,toF_mul,toF_mul,toF_mul,toF_mul,toF_one] at this
   exact this
  ·intro h
   apply toF_inj (fsub_P _ _) (fadd_P _ _)
   rw [toF_sub,toF_mul,toF_mul,toF_add,toF_mul,toF_mul,toF_mul,toF_mul,toF_one]
   exact h
 unfold Pt.on
 rw [red_iff,red_iff,key]
 exact ⟨fun ⟨a,b,c⟩=>⟨⟨a,b⟩,c⟩,fun ⟨⟨a,b⟩,c⟩=>⟨a,b,c⟩⟩
theorem Pt.on.red {p:Pt}(h:p.on):p.red:=((on_iff p).1 h).1
theorem Pt.on.f {p:Pt}(h:p.on):E0.on p.f:=((on_iff p).1 h).2
def Qd.rp (q:Qd)(P:P2 PP):Prop:=Rep (toF q.x) (toF q.y) (toF q.z) (toF q.t) P
theorem one_mul_id {n:Nat}[NeZero n](x:Fin n):x=x * 1:=by grind
theorem quad_rp (p:Pt):p.quad.rp p.f:=⟨F_one_ne,one_mul_id _,one_mul_id _,by
 show toF (fmul p.x p.y)=toF p.x * toF p.y * toF 1
 rw [toF_mul,toF_one];exact one_mul_id _⟩
theorem plus_rp {q r:Qd}{P Q:P2 PP}(hq:q.rp P)(hr:r.rp Q)(oP:E0.on P)(oQ:E0.on Q):(q.plus r).rp (E0.add P Q):=by
 have h:=Rep.plus E0 rfl hq hr oP oQ rfl rfl rfl rfl
 unfold Qd.rp Qd.plus
 dsimp only
 simp only [toF_mul,toF_add,toF_sub]
 exact h
theorem mul_inv_id {n:Nat}[NeZero n]{x z i:Fin n}(h:z * i=1):x * z * i=x:=by
 have:x * z * i=x * (z * i):=by grind
 rw [this,h];grind
theorem point_f {q:Qd}{P:P2 PP}(h:q.rp P):q.point.f=P:=by
 have hi:=mul_Finv h.z0
 apply P2.ext'
 ·show toF (fmul q.x (finv q.z))=P.x
  rw [toF_mul,toF_inv,h.x];exact mul_inv_id hi
 ·show toF (fmul q.y (finv q.z))=P.y
  rw [toF_mul,toF_inv,h.y];exact mul_inv_id hi
theorem point_red (q:Qd):q.point.red:=⟨fmul_P _ _,fmul_P _ _⟩
theorem zero_f:Pt.zero.f=P2.zero:=rfl
theorem add_f_pt {p q:Pt}(hp:p.on)(hq:q.on):(p.add q).f=E0.add p.f q.f:=point_f (plus_rp (quad_rp p) (quad_rp q) hp.f hq.f)
theorem add_red (p q:Pt):(p.add q).red:=point_red _
theorem add_on {p q:Pt}(hp:p.on)(hq:q.on):(p.add q).on:=(on_iff _).2 ⟨add_red p q,by rw [add_f_pt hp hq];exact E0.add_on hp.f hq.f⟩
theorem rep_rp {p:Pt}(hp:p.on)(m:Nat):∀ j,j≤blen m→(p.quad.rep m j).rp (E0.smul (m / 2 ^ (blen m - j)) p.f)
 | 0,_=>by
  rw [Nat.sub_zero,Nat.div_eq_of_lt (blen_le.1 (Nat.le_refl _))]
  show Pt.zero.quad.rp P2.zero
  rw [←zero_f]
  exact quad_rp _
 | j+1,hj=>by
  have ih:=rep_rp hp m j (by omega)
  have e:blen m - j=blen m - (j+1)+1:=by omega
  rw [e] at ih
  have d:m / 2 ^ (blen m - (j+1)+1)=m / 2 ^ (blen m - (j+1)) / 2:=by rw [Nat.pow_succ,Nat.div_div_eq_div_mul]
  rw [d] at ih
  have on':=E0.smul_on hp.f (m / 2 ^ (blen m - (j+1)) / 2)
  have h2:=plus_rp ih ih on' on'
  rw [←E0.smul_double hp.f] at h2
  unfold Qd.rep
  dsimp only
  generalize m / 2 ^ (blen m - (j+1))=k at *
  split
  ·rename_i h1
   have h3:=plus_rp h2 (quad_rp p) (E0.smul_on hp.f _) hp.f
   rw [show E0.add (E0.smul (2 * (k / 2)) p.f) p.f=E0.smul (2 * (k / 2)+1) p.f from rfl,show 2 * (k / 2)+1=k by omega] at h3
   exact h3
  ·rename_i h1
   rw [show 2 * (k / 2)=k by omega] at h2
   exact h2
theorem times_f {p:Pt}(hp:p.on)(m:Nat):(p.times m).f=E0.smul m p.f:=by
 have h:=rep_rp hp m (blen m) (Nat.le_refl _)
 rw [Nat.sub_self,Nat.pow_zero,Nat.div_one] at h
 exact point_f h
theorem times_red (p:Pt)(m:Nat):(p.times m).red:=point_red _
theorem times_on {p:Pt}(hp:p.on)(m:Nat):(p.times m).on:=(on_iff _).2 ⟨times_red p m,by rw [times_f hp];exact E0.smul_on hp.f m⟩
section
variable {p q r:Pt}(hp:p.on)(hq:q.on)(hr:r.on)
end
theorem base_red:Pt.base.red:=⟨by decide,by decide⟩
theorem base_on:Pt.base.on:=by
 refine ⟨red_iff.2 base_red.1,red_iff.2 base_red.2,?_⟩
 unfold Pt.eqn
 simp only [fsub_def,fmul_def,fadd_def]
 decide +kernel
end Go.Proofs.YtkendlnjaopbeaaGreatDoor
