/- Primes by what has as high an order as it can: plain laws,no program in sight. Certificates: 2^255 - 19 and the order of the base are primes. Printed by pratt.py. The field of 2^255 - 19 elements: no divisors of 0,inverses,roots: plain laws. More of roots: the root of a square is one of the two,the even one. The associative law of the curve: two identities,printed by genedw.py;over whatever modulus (a named one makes grind slow). The curve a*x^2+y^2=1+d*x^2*y^2,a a square,d none: its points are a group (EDWARDS;BERNSTEIN,LANGE). Plain laws,over whatever field of p elements. So often a point: laws. And points by four numbers (x*z,y*z,z,x*y*z). Plain laws. The field of 2^255 - 19 elements as a type,for laws of polynomials. The program's points are the curve's: plain laws. Packs of points: plain laws. When two rows of 32 bytes are told alike;a row of 32 bytes that came in. When two points are told alike;sealringkeep.sum,times,curves,pointed. Pack and Unpack joined to their laws. The package sign,walked: atLeast,base,New,challenge. -/
import Derived.Test.YtkendlnjaopbeaaGreatDoorJnAL
import Derived.Test.YtkendlnjaopbeaaGreatDoorJnAM
import Derived.Test.YtkendlnjaopbeaaGreatDoorJnAH
import Derived.Laws.StructEq
import Derived.Test.YtkendlnjaopbeaaGreatDoorUnpack
import Derived.Test.YtkendlnjaopbeaaGreatDoorJnAF
namespace Go.Proofs.YtkendlnjaopbeaaGreatDoor
set_option linter.unusedVariables false
def qpowF (p a:Nat):Nat→Nat→Nat
 | 0,_=>1 % p
 | f+1,n=>if n=0 then 1 % p else let h:=qpowF p a f (n / 2);if n % 2=1 then h * h % p * a % p else h * h % p
def qpowP (p a n:Nat):Nat:=qpowF p a (n.log2+1) n
theorem qpowF_is (p a:Nat):∀ f n,n<2 ^ f→qpowF p a f n=a ^ n % p
 | 0,n,h=>by
  have:n=0:=by simpa using h
  subst this;rfl
 | f+1,n,h=>by
  unfold qpowF
  by_cases h0:n=0
  ·subst h0;rfl
  ·rw [if_neg h0]
   have ih:=qpowF_is p a f (n / 2) (by rw [Nat.pow_succ] at h;omega)
   dsimp only
   rw [ih]
   by_cases h1:n % 2=1
   ·rw [if_pos h1,←Nat.mul_mod,←Nat.pow_add,Nat.mod_mul_mod,←Nat.pow_succ,show (n / 2+n / 2).succ=n by omega]
   ·rw [if_neg h1,Nat.mod_mul_mod,Nat.mul_mod_mod,←Nat.pow_add,show n / 2+n / 2=n by omega]
theorem qpow_is (p a n:Nat):qpowP p a n=a ^ n % p:=qpowF_is p a _ n Nat.lt_log2_self
def Prime (p:Nat):Prop:=2≤p∧∀ d,d ∣ p→d=1∨d=p
theorem Prime.pos {p:Nat}(h:Prime p):0<p:=by have:=h.1;omega
theorem Prime.coprime {p a:Nat}(h:Prime p)(ha:¬p ∣ a):Nat.gcd a p=1:=by
 rcases h.2 _ (Nat.gcd_dvd_right a p) with h1|h1
 ·exact h1
 ·exact absurd (h1 ▸ Nat.gcd_dvd_left a p) ha
theorem Prime.dvd_mul {p a b:Nat}(h:Prime p)(hd:p ∣ a * b):p ∣ a∨p ∣ b:=by
 by_cases ha:p ∣ a
 ·exact .inl ha
 ·refine .inr ?_
  have hc:Nat.Coprime p a:=by rw [Nat.coprime_comm];exact h.coprime ha
  exact hc.dvd_of_dvd_mul_left hd
theorem Prime.dvd_pow {p a:Nat}(h:Prime p):∀ {n:Nat},p ∣ a ^ n→p ∣ a
 | 0,hd=>by
  rw [Nat.pow_zero] at hd
  have:=Nat.le_of_dvd (by decide) hd
  have:=h.1
  omega
 | n+1,hd=>by
  rw [Nat.pow_succ] at hd
  rcases h.dvd_mul hd with h1|h1
  ·exact h.dvd_pow h1
  ·exact h1
def IsOrd (p g k:Nat):Prop:=0<k∧g ^ k % p=1∧∀ j,0<j→g ^ j % p=1→k≤j
theorem exists_ord {p g n:Nat}(hn:0<n)(h:g ^ n % p=1):∃ k,IsOrd p g k:=by
 have key:∀ m,(∃ j,0<j∧j≤m∧g ^ j % p=1)→∃ k,IsOrd p g k:=by
  intro m
  induction m with
  | zero=>rintro ⟨j,h1,h2,-⟩;omega
  | succ m ih=>
   rintro ⟨j,h1,h2,h3⟩
   by_cases hm:∃ j,0<j∧j≤m∧g ^ j % p=1
   ·exact ih hm
   ·refine ⟨j,h1,h3,fun i hi hp=>?_⟩
    have:¬i≤m:=fun hle=>hm ⟨i,hi,hle,hp⟩
    omega
 exact key n ⟨n,hn,Nat.le_refl _,h⟩
theorem one_mod {p:Nat}(hp:2≤p):1 % p=1:=Nat.mod_eq_of_lt hp
theorem pow_mod_mul {p g m n:Nat}:g ^ (m * n) % p=(g ^ m % p) ^ n % p:=by rw [Nat.pow_mul,Nat.pow_mod]
theorem ord_dvd {p g k n:Nat}(hp:2≤p)(ho:IsOrd p g k)(h:g ^ n % p=1):k ∣ n:=by
 obtain ⟨h0,h1,h2⟩:=ho
 have e:g ^ n % p=g ^ (n % k) % p:=by
  have hd:=Nat.mod_add_div n k
  conv=>lhs;rw [←hd]
  rw [Nat.pow_add,Nat.mul_mod,pow_mod_mul,h1,Nat.one_pow,one_mod hp,Nat.mul_one,Nat.mod_mod]
 rw [e] at h
 rcases Nat.eq_zero_or_pos (n % k) with h3|h3
 ·exact Nat.dvd_of_mod_eq_zero h3
 ·have:=h2 _ h3 h
  have:=Nat.mod_lt n h0
  omega
theorem exists_prime {n:Nat}(h:2≤n):∃ q,Prime q∧q ∣ n:=by
 induction n using Nat.strongRecOn with
 | _ n ih=>
  by_cases hp:Prime n
  ·exact ⟨n,hp,Nat.dvd_refl n⟩
  ·have:∃ d,d ∣ n∧d≠1∧d≠n:=by
    apply Classical.byContradiction
    intro hno
    refine hp ⟨h,fun d hd=>?_⟩
    apply Classical.byContradiction
    intro hn
    exact hno ⟨d,hd,fun e=>hn (.inl e),fun e=>hn (.inr e)⟩
   obtain ⟨d,hd,h1,h2⟩:=this
   have hle:=Nat.le_of_dvd (by omega) hd
   have h0:d≠0:=fun e=>by subst e;rw [Nat.zero_dvd] at hd;omega
   obtain ⟨q,hq,hqd⟩:=ih d (by omega) (by omega)
   exact ⟨q,hq,Nat.dvd_trans hqd hd⟩
theorem prime_of_prod {q:Nat}(hq:Prime q):∀ (l:List Nat),(∀ x∈l,Prime x)→q ∣ l.foldr (· * ·) 1→q∈l
 | [],_,h=>by
  have:=Nat.le_of_dvd (by decide) h
  have:=hq.1
  simp only [List.foldr_nil] at *
  omega
 | x::l,hl,h=>by
  rw [List.foldr_cons] at h
  rcases hq.dvd_mul h with h1|h1
  ·rcases (hl x List.mem_cons_self).2 q h1 with h2|h2
   ·have:=hq.1;omega
   ·exact h2 ▸ List.mem_cons_self
  ·exact List.mem_cons_of_mem _ (prime_of_prod hq l (fun y hy=>hl y (List.mem_cons_of_mem _ hy)) h1)
theorem ord_full {p g n:Nat}{l:List Nat}(hp:2≤p)(hl:∀ x∈l,Prime x)(hn:n=l.foldr (· * ·) 1)(h1:g ^ n % p=1)(hq:∀ q∈l,g ^ (n / q) % p≠1)(h0:0<n):IsOrd p g n:=by
 obtain ⟨k,ho⟩:=exists_ord h0 h1
 obtain ⟨c,hc⟩:=ord_dvd hp ho h1
 by_cases h2:2≤c
 ·obtain ⟨q,hqp,d,hd⟩:=exists_prime h2
  have hqn:q ∣ n:=⟨k * d,by rw [hc,hd,Nat.mul_left_comm]⟩
  have hm:=prime_of_prod hqp l hl (hn ▸ hqn)
  refine absurd ?_ (hq q hm)
  have:n / q=k * d:=by
   rw [hc,hd,Nat.mul_left_comm,Nat.mul_div_cancel_left _ hqp.pos]
  rw [this,pow_mod_mul,ho.2.1,Nat.one_pow,one_mod hp]
 ·have:c=1:=by
   rcases Nat.eq_zero_or_pos c with hz|hz
   ·subst hz;omega
   ·omega
  subst this
  rw [Nat.mul_one] at hc
  rw [hc];exact ho
theorem ord_inj {p g n i j:Nat}(hp:2≤p)(ho:IsOrd p g n)(hi:i<n)(hj:j<n)(h:g ^ i % p=g ^ j % p):i=j:=by
 have key:∀ i j,i<j→j<n→g ^ i % p=g ^ j % p→False:=by
  intro i j hij hj h
  have e:g ^ (j+(n - j)) % p=g ^ (i+(n - j)) % p:=by rw [Nat.pow_add,Nat.pow_add,Nat.mul_mod,←h,←Nat.mul_mod]
  rw [show j+(n - j)=n by omega,ho.2.1] at e
  have:=ho.2.2 (i+(n - j)) (by omega) e.symm
  omega
 rcases Nat.lt_trichotomy i j with h1|h1|h1
 ·exact (key i j h1 hj h).elim
 ·exact h1
 ·exact (key j i h1 hi h.symm).elim
theorem surj_of_inj:∀ (n:Nat) (f:Nat→Nat),(∀ i,i<n→f i<n)→(∀ i j,i<n→j<n→f i=f j→i=j)→∀ y,y<n→∃ i,i<n∧f i=y
 | 0,_,_,_,y,hy=>by omega
 | n+1,f,hf,hi,y,hy=>by
  let g:Nat→Nat:=fun i=>if f i=n then f n else f i
  have hg:∀ i,i<n→g i<n:=fun i hin=>by
   show (if f i=n then f n else f i)<n
   have h1:=hf i (by omega)
   have h2:=hf n (by omega)
   split
   ·rename_i e
    rcases Nat.lt_or_ge (f n) n with h|h
    ·exact h
    ·have:f n=f i:=by omega
     have:=hi n i (by omega) (by omega) this
     omega
   ·omega
  have hgi:∀ i j,i<n→j<n→g i=g j→i=j:=fun i j hin hjn h=>by
   replace h:(if f i=n then f n else f i)=(if f j=n then f n else f j):=h
   split at h <;> split at h
   ·rename_i a b;exact hi i j (by omega) (by omega) (a.trans b.symm)
   ·have:=hi n j (by omega) (by omega) h;omega
   ·have:=hi i n (by omega) (by omega) h;omega
   ·exact hi i j (by omega) (by omega) h
  have ih:=surj_of_inj n g hg hgi
  by_cases hyn:y<n
  ·obtain ⟨i,h1,h2⟩:=ih y hyn
   replace h2:(if f i=n then f n else f i)=y:=h2
   split at h2
   ·exact ⟨n,by omega,h2⟩
   ·exact ⟨i,by omega,h2⟩
  ·have hy':y=n:=by omega
   subst hy'
   apply Classical.byContradiction
   intro hno
   have hne:∀ i,i<y+1→f i≠y:=fun i h1 h2=>hno ⟨i,h1,h2⟩
   have hfn:f y<y:=by have:=hf y (by omega);have:=hne y (by omega);omega
   obtain ⟨i,h1,h2⟩:=ih (f y) hfn
   replace h2:(if f i=y then f y else f i)=f y:=h2
   rw [if_neg (hne i (by omega))] at h2
   have:=hi i y (by omega) (by omega) h2
   omega
theorem gen_all {p g:Nat}(hp:2≤p)(ho:IsOrd p g (p - 1)):∀ a,0<a→a<p→∃ i,i<p - 1∧g ^ i % p=a:=by
 have hne:∀ i,i<p - 1→0<g ^ i % p:=fun i hi=>by
  rcases Nat.eq_zero_or_pos (g ^ i % p) with h|h
  ·exfalso
   have:g ^ (i+(p - 1 - i)) % p=0:=by rw [Nat.pow_add,Nat.mul_mod,h,Nat.zero_mul,Nat.zero_mod]
   rw [show i+(p - 1 - i)=p - 1 by omega,ho.2.1] at this
   omega
  ·exact h
 intro a h0 ha
 obtain ⟨i,h1,h2⟩:=surj_of_inj (p - 1) (fun i=>g ^ i % p - 1) (fun i hi=>by have:=hne i hi;have:=Nat.mod_lt (g ^ i) (show 0<p by omega);omega)
  (fun i j hi hj h=>ord_inj hp ho hi hj (by have:=hne i hi;have:=hne j hj;omega)) (a - 1) (by omega)
 refine ⟨i,h1,?_⟩
 have:=hne i h1
 omega
theorem prime_of_ord {p g:Nat}(hp:2≤p)(ho:IsOrd p g (p - 1)):Prime p:=by
 refine ⟨hp,fun d hd=>?_⟩
 have hle:=Nat.le_of_dvd (by omega) hd
 have h0:0<d:=by
  rcases Nat.eq_zero_or_pos d with h|h
  ·subst h;rw [Nat.zero_dvd] at hd;omega
  ·exact h
 rcases Nat.lt_or_ge d p with hlt|hge
 ·left
  obtain ⟨i,hi,he⟩:=gen_all hp ho d h0 hlt
  have h1:d * g ^ (p - 1 - i) % p=1:=by
   rw [←he,Nat.mod_mul_mod,←Nat.pow_add,show i+(p - 1 - i)=p - 1 by omega];exact ho.2.1
  have h2:d ∣ 1:=by
   rw [←h1]
   exact (Nat.dvd_mod_iff hd).2 (Nat.dvd_mul_right d _)
  exact Nat.le_antisymm (Nat.le_of_dvd (by decide) h2) h0
 ·right;omega
def certB (p g:Nat)(l:List Nat):Bool:=decide (2≤p) && decide (p - 1=l.foldr (· * ·) 1) && decide (qpowP p g (p - 1)=1) && l.all fun q=>decide (qpowP p g ((p - 1) / q)≠1)
theorem cert_ord {p g:Nat}{l:List Nat}(h:certB p g l=true)(hl:∀ x∈l,Prime x):IsOrd p g (p - 1):=by
 simp only [certB,Bool.and_eq_true,decide_eq_true_eq,List.all_eq_true] at h
 obtain ⟨⟨⟨h1,h2⟩,h3⟩,h4⟩:=h
 rw [qpow_is] at h3
 exact ord_full h1 hl h2 h3 (fun q hq=>by have:=h4 q hq;rwa [qpow_is] at this) (by omega)
theorem cert_prime {p g:Nat}{l:List Nat}(h:certB p g l=true)(hl:∀ x∈l,Prime x):Prime p:=by
 have h1:2≤p:=by
  simp only [certB,Bool.and_eq_true,decide_eq_true_eq] at h
  exact h.1.1.1
 exact prime_of_ord h1 (cert_ord h hl)
def smallB (p:Nat):Bool:=decide (2≤p) && (List.range p).all fun d=>decide (d * d>p) || decide (d≤1) || decide (p % d≠0)
theorem small_prime {p:Nat}(h:smallB p=true):Prime p:=by
 simp only [smallB,Bool.and_eq_true,decide_eq_true_eq,List.all_eq_true,List.mem_range,Bool.or_eq_true] at h
 obtain ⟨h1,h2⟩:=h
 refine ⟨h1,fun d hd=>?_⟩
 obtain ⟨c,hc⟩:=hd
 have h0:0<d:=Nat.pos_of_ne_zero fun e=>by subst e;omega
 have c0:0<c:=Nat.pos_of_ne_zero fun e=>by subst e;omega
 have key:∀ x y,0<x→0<y→p=x * y→x≤y→x=1:=fun x y hx hy he hle=>by
  by_cases hx1:x≤1
  ·omega
  ·exfalso
   have hxp:x<p:=by
    have:x * 2≤x * y:=Nat.mul_le_mul_left x (by omega)
    omega
   rcases h2 x hxp with (h3|h3)|h3
   ·have:x * x≤x * y:=Nat.mul_le_mul_left x hle
    omega
   ·omega
   ·exact h3 (by rw [he];exact Nat.mul_mod_right x y)
 rcases Nat.le_total d c with h3|h3
 ·exact .inl (key d c h0 c0 hc h3)
 ·have:=key c d c0 h0 (by rw [hc,Nat.mul_comm]) h3
  subst this
  right;omega
end Go.Proofs.YtkendlnjaopbeaaGreatDoor
namespace Go.Proofs.YtkendlnjaopbeaaGreatDoor
theorem prime_2:Prime 2:=small_prime (by decide +kernel)
theorem prime_3:Prime 3:=small_prime (by decide +kernel)
theorem prime_5:Prime 5:=small_prime (by decide +kernel)
theorem prime_7:Prime 7:=small_prime (by decide +kernel)
theorem prime_11:Prime 11:=small_prime (by decide +kernel)
theorem prime_13:Prime 13:=small_prime (by decide +kernel)
theorem prime_17:Prime 17:=small_prime (by decide +kernel)
theorem prime_19:Prime 19:=small_prime (by decide +kernel)
theorem prime_23:Prime 23:=small_prime (by decide +kernel)
theorem prime_29:Prime 29:=small_prime (by decide +kernel)
theorem prime_31:Prime 31:=small_prime (by decide +kernel)
theorem prime_37:Prime 37:=small_prime (by decide +kernel)
theorem prime_41:Prime 41:=small_prime (by decide +kernel)
theorem prime_43:Prime 43:=small_prime (by decide +kernel)
theorem prime_47:Prime 47:=small_prime (by decide +kernel)
theorem prime_53:Prime 53:=small_prime (by decide +kernel)
theorem prime_59:Prime 59:=small_prime (by decide +kernel)
theorem prime_83:Prime 83:=small_prime (by decide +kernel)
theorem prime_97:Prime 97:=small_prime (by decide +kernel)
theorem cert_239:certB 239 7 [2,7,17]=true:=by decide +kernel
theorem parts_239:∀ x∈([2,7,17]:List Nat),Prime x:=by
 intro x hx
 simp only [List.mem_cons,List.not_mem_nil,or_false] at hx
 rcases hx with rfl|rfl|rfl
 ·exact prime_2
 ·exact prime_7
 ·exact prime_17
theorem prime_239:Prime 239:=cert_prime cert_239 parts_239
theorem cert_479:certB 479 13 [2,239]=true:=by decide +kernel
theorem parts_479:∀ x∈([2,239]:List Nat),Prime x:=by
 intro x hx
 simp only [List.mem_cons,List.not_mem_nil,or_false] at hx
 rcases hx with rfl|rfl
 ·exact prime_2
 ·exact prime_239
theorem prime_479:Prime 479:=cert_prime cert_479 parts_479
theorem cert_32573:certB 32573 2 [2,2,17,479]=true:=by decide +kernel
theorem parts_32573:∀ x∈([2,2,17,479]:List Nat),Prime x:=by
 intro x hx
 simp only [List.mem_cons,List.not_mem_nil,or_false] at hx
 rcases hx with rfl|rfl|rfl|rfl
 ·exact prime_2
 ·exact prime_2
 ·exact prime_17
 ·exact prime_479
theorem prime_32573:Prime 32573:=cert_prime cert_32573 parts_32573
theorem cert_65147:certB 65147 2 [2,32573]=true:=by decide +kernel
theorem parts_65147:∀ x∈([2,32573]:List Nat),Prime x:=by
 intro x hx
 simp only [List.mem_cons,List.not_mem_nil,or_false] at hx
 rcases hx with rfl|rfl
 ·exact prime_2
 ·exact prime_32573
theorem prime_65147:Prime 65147:=cert_prime cert_65147 parts_65147
theorem cert_353:certB 353 3 [2,2,2,2,2,11]=true:=by decide +kernel
theorem parts_353:∀ x∈([2,2,2,2,2,11]:List Nat),Prime x:=by
 intro x hx
 simp only [List.mem_cons,List.not_mem_nil,or_false] at hx
 rcases hx with rfl|rfl|rfl|rfl|rfl|rfl
 ·exact prime_2
 ·exact prime_2
 ·exact prime_2
 ·exact prime_2
 ·exact prime_2
 ·exact prime_11
theorem prime_353:Prime 353:=cert_prime cert_353 parts_353
theorem cert_487:certB 487 3 [2,3,3,3,3,3]=true:=by decide +kernel
theorem parts_487:∀ x∈([2,3,3,3,3,3]:List Nat),Prime x:=by
 intro x hx
 simp only [List.mem_cons,List.not_mem_nil,or_false] at hx
 rcases hx with rfl|rfl|rfl|rfl|rfl|rfl
 ·exact prime_2
 ·exact prime_3
 ·exact prime_3
 ·exact prime_3
 ·exact prime_3
 ·exact prime_3
theorem prime_487:Prime 487:=cert_prime cert_487 parts_487
theorem cert_57467:certB 57467 2 [2,59,487]=true:=by decide +kernel
theorem parts_57467:∀ x∈([2,59,487]:List Nat),Prime x:=by
 intro x hx
 simp only [List.mem_cons,List.not_mem_nil,or_false] at hx
 rcases hx with rfl|rfl|rfl
 ·exact prime_2
 ·exact prime_59
 ·exact prime_487
theorem prime_57467:Prime 57467:=cert_prime cert_57467 parts_57467
theorem cert_131:certB 131 2 [2,5,13]=true:=by decide +kernel
theorem parts_131:∀ x∈([2,5,13]:List Nat),Prime x:=by
 intro x hx
 simp only [List.mem_cons,List.not_mem_nil,or_false] at hx
 rcases hx with rfl|rfl|rfl
 ·exact prime_2
 ·exact prime_5
 ·exact prime_13
theorem prime_131:Prime 131:=cert_prime cert_131 parts_131
theorem cert_132049:certB 132049 26 [2,2,2,2,3,3,7,131]=true:=by decide +kernel
theorem parts_132049:∀ x∈([2,2,2,2,3,3,7,131]:List Nat),Prime x:=by
 intro x hx
 simp only [List.mem_cons,List.not_mem_nil,or_false] at hx
 rcases hx with rfl|rfl|rfl|rfl|rfl|rfl|rfl|rfl
 ·exact prime_2
 ·exact prime_2
 ·exact prime_2
 ·exact prime_2
 ·exact prime_3
 ·exact prime_3
 ·exact prime_7
 ·exact prime_131
theorem prime_132049:Prime 132049:=cert_prime cert_132049 parts_132049
theorem cert_3727:certB 3727 3 [2,3,3,3,3,23]=true:=by decide +kernel
theorem parts_3727:∀ x∈([2,3,3,3,3,23]:List Nat),Prime x:=by
 intro x hx
 simp only [List.mem_cons,List.not_mem_nil,or_false] at hx
 rcases hx with rfl|rfl|rfl|rfl|rfl|rfl
 ·exact prime_2
 ·exact prime_3
 ·exact prime_3
 ·exact prime_3
 ·exact prime_3
 ·exact prime_23
theorem prime_3727:Prime 3727:=cert_prime cert_3727 parts_3727
theorem cert_1923133:certB 1923133 2 [2,2,3,43,3727]=true:=by decide +kernel
theorem parts_1923133:∀ x∈([2,2,3,43,3727]:List Nat),Prime x:=by
 intro x hx
 simp only [List.mem_cons,List.not_mem_nil,or_false] at hx
 rcases hx with rfl|rfl|rfl|rfl|rfl
 ·exact prime_2
 ·exact prime_2
 ·exact prime_3
 ·exact prime_43
 ·exact prime_3727
theorem prime_1923133:Prime 1923133:=cert_prime cert_1923133 parts_1923133
theorem cert_107:certB 107 2 [2,53]=true:=by decide +kernel
theorem parts_107:∀ x∈([2,53]:List Nat),Prime x:=by
 intro x hx
 simp only [List.mem_cons,List.not_mem_nil,or_false] at hx
 rcases hx with rfl|rfl
 ·exact prime_2
 ·exact prime_53
theorem prime_107:Prime 107:=cert_prime cert_107 parts_107
theorem cert_223:certB 223 3 [2,3,37]=true:=by decide +kernel
theorem parts_223:∀ x∈([2,3,37]:List Nat),Prime x:=by
 intro x hx
 simp only [List.mem_cons,List.not_mem_nil,or_false] at hx
 rcases hx with rfl|rfl|rfl
 ·exact prime_2
 ·exact prime_3
 ·exact prime_37
theorem prime_223:Prime 223:=cert_prime cert_223 parts_223
theorem cert_173:certB 173 2 [2,2,43]=true:=by decide +kernel
theorem parts_173:∀ x∈([2,2,43]:List Nat),Prime x:=by
 intro x hx
 simp only [List.mem_cons,List.not_mem_nil,or_false] at hx
 rcases hx with rfl|rfl|rfl
 ·exact prime_2
 ·exact prime_2
 ·exact prime_43
theorem prime_173:Prime 173:=cert_prime cert_173 parts_173
theorem cert_4153:certB 4153 5 [2,2,2,3,173]=true:=by decide +kernel
theorem parts_4153:∀ x∈([2,2,2,3,173]:List Nat),Prime x:=by
 intro x hx
 simp only [List.mem_cons,List.not_mem_nil,or_false] at hx
 rcases hx with rfl|rfl|rfl|rfl|rfl
 ·exact prime_2
 ·exact prime_2
 ·exact prime_2
 ·exact prime_3
 ·exact prime_173
theorem prime_4153:Prime 4153:=cert_prime cert_4153 parts_4153
theorem cert_1723:certB 1723 3 [2,3,7,41]=true:=by decide +kernel
theorem parts_1723:∀ x∈([2,3,7,41]:List Nat),Prime x:=by
 intro x hx
 simp only [List.mem_cons,List.not_mem_nil,or_false] at hx
 rcases hx with rfl|rfl|rfl|rfl
 ·exact prime_2
 ·exact prime_3
 ·exact prime_7
 ·exact prime_41
theorem prime_1723:Prime 1723:=cert_prime cert_1723 parts_1723
theorem cert_430751:certB 430751 17 [2,5,5,5,1723]=true:=by decide +kernel
theorem parts_430751:∀ x∈([2,5,5,5,1723]:List Nat),Prime x:=by
 intro x hx
 simp only [List.mem_cons,List.not_mem_nil,or_false] at hx
 rcases hx with rfl|rfl|rfl|rfl|rfl
 ·exact prime_2
 ·exact prime_5
 ·exact prime_5
 ·exact prime_5
 ·exact prime_1723
theorem prime_430751:Prime 430751:=cert_prime cert_430751 parts_430751
theorem cert_31757755568855353:certB 31757755568855353 10 [2,2,2,3,31,107,223,4153,430751]=true:=by decide +kernel
theorem parts_31757755568855353:∀ x∈([2,2,2,3,31,107,223,4153,430751]:List Nat),Prime x:=by
 intro x hx
 simp only [List.mem_cons,List.not_mem_nil,or_false] at hx
 rcases hx with rfl|rfl|rfl|rfl|rfl|rfl|rfl|rfl|rfl
 ·exact prime_2
 ·exact prime_2
 ·exact prime_2
 ·exact prime_3
 ·exact prime_31
 ·exact prime_107
 ·exact prime_223
 ·exact prime_4153
 ·exact prime_430751
theorem prime_31757755568855353:Prime 31757755568855353:=cert_prime cert_31757755568855353 parts_31757755568855353
theorem cert_9463:certB 9463 3 [2,3,19,83]=true:=by decide +kernel
theorem parts_9463:∀ x∈([2,3,19,83]:List Nat),Prime x:=by
 intro x hx
 simp only [List.mem_cons,List.not_mem_nil,or_false] at hx
 rcases hx with rfl|rfl|rfl|rfl
 ·exact prime_2
 ·exact prime_3
 ·exact prime_19
 ·exact prime_83
theorem prime_9463:Prime 9463:=cert_prime cert_9463 parts_9463
theorem cert_37853:certB 37853 2 [2,2,9463]=true:=by decide +kernel
theorem parts_37853:∀ x∈([2,2,9463]:List Nat),Prime x:=by
 intro x hx
 simp only [List.mem_cons,List.not_mem_nil,or_false] at hx
 rcases hx with rfl|rfl|rfl
 ·exact prime_2
 ·exact prime_2
 ·exact prime_9463
theorem prime_37853:Prime 37853:=cert_prime cert_37853 parts_37853
theorem cert_75707:certB 75707 2 [2,37853]=true:=by decide +kernel
theorem parts_75707:∀ x∈([2,37853]:List Nat),Prime x:=by
 intro x hx
 simp only [List.mem_cons,List.not_mem_nil,or_false] at hx
 rcases hx with rfl|rfl
 ·exact prime_2
 ·exact prime_37853
theorem prime_75707:Prime 75707:=cert_prime cert_75707 parts_75707
theorem cert_2437:certB 2437 2 [2,2,3,7,29]=true:=by decide +kernel
theorem parts_2437:∀ x∈([2,2,3,7,29]:List Nat),Prime x:=by
 intro x hx
 simp only [List.mem_cons,List.not_mem_nil,or_false] at hx
 rcases hx with rfl|rfl|rfl|rfl|rfl
 ·exact prime_2
 ·exact prime_2
 ·exact prime_3
 ·exact prime_7
 ·exact prime_29
theorem prime_2437:Prime 2437:=cert_prime cert_2437 parts_2437
theorem cert_419:certB 419 2 [2,11,19]=true:=by decide +kernel
theorem parts_419:∀ x∈([2,11,19]:List Nat),Prime x:=by
 intro x hx
 simp only [List.mem_cons,List.not_mem_nil,or_false] at hx
 rcases hx with rfl|rfl|rfl
 ·exact prime_2
 ·exact prime_11
 ·exact prime_19
theorem prime_419:Prime 419:=cert_prime cert_419 parts_419
theorem cert_569003:certB 569003 2 [2,7,97,419]=true:=by decide +kernel
theorem parts_569003:∀ x∈([2,7,97,419]:List Nat),Prime x:=by
 intro x hx
 simp only [List.mem_cons,List.not_mem_nil,or_false] at hx
 rcases hx with rfl|rfl|rfl|rfl
 ·exact prime_2
 ·exact prime_7
 ·exact prime_97
 ·exact prime_419
theorem prime_569003:Prime 569003:=cert_prime cert_569003 parts_569003
theorem cert_2773320623:certB 2773320623 5 [2,2437,569003]=true:=by decide +kernel
theorem parts_2773320623:∀ x∈([2,2437,569003]:List Nat),Prime x:=by
 intro x hx
 simp only [List.mem_cons,List.not_mem_nil,or_false] at hx
 rcases hx with rfl|rfl|rfl
 ·exact prime_2
 ·exact prime_2437
 ·exact prime_569003
theorem prime_2773320623:Prime 2773320623:=cert_prime cert_2773320623 parts_2773320623
theorem cert_72106336199:certB 72106336199 7 [2,13,2773320623]=true:=by decide +kernel
theorem parts_72106336199:∀ x∈([2,13,2773320623]:List Nat),Prime x:=by
 intro x hx
 simp only [List.mem_cons,List.not_mem_nil,or_false] at hx
 rcases hx with rfl|rfl|rfl
 ·exact prime_2
 ·exact prime_13
 ·exact prime_2773320623
theorem prime_72106336199:Prime 72106336199:=cert_prime cert_72106336199 parts_72106336199
theorem cert_127:certB 127 3 [2,3,3,7]=true:=by decide +kernel
theorem parts_127:∀ x∈([2,3,3,7]:List Nat),Prime x:=by
 intro x hx
 simp only [List.mem_cons,List.not_mem_nil,or_false] at hx
 rcases hx with rfl|rfl|rfl|rfl
 ·exact prime_2
 ·exact prime_3
 ·exact prime_3
 ·exact prime_7
theorem prime_127:Prime 127:=cert_prime cert_127 parts_127
theorem cert_103:certB 103 5 [2,3,17]=true:=by decide +kernel
theorem parts_103:∀ x∈([2,3,17]:List Nat),Prime x:=by
 intro x hx
 simp only [List.mem_cons,List.not_mem_nil,or_false] at hx
 rcases hx with rfl|rfl|rfl
 ·exact prime_2
 ·exact prime_3
 ·exact prime_17
theorem prime_103:Prime 103:=cert_prime cert_103 parts_103
theorem cert_991:certB 991 6 [2,3,3,5,11]=true:=by decide +kernel
theorem parts_991:∀ x∈([2,3,3,5,11]:List Nat),Prime x:=by
 intro x hx
 simp only [List.mem_cons,List.not_mem_nil,or_false] at hx
 rcases hx with rfl|rfl|rfl|rfl|rfl
 ·exact prime_2
 ·exact prime_3
 ·exact prime_3
 ·exact prime_5
 ·exact prime_11
theorem prime_991:Prime 991:=cert_prime cert_991 parts_991
theorem cert_8574133:certB 8574133 2 [2,2,3,7,103,991]=true:=by decide +kernel
theorem parts_8574133:∀ x∈([2,2,3,7,103,991]:List Nat),Prime x:=by
 intro x hx
 simp only [List.mem_cons,List.not_mem_nil,or_false] at hx
 rcases hx with rfl|rfl|rfl|rfl|rfl|rfl
 ·exact prime_2
 ·exact prime_2
 ·exact prime_3
 ·exact prime_7
 ·exact prime_103
 ·exact prime_991
theorem prime_8574133:Prime 8574133:=cert_prime cert_8574133 parts_8574133
theorem cert_1919519569386763:certB 1919519569386763 2 [2,3,7,19,47,47,127,8574133]=true:=by decide +kernel
theorem parts_1919519569386763:∀ x∈([2,3,7,19,47,47,127,8574133]:List Nat),Prime x:=by
 intro x hx
 simp only [List.mem_cons,List.not_mem_nil,or_false] at hx
 rcases hx with rfl|rfl|rfl|rfl|rfl|rfl|rfl|rfl
 ·exact prime_2
 ·exact prime_3
 ·exact prime_7
 ·exact prime_19
 ·exact prime_47
 ·exact prime_47
 ·exact prime_127
 ·exact prime_8574133
theorem prime_1919519569386763:Prime 1919519569386763:=cert_prime cert_1919519569386763 parts_1919519569386763
theorem cert_75445702479781427272750846543864801:certB 75445702479781427272750846543864801 7 [2,2,2,2,2,3,3,5,5,75707,72106336199,1919519569386763]=true:=by decide +kernel
theorem parts_75445702479781427272750846543864801:∀ x∈([2,2,2,2,2,3,3,5,5,75707,72106336199,1919519569386763]:List Nat),Prime x:=by
 intro x hx
 simp only [List.mem_cons,List.not_mem_nil,or_false] at hx
 rcases hx with rfl|rfl|rfl|rfl|rfl|rfl|rfl|rfl|rfl|rfl|rfl|rfl
 ·exact prime_2
 ·exact prime_2
 ·exact prime_2
 ·exact prime_2
 ·exact prime_2
 ·exact prime_3
 ·exact prime_3
 ·exact prime_5
 ·exact prime_5
 ·exact prime_75707
 ·exact prime_72106336199
 ·exact prime_1919519569386763
theorem prime_75445702479781427272750846543864801:Prime 75445702479781427272750846543864801:=cert_prime cert_75445702479781427272750846543864801 parts_75445702479781427272750846543864801
theorem cert_74058212732561358302231226437062788676166966415465897661863160754340907:certB 74058212732561358302231226437062788676166966415465897661863160754340907 2 [2,3,353,57467,132049,1923133,31757755568855353,75445702479781427272750846543864801]=true:=by decide +kernel
theorem parts_74058212732561358302231226437062788676166966415465897661863160754340907:∀ x∈([2,3,353,57467,132049,1923133,31757755568855353,75445702479781427272750846543864801]:List Nat),Prime x:=by
 intro x hx
 simp only [List.mem_cons,List.not_mem_nil,or_false] at hx
 rcases hx with rfl|rfl|rfl|rfl|rfl|rfl|rfl|rfl
 ·exact prime_2
 ·exact prime_3
 ·exact prime_353
 ·exact prime_57467
 ·exact prime_132049
 ·exact prime_1923133
 ·exact prime_31757755568855353
 ·exact prime_75445702479781427272750846543864801
theorem prime_74058212732561358302231226437062788676166966415465897661863160754340907:Prime 74058212732561358302231226437062788676166966415465897661863160754340907:=cert_prime cert_74058212732561358302231226437062788676166966415465897661863160754340907 parts_74058212732561358302231226437062788676166966415465897661863160754340907
theorem cert_57896044618658097711785492504343953926634992332820282019728792003956564819949:certB 57896044618658097711785492504343953926634992332820282019728792003956564819949 2 [2,2,3,65147,74058212732561358302231226437062788676166966415465897661863160754340907]=true:=by decide +kernel
theorem parts_57896044618658097711785492504343953926634992332820282019728792003956564819949:∀ x∈([2,2,3,65147,74058212732561358302231226437062788676166966415465897661863160754340907]:List Nat),Prime x:=by
 intro x hx
 simp only [List.mem_cons,List.not_mem_nil,or_false] at hx
 rcases hx with rfl|rfl|rfl|rfl|rfl
 ·exact prime_2
 ·exact prime_2
 ·exact prime_3
 ·exact prime_65147
 ·exact prime_74058212732561358302231226437062788676166966415465897661863160754340907
theorem prime_57896044618658097711785492504343953926634992332820282019728792003956564819949:Prime 57896044618658097711785492504343953926634992332820282019728792003956564819949:=cert_prime cert_57896044618658097711785492504343953926634992332820282019728792003956564819949 parts_57896044618658097711785492504343953926634992332820282019728792003956564819949
theorem ord_P:IsOrd 57896044618658097711785492504343953926634992332820282019728792003956564819949 2 (57896044618658097711785492504343953926634992332820282019728792003956564819949 - 1):=cert_ord cert_57896044618658097711785492504343953926634992332820282019728792003956564819949 parts_57896044618658097711785492504343953926634992332820282019728792003956564819949
theorem prime_P:Prime 57896044618658097711785492504343953926634992332820282019728792003956564819949:=prime_57896044618658097711785492504343953926634992332820282019728792003956564819949
end Go.Proofs.YtkendlnjaopbeaaGreatDoor
namespace Go.Proofs.YtkendlnjaopbeaaGreatDoor
set_option linter.unusedVariables false
set_option linter.unusedSimpArgs false
theorem PP_prime:Prime PP:=prime_P
theorem PP_four:PP - 1=4 * E2:=by decide +kernel
theorem PP_two:2≤PP:=by decide
theorem PP_odd:PP % 2=1:=by decide +kernel
theorem two_ord:IsOrd PP 2 (PP - 1):=ord_P
theorem flow_zero_iff {a:Nat}:flow a=0↔PP ∣ a:=by
 simp only [flow_def]
 exact Nat.dvd_iff_mod_eq_zero.symm
theorem fmul_zero_iff (a b:Nat):fmul a b=0↔flow a=0∨flow b=0:=by
 rw [flow_zero_iff,flow_zero_iff]
 simp only [fmul_def]
 rw [←Nat.dvd_iff_mod_eq_zero]
 exact ⟨PP_prime.dvd_mul,fun h=>h.elim (fun h=>Nat.dvd_trans h (Nat.dvd_mul_right a b)) (fun h=>Nat.dvd_trans h (Nat.dvd_mul_left b a))⟩
theorem fmul_flow (a b:Nat):flow (fmul a b)=fmul a b:=flow_of (fmul_P a b)
theorem fpow_flow' (a b:Nat):flow (fpow a b)=fpow a b:=flow_of (fpow_P a b)
theorem fpow2_eq {i j:Nat}(h:i % (PP - 1)=j % (PP - 1)):fpow 2 i=fpow 2 j:=by
 have key:∀ n,fpow 2 n=fpow 2 (n % (PP - 1)):=fun n=>by
  have hd:=Nat.mod_add_div n (PP - 1)
  conv=>lhs;rw [←hd]
  rw [fpow_add]
  have:fpow 2 ((PP - 1) * (n / (PP - 1)))=1:=by
   simp only [fpow_def]
   rw [pow_mod_mul,two_ord.2.1,Nat.one_pow,one_mod PP_two]
  rw [this,fmul_one,fpow_flow']
 rw [key i,key j,h]
theorem is_pow2 {a:Nat}(h:flow a≠0):∃ i,flow a=fpow 2 i:=by
 have hlt:=flow_P a
 obtain ⟨i,h1,h2⟩:=gen_all PP_two two_ord (flow a) (by omega) hlt
 refine ⟨i,?_⟩
 rw [←h2,fpow_def]
theorem fpow_fpow (a m n:Nat):fpow (fpow a m) n=fpow a (m * n):=by
 simp only [fpow_def]
 rw [pow_mod_mul]
theorem finv_flow (a:Nat):finv (flow a)=finv a:=by unfold finv;rw [fpow_flow]
theorem fmul_ff (a b:Nat):fmul (flow a) (flow b)=fmul a b:=by rw [fmul_flow_left,fmul_flow_right]
theorem finv_pow2 (i:Nat):finv (fpow 2 i)=fpow 2 (i * (PP - 2)):=by unfold finv;rw [fpow_fpow]
theorem fmul_finv {a:Nat}(h:flow a≠0):fmul a (finv a)=1:=by
 obtain ⟨i,hi⟩:=is_pow2 h
 rw [←finv_flow,←fmul_flow_left,hi,finv_pow2,←fpow_add,←fpow_zero 2]
 apply fpow2_eq
 rw [show i+i * (PP - 2)=(PP - 1) * i by
  have:=PP_two
  rw [show PP - 1=1+(PP - 2) by omega,Nat.add_mul,Nat.one_mul,Nat.mul_comm],Nat.mul_mod_right,Nat.zero_mod]
theorem fneg_def (x:Nat):fsub 0 x=(PP - x % PP) % PP:=by
 simp only [fsub_def]
 rw [Nat.zero_mod,Nat.zero_add]
theorem fneg_add (x:Nat):fadd (fsub 0 x) x=0:=by rw [fsub_add];exact flow_of (by decide)
theorem add_cancel {a b c:Nat}(ha:a<PP)(hb:b<PP)(h:fadd a c=fadd b c):a=b:=by
 have k:fadd (fadd a c) (fsub 0 c)=fadd (fadd b c) (fsub 0 c):=by rw [h]
 have z:∀ x,x<PP→fadd (fadd x c) (fsub 0 c)=x:=fun x hx=>by
  rw [fadd_assoc,fadd_comm c,fneg_add]
  simp only [fadd_def]
  rw [Nat.add_zero,Nat.mod_eq_of_lt hx]
 rwa [z a ha,z b hb] at k
theorem fmul_neg (a b:Nat):fmul a (fsub 0 b)=fsub 0 (fmul a b):=by
 refine add_cancel (c:=fmul a b) (fmul_P _ _) (fsub_P _ _) ?_
 rw [←fmul_add,fneg_add,fneg_add,fmul_comm]
 simp only [fmul_def]
 rw [Nat.zero_mul,Nat.zero_mod]
theorem fneg_neg (a:Nat):fsub 0 (fsub 0 a)=flow a:=by
 refine add_cancel (c:=fsub 0 a) (fsub_P _ _) (flow_P _) ?_
 rw [fneg_add]
 simp only [flow_def,fadd_def,fsub_def]
 rw [Nat.mod_add_mod,Nat.zero_mod,Nat.zero_add,Nat.add_mod_mod]
 have h:=Nat.mod_lt a (show 0<PP by decide)
 have e:=Nat.mod_add_div a PP
 generalize PP=p at *
 generalize a / p=q at *
 generalize a % p=r at *
 rw [show a+(p - r)=p+p * q by omega,Nat.add_mul_mod_self_left,Nat.mod_self]
theorem neg_sq (x:Nat):fmul (fsub 0 x) (fsub 0 x)=fmul x x:=by
 rw [fmul_neg,fmul_comm,fmul_neg,fneg_neg,fmul_flow]
theorem fneg_parity {x:Nat}(hx:x<PP)(h0:x≠0):fsub 0 x=PP - x:=by
 rw [fneg_def,Nat.mod_eq_of_lt hx,Nat.mod_eq_of_lt (by omega)]
theorem rootC_sq (a:Nat):fmul (rootC a) (rootC a)=fmul (rootB a) (rootB a):=by
 unfold rootC;split
 ·exact neg_sq _
 ·rfl
theorem rootC_even (a:Nat):rootC a % 2=0:=by
 unfold rootC;split
 ·rename_i h
  have h1:=rootB_P a
  have h2:=PP_odd
  rw [fneg_parity h1 (by omega)]
  omega
 ·omega
theorem isSq_iff {a:Nat}:isSq a=true↔fmul (rootB a) (rootB a)=flow a:=by unfold isSq;exact decide_eq_true_iff
end Go.Proofs.YtkendlnjaopbeaaGreatDoor
namespace Go.Proofs.YtkendlnjaopbeaaGreatDoor
set_option linter.unusedVariables false
theorem root_sq {a:Nat}(h:isSq a=true):fmul (froot a) (froot a)=flow a:=by
 unfold froot
 rw [if_pos h,rootC_sq]
 exact isSq_iff.1 h
theorem root_even (a:Nat):froot a % 2=0:=by
 unfold froot;split
 ·exact rootC_even a
 ·rfl
end Go.Proofs.YtkendlnjaopbeaaGreatDoor
namespace Go.Proofs.YtkendlnjaopbeaaGreatDoor
variable {p:Nat}[NeZero p]
theorem assocIdX (x1 y1 x2 y2 x3 y3 d a:Fin p):((x1*y2+y1*x2)*(1 - d*x1*x2*y1*y2)*y3+(y1*y2 - a*x1*x2)*(1+d*x1*x2*y1*y2)*x3) * ((1+d*x2*x3*y2*y3)*(1 - d*x2*x3*y2*y3)+d*(x2*y3+y2*x3)*(y2*y3 - a*x2*x3)*x1*y1) - ((x2*y3+y2*x3)*(1 - d*x2*x3*y2*y3)*y1+(y2*y3 - a*x2*x3)*(1+d*x2*x3*y2*y3)*x1) * ((1+d*x1*x2*y1*y2)*(1 - d*x1*x2*y1*y2)+d*(x1*y2+y1*x2)*(y1*y2 - a*x1*x2)*x3*y3) =
  (y1*x2*y2*y2*y2*y2*x3*x3*y3*d+y1*x2*x2*y2*y2*y2*x3*d - y1*x2*x2*y2*y2*y2*x3*x3*x3*d*a+y1*x2*x2*x2*y2*y2*y3*d - y1*x2*x2*x2*y2*y2*y3*y3*y3*d - y1*x2*x2*x2*y2*y2*y2*y2*x3*x3*y3*d*d+y1*x2*x2*x2*x2*y2*x3*y3*y3*d*a - y1*x2*x2*x2*x2*y2*y2*y2*x3*y3*y3*d*d - x1*x2*y2*y2*y2*y2*x3*y3*y3*d+x1*x2*x2*y2*y2*y2*y3*d - x1*x2*x2*y2*y2*y2*y3*y3*y3*d - x1*x2*x2*x2*y2*y2*x3*d*a+x1*x2*x2*x2*y2*y2*x3*x3*x3*d*a*a+x1*x2*x2*x2*y2*y2*y2*y2*x3*y3*y3*d*d+x1*x2*x2*x2*x2*y2*x3*x3*y3*d*a*a - x1*x2*x2*x2*x2*y2*y2*y2*x3*x3*y3*d*d*a) * (d*x1*x1*y1*y1 - y1*y1 - a*x1*x1+1) +
  (0 - y1*y2*x3+y1*y2*x3*y3*y3+y1*y2*x3*x3*x3*a - y1*y2*x3*x3*x3*y3*y3*d - y1*x2*y3+y1*x2*y3*y3*y3+y1*x2*x3*x3*y3*a - y1*x2*x3*x3*y3*y3*y3*d+y1*x2*y2*y2*x3*x3*y3*d+y1*x2*x2*y2*x3*y3*y3*d+y1*y1*y1*y2*x3 - y1*y1*y1*y2*x3*y3*y3 - y1*y1*y1*y2*x3*x3*x3*a+y1*y1*y1*y2*x3*x3*x3*y3*y3*d+y1*y1*y1*x2*y3 - y1*y1*y1*x2*y3*y3*y3 - y1*y1*y1*x2*x3*x3*y3*a+y1*y1*y1*x2*x3*x3*y3*y3*y3*d - y1*y1*y1*x2*y2*y2*x3*x3*y3*d - y1*y1*y1*x2*x2*y2*x3*y3*y3*d - x1*y2*y3+x1*y2*y3*y3*y3+x1*y2*x3*x3*y3*a - x1*y2*x3*x3*y3*y3*y3*d+x1*x2*x3*a - x1*x2*x3*y3*y3*a - x1*x2*x3*x3*x3*a*a+x1*x2*x3*x3*x3*y3*y3*d*a - x1*x2*y2*y2*x3*y3*y3*d+x1*x2*x2*y2*x3*x3*y3*d*a+x1*y1*y1*y2*y3 - x1*y1*y1*y2*y3*y3*y3 - x1*y1*y1*y2*x3*x3*y3*a+x1*y1*y1*y2*x3*x3*y3*y3*y3*d - x1*y1*y1*x2*x3*a+x1*y1*y1*x2*x3*y3*y3*a+x1*y1*y1*x2*x3*x3*x3*a*a - x1*y1*y1*x2*x3*x3*x3*y3*y3*d*a+x1*y1*y1*x2*y2*y2*x3*y3*y3*d - x1*y1*y1*x2*y2*y2*x3*x3*x3*y3*y3*d*d - x1*y1*y1*x2*x2*y2*x3*x3*y3*d*a+x1*y1*y1*x2*x2*y2*x3*x3*y3*y3*y3*d*d+x1*x1*y1*y2*x3*a - x1*x1*y1*y2*x3*y3*y3*a - x1*x1*y1*y2*x3*x3*x3*a*a+x1*x1*y1*y2*x3*x3*x3*y3*y3*d*a+x1*x1*y1*x2*y3*a - x1*x1*y1*x2*y3*y3*y3*a - x1*x1*y1*x2*x3*x3*y3*a*a+x1*x1*y1*x2*x3*x3*y3*y3*y3*d*a - x1*x1*y1*x2*y2*y2*x3*x3*y3*d*a+x1*x1*y1*x2*y2*y2*x3*x3*y3*y3*y3*d*d - x1*x1*y1*x2*x2*y2*x3*y3*y3*d*a+x1*x1*y1*x2*x2*y2*x3*x3*x3*y3*y3*d*d*a+x1*x1*x1*y2*y3*a - x1*x1*x1*y2*y3*y3*y3*a - x1*x1*x1*y2*x3*x3*y3*a*a+x1*x1*x1*y2*x3*x3*y3*y3*y3*d*a - x1*x1*x1*x2*x3*a*a+x1*x1*x1*x2*x3*y3*y3*a*a+x1*x1*x1*x2*x3*x3*x3*a*a*a - x1*x1*x1*x2*x3*x3*x3*y3*y3*d*a*a+x1*x1*x1*x2*y2*y2*x3*y3*y3*d*a - x1*x1*x1*x2*x2*y2*x3*x3*y3*d*a*a) * (d*x2*x2*y2*y2 - y2*y2 - a*x2*x2+1) +
  (y1*y2*x3 - y1*y2*y2*y2*x3+y1*x2*y3 - y1*x2*y2*y2*y3 - y1*x2*x2*y2*x3*a - y1*x2*x2*x2*y3*a - y1*y1*y1*y2*x3+y1*y1*y1*y2*y2*y2*x3 - y1*y1*y1*x2*y3+y1*y1*y1*x2*y2*y2*y3+y1*y1*y1*x2*x2*y2*x3*a+y1*y1*y1*x2*x2*x2*y3*a+x1*y2*y3 - x1*y2*y2*y2*y3 - x1*x2*x3*a+x1*x2*y2*y2*x3*a - x1*x2*x2*y2*y3*a+x1*x2*x2*x2*x3*a*a - x1*y1*y1*y2*y3+x1*y1*y1*y2*y2*y2*y3+x1*y1*y1*x2*x3*a - x1*y1*y1*x2*y2*y2*x3*a+x1*y1*y1*x2*y2*y2*x3*d+x1*y1*y1*x2*x2*y2*y3*a - x1*y1*y1*x2*x2*y2*y3*d - x1*y1*y1*x2*x2*x2*x3*a*a - x1*x1*y1*y2*x3*a+x1*x1*y1*y2*y2*y2*x3*a - x1*x1*y1*x2*y3*a+x1*x1*y1*x2*y2*y2*y3*a - x1*x1*y1*x2*y2*y2*y3*d+x1*x1*y1*x2*x2*y2*x3*a*a - x1*x1*y1*x2*x2*y2*x3*d*a+x1*x1*y1*x2*x2*x2*y3*a*a - x1*x1*x1*y2*y3*a+x1*x1*x1*y2*y2*y2*y3*a+x1*x1*x1*x2*x3*a*a - x1*x1*x1*x2*y2*y2*x3*a*a+x1*x1*x1*x2*x2*y2*y3*a*a - x1*x1*x1*x2*x2*x2*x3*a*a*a) * (d*x3*x3*y3*y3 - y3*y3 - a*x3*x3+1):=by grind
theorem assocIdY (x1 y1 x2 y2 x3 y3 d a:Fin p):((y1*y2 - a*x1*x2)*(1+d*x1*x2*y1*y2)*y3 - a*(x1*y2+y1*x2)*(1 - d*x1*x2*y1*y2)*x3) * ((1+d*x2*x3*y2*y3)*(1 - d*x2*x3*y2*y3) - d*(x2*y3+y2*x3)*(y2*y3 - a*x2*x3)*x1*y1) - ((y2*y3 - a*x2*x3)*(1+d*x2*x3*y2*y3)*y1 - a*(x2*y3+y2*x3)*(1 - d*x2*x3*y2*y3)*x1) * ((1+d*x1*x2*y1*y2)*(1 - d*x1*x2*y1*y2) - d*(x1*y2+y1*x2)*(y1*y2 - a*x1*x2)*x3*y3) =
  (0 - y1*x2*y2*y2*y2*y2*x3*y3*y3*d+y1*x2*x2*y2*y2*y2*y3*d - y1*x2*x2*y2*y2*y2*y3*y3*y3*d - y1*x2*x2*x2*y2*y2*x3*d*a+y1*x2*x2*x2*y2*y2*x3*x3*x3*d*a*a+y1*x2*x2*x2*y2*y2*y2*y2*x3*y3*y3*d*d+y1*x2*x2*x2*x2*y2*x3*x3*y3*d*a*a - y1*x2*x2*x2*x2*y2*y2*y2*x3*x3*y3*d*d*a - x1*x2*y2*y2*y2*y2*x3*x3*y3*d*a - x1*x2*x2*y2*y2*y2*x3*d*a+x1*x2*x2*y2*y2*y2*x3*x3*x3*d*a*a - x1*x2*x2*x2*y2*y2*y3*d*a+x1*x2*x2*x2*y2*y2*y3*y3*y3*d*a+x1*x2*x2*x2*y2*y2*y2*y2*x3*x3*y3*d*d*a - x1*x2*x2*x2*x2*y2*x3*y3*y3*d*a*a+x1*x2*x2*x2*x2*y2*y2*y2*x3*y3*y3*d*d*a) * (d*x1*x1*y1*y1 - y1*y1 - a*x1*x1+1) +
  (0 - y1*y2*y3+y1*y2*y3*y3*y3+y1*y2*x3*x3*y3*a - y1*y2*x3*x3*y3*y3*y3*d+y1*x2*x3*a - y1*x2*x3*y3*y3*a - y1*x2*x3*x3*x3*a*a+y1*x2*x3*x3*x3*y3*y3*d*a - y1*x2*y2*y2*x3*y3*y3*d+y1*x2*x2*y2*x3*x3*y3*d*a+y1*y1*y1*y2*y3 - y1*y1*y1*y2*y3*y3*y3 - y1*y1*y1*y2*x3*x3*y3*a+y1*y1*y1*y2*x3*x3*y3*y3*y3*d - y1*y1*y1*x2*x3*a+y1*y1*y1*x2*x3*y3*y3*a+y1*y1*y1*x2*x3*x3*x3*a*a - y1*y1*y1*x2*x3*x3*x3*y3*y3*d*a+y1*y1*y1*x2*y2*y2*x3*y3*y3*d - y1*y1*y1*x2*x2*y2*x3*x3*y3*d*a+x1*y2*x3*a - x1*y2*x3*y3*y3*a - x1*y2*x3*x3*x3*a*a+x1*y2*x3*x3*x3*y3*y3*d*a+x1*x2*y3*a - x1*x2*y3*y3*y3*a - x1*x2*x3*x3*y3*a*a+x1*x2*x3*x3*y3*y3*y3*d*a - x1*x2*y2*y2*x3*x3*y3*d*a - x1*x2*x2*y2*x3*y3*y3*d*a - x1*y1*y1*y2*x3*a+x1*y1*y1*y2*x3*y3*y3*a+x1*y1*y1*y2*x3*x3*x3*a*a - x1*y1*y1*y2*x3*x3*x3*y3*y3*d*a - x1*y1*y1*x2*y3*a+x1*y1*y1*x2*y3*y3*y3*a+x1*y1*y1*x2*x3*x3*y3*a*a - x1*y1*y1*x2*x3*x3*y3*y3*y3*d*a+x1*y1*y1*x2*y2*y2*x3*x3*y3*d*a - x1*y1*y1*x2*y2*y2*x3*x3*y3*y3*y3*d*d+x1*y1*y1*x2*x2*y2*x3*y3*y3*d*a - x1*y1*y1*x2*x2*y2*x3*x3*x3*y3*y3*d*d*a+x1*x1*y1*y2*y3*a - x1*x1*y1*y2*y3*y3*y3*a - x1*x1*y1*y2*x3*x3*y3*a*a+x1*x1*y1*y2*x3*x3*y3*y3*y3*d*a - x1*x1*y1*x2*x3*a*a+x1*x1*y1*x2*x3*y3*y3*a*a+x1*x1*y1*x2*x3*x3*x3*a*a*a - x1*x1*y1*x2*x3*x3*x3*y3*y3*d*a*a+x1*x1*y1*x2*y2*y2*x3*y3*y3*d*a - x1*x1*y1*x2*y2*y2*x3*x3*x3*y3*y3*d*d*a - x1*x1*y1*x2*x2*y2*x3*x3*y3*d*a*a+x1*x1*y1*x2*x2*y2*x3*x3*y3*y3*y3*d*d*a - x1*x1*x1*y2*x3*a*a+x1*x1*x1*y2*x3*y3*y3*a*a+x1*x1*x1*y2*x3*x3*x3*a*a*a - x1*x1*x1*y2*x3*x3*x3*y3*y3*d*a*a - x1*x1*x1*x2*y3*a*a+x1*x1*x1*x2*y3*y3*y3*a*a+x1*x1*x1*x2*x3*x3*y3*a*a*a - x1*x1*x1*x2*x3*x3*y3*y3*y3*d*a*a+x1*x1*x1*x2*y2*y2*x3*x3*y3*d*a*a+x1*x1*x1*x2*x2*y2*x3*y3*y3*d*a*a) * (d*x2*x2*y2*y2 - y2*y2 - a*x2*x2+1) +
  (y1*y2*y3 - y1*y2*y2*y2*y3 - y1*x2*x3*a+y1*x2*y2*y2*x3*a - y1*x2*x2*y2*y3*a+y1*x2*x2*x2*x3*a*a - y1*y1*y1*y2*y3+y1*y1*y1*y2*y2*y2*y3+y1*y1*y1*x2*x3*a - y1*y1*y1*x2*y2*y2*x3*a+y1*y1*y1*x2*x2*y2*y3*a - y1*y1*y1*x2*x2*x2*x3*a*a - x1*y2*x3*a+x1*y2*y2*y2*x3*a - x1*x2*y3*a+x1*x2*y2*y2*y3*a+x1*x2*x2*y2*x3*a*a+x1*x2*x2*x2*y3*a*a+x1*y1*y1*y2*x3*a - x1*y1*y1*y2*y2*y2*x3*a+x1*y1*y1*x2*y3*a - x1*y1*y1*x2*y2*y2*y3*a+x1*y1*y1*x2*y2*y2*y3*d - x1*y1*y1*x2*x2*y2*x3*a*a+x1*y1*y1*x2*x2*y2*x3*d*a - x1*y1*y1*x2*x2*x2*y3*a*a - x1*x1*y1*y2*y3*a+x1*x1*y1*y2*y2*y2*y3*a+x1*x1*y1*x2*x3*a*a - x1*x1*y1*x2*y2*y2*x3*a*a+x1*x1*y1*x2*y2*y2*x3*d*a+x1*x1*y1*x2*x2*y2*y3*a*a - x1*x1*y1*x2*x2*y2*y3*d*a - x1*x1*y1*x2*x2*x2*x3*a*a*a+x1*x1*x1*y2*x3*a*a - x1*x1*x1*y2*y2*y2*x3*a*a+x1*x1*x1*x2*y3*a*a - x1*x1*x1*x2*y2*y2*y3*a*a - x1*x1*x1*x2*x2*y2*x3*a*a*a - x1*x1*x1*x2*x2*x2*y3*a*a*a) * (d*x3*x3*y3*y3 - y3*y3 - a*x3*x3+1):=by grind
theorem closedId (x1 y1 x2 y2 d a:Fin p)(h1:d*x1*x1*y1*y1 - y1*y1 - a*x1*x1+1=0)(h2:d*x2*x2*y2*y2 - y2*y2 - a*x2*x2+1=0):a*(x1*y2+y1*x2)*(x1*y2+y1*x2)*(1 - d*x1*x2*y1*y2)*(1 - d*x1*x2*y1*y2)+(y1*y2 - a*x1*x2)*(y1*y2 - a*x1*x2)*(1+d*x1*x2*y1*y2)*(1+d*x1*x2*y1*y2)=(1+d*x1*x2*y1*y2)*(1+d*x1*x2*y1*y2)*(1 - d*x1*x2*y1*y2)*(1 - d*x1*x2*y1*y2)+d*(x1*y2+y1*x2)*(x1*y2+y1*x2)*(y1*y2 - a*x1*x2)*(y1*y2 - a*x1*x2):=by grind
end Go.Proofs.YtkendlnjaopbeaaGreatDoor
namespace Go.Proofs.YtkendlnjaopbeaaGreatDoor
set_option linter.unusedVariables false
structure Fl (n:Nat)[NeZero n] where
 inv:Fin n→Fin n
 mul_inv:∀ a:Fin n,a≠0→a * inv a=1
 mul_zero:∀ a b:Fin n,a * b=0→a=0∨b=0
 one_ne:(1:Fin n)≠0
 two_ne:(2:Fin n)≠0
variable {n:Nat}[NeZero n]{K:Fl n}
theorem sub_zero_eq {a b:Fin n}(h:a - b=0):a=b:=by grind
theorem mul_sub_zero {a b c:Fin n}(h:a * b=a * c):a * (b - c)=0:=by grind
theorem Fl.cancel (K:Fl n){a b c:Fin n}(ha:a≠0)(h:a * b=a * c):b=c:=by
 rcases K.mul_zero _ _ (mul_sub_zero h) with h1|h1
 ·exact absurd h1 ha
 ·exact sub_zero_eq h1
structure Ed (K:Fl n) where
 a:Fin n
 d:Fin n
 s:Fin n
 hs:s * s=a
 s0:s≠0
 nd:∀ w:Fin n,w * w≠d
structure P2 (n:Nat) where
 x:Fin n
 y:Fin n
set_option linter.unusedSectionVars false
theorem P2.ext' {p q:P2 n}(h:p.x=q.x)(k:p.y=q.y):p=q:=by cases p;cases q;cases h;cases k;rfl
def Ed.on (E:Ed K)(p:P2 n):Prop:=E.a * p.x * p.x+p.y * p.y=1+E.d * p.x * p.x * p.y * p.y
def Ed.dl (E:Ed K)(p q:P2 n):Fin n:=E.d * p.x * q.x * p.y * q.y
def Ed.add (E:Ed K)(p q:P2 n):P2 n:=⟨(p.x * q.y+p.y * q.x) * K.inv (1+E.dl p q),(p.y * q.y - E.a * p.x * q.x) * K.inv (1 - E.dl p q)⟩
def P2.zero:P2 n:=⟨0,1⟩
theorem on_poly {a d x y:Fin n}(h:a * x * x+y * y=1+d * x * x * y * y):d * x * x * y * y - y * y - a * x * x+1=0:=by grind
theorem two_zero {s x y:Fin n}(h1:s * x+1 * y=0)(h2:s * x+(0 - 1) * y=0):2 * (s * x)=0:=by grind
theorem neg_one_sq:(0 - 1:Fin n) * (0 - 1)=1:=by grind
theorem one_sq:(1:Fin n) * 1=1:=by grind
theorem Ed.d0 (E:Ed K):E.d≠0:=fun h=>E.nd 0 (by rw [h];grind)
theorem Ed.complete (E:Ed K){p q:P2 n}(hp:E.on p)(hq:E.on q)(h:E.dl p q * E.dl p q=1):False:=by
 obtain ⟨x1,y1⟩:=p
 obtain ⟨x2,y2⟩:=q
 obtain ⟨a,d,s,hs,s0,nd⟩:=E
 simp only [Ed.on,Ed.dl] at *
 have hd0:d≠0:=fun h0=>nd 0 (by rw [h0];grind)
 have hx1:x1≠0:=fun h0=>by
  rw [h0] at h
  exact K.one_ne (by grind)
 have hy1:y1≠0:=fun h0=>by
  rw [h0] at h
  exact K.one_ne (by grind)
 have hx2:x2≠0:=fun h0=>by
  rw [h0] at h
  exact K.one_ne (by grind)
 have e0:a * x1 * x1+y1 * y1=d * x1 * x1 * y1 * y1 * (a * x2 * x2+y2 * y2):=by
  rw [hq,hp]
  have:d * x1 * x1 * y1 * y1 * (1+d * x2 * x2 * y2 * y2)=d * x1 * x1 * y1 * y1+d * x1 * x2 * y1 * y2 * (d * x1 * x2 * y1 * y2):=by grind
  rw [this,h]
  grind
 have key:∀ t:Fin n,t * t=1→(s * x1+t * (d * x1 * x2 * y1 * y2) * y1) * (s * x1+t * (d * x1 * x2 * y1 * y2) * y1)=d * (x1 * y1) * (x1 * y1) * ((s * x2+t * y2) * (s * x2+t * y2)):=by
  intro t ht
  have:(s * x1+t * (d * x1 * x2 * y1 * y2) * y1) * (s * x1+t * (d * x1 * x2 * y1 * y2) * y1)=s * s * x1 * x1+t * t * (d * x1 * x2 * y1 * y2 * (d * x1 * x2 * y1 * y2)) * (y1 * y1)+2 * s * t * x1 * y1 * (d * x1 * x2 * y1 * y2):=by grind
  rw [this,h,hs,ht]
  have e1:a * x1 * x1+1 * 1 * (y1 * y1)=d * x1 * x1 * y1 * y1 * (a * x2 * x2+y2 * y2):=by rw [←e0];grind
  rw [e1,←hs]
  have e2:d * (x1 * y1) * (x1 * y1) * ((s * x2+t * y2) * (s * x2+t * y2))=d * (x1 * y1) * (x1 * y1) * (s * s * x2 * x2+t * t * (y2 * y2)+2 * s * t * x2 * y2):=by grind
  rw [e2,ht]
  grind
 have fin:∀ t:Fin n,t * t=1→s * x2+t * y2≠0→False:=fun t ht hne=>by
  have hz:x1 * y1 * (s * x2+t * y2)≠0:=fun h0=>by
   rcases K.mul_zero _ _ h0 with h1|h1
   ·rcases K.mul_zero _ _ h1 with h2|h2
    ·exact hx1 h2
    ·exact hy1 h2
   ·exact hne h1
  have hi:=K.mul_inv _ hz
  refine nd ((s * x1+t * (d * x1 * x2 * y1 * y2) * y1) * K.inv (x1 * y1 * (s * x2+t * y2))) ?_
  have k:=key t ht
  generalize K.inv (x1 * y1 * (s * x2+t * y2))=i at *
  generalize s * x1+t * (d * x1 * x2 * y1 * y2) * y1=u at *
  generalize s * x2+t * y2=v at *
  have:u * i * (u * i)=u * u * (i * i):=by grind
  rw [this,k]
  have:d * (x1 * y1) * (x1 * y1) * (v * v) * (i * i)=d * ((x1 * y1 * v * i) * (x1 * y1 * v * i)):=by grind
  rw [this,hi]
  grind
 by_cases h1:s * x2+1 * y2=0
 ·by_cases h2:s * x2+(0 - 1) * y2=0
  ·have:=two_zero h1 h2
   rcases K.mul_zero _ _ this with h3|h3
   ·exact K.two_ne h3
   ·rcases K.mul_zero _ _ h3 with h4|h4
    ·exact s0 h4
    ·exact hx2 h4
  ·exact fin (0 - 1) neg_one_sq h2
 ·exact fin 1 one_sq h1
theorem Ed.plus_ne (E:Ed K){p q:P2 n}(hp:E.on p)(hq:E.on q):1+E.dl p q≠0:=fun h=>E.complete hp hq (by grind)
theorem Ed.minus_ne (E:Ed K){p q:P2 n}(hp:E.on p)(hq:E.on q):1 - E.dl p q≠0:=fun h=>E.complete hp hq (by grind)
theorem Ed.add_spec (E:Ed K){p q:P2 n}(hp:E.on p)(hq:E.on q):(E.add p q).x * (1+E.dl p q)=p.x * q.y+p.y * q.x∧(E.add p q).y * (1 - E.dl p q)=p.y * q.y - E.a * p.x * q.x:=by
 have h1:=K.mul_inv _ (E.plus_ne hp hq)
 have h2:=K.mul_inv _ (E.minus_ne hp hq)
 unfold Ed.add
 dsimp only
 generalize K.inv (1+E.dl p q)=u at *
 generalize K.inv (1 - E.dl p q)=v at *
 generalize E.dl p q=t at *
 constructor
 ·have:(p.x * q.y+p.y * q.x) * u * (1+t)=(p.x * q.y+p.y * q.x) * ((1+t) * u):=by grind
  rw [this,h1];grind
 ·have:(p.y * q.y - E.a * p.x * q.x) * v * (1 - t)=(p.y * q.y - E.a * p.x * q.x) * ((1 - t) * v):=by grind
  rw [this,h2];grind
theorem Ed.add_of (E:Ed K){p q r:P2 n}(hp:E.on p)(hq:E.on q)(hx:r.x * (1+E.dl p q)=p.x * q.y+p.y * q.x)(hy:r.y * (1 - E.dl p q)=p.y * q.y - E.a * p.x * q.x):E.add p q=r:=by
 obtain ⟨kx,ky⟩:=E.add_spec hp hq
 apply P2.ext'
 ·exact K.cancel (E.plus_ne hp hq) (by rw [←hx] at kx;grind)
 ·exact K.cancel (E.minus_ne hp hq) (by rw [←hy] at ky;grind)
theorem Ed.zero_on (E:Ed K):E.on P2.zero:=by unfold Ed.on P2.zero;dsimp only;grind
theorem Ed.add_zero (E:Ed K){p:P2 n}(h:E.on p):E.add p P2.zero=p:=by
 refine E.add_of h E.zero_on ?_ ?_
 ·unfold Ed.dl P2.zero;dsimp only;grind
 ·unfold Ed.dl P2.zero;dsimp only;grind
theorem Ed.add_on (E:Ed K){p q:P2 n}(hp:E.on p)(hq:E.on q):E.on (E.add p q):=by
 obtain ⟨kx,ky⟩:=E.add_spec hp hq
 have n1:=E.plus_ne hp hq
 have n2:=E.minus_ne hp hq
 generalize E.add p q=r at *
 obtain ⟨x1,y1⟩:=p
 obtain ⟨x2,y2⟩:=q
 obtain ⟨x,y⟩:=r
 unfold Ed.on Ed.dl at *
 dsimp only at *
 have hD:(1+E.d * x1 * x2 * y1 * y2) * (1 - E.d * x1 * x2 * y1 * y2)≠0:=fun h0=>(K.mul_zero _ _ h0).elim n1 n2
 have e1:E.d * x1 * x1 * y1 * y1 - y1 * y1 - E.a * x1 * x1+1=0:=on_poly hp
 have e2:E.d * x2 * x2 * y2 * y2 - y2 * y2 - E.a * x2 * x2+1=0:=on_poly hq
 have id:=closedId x1 y1 x2 y2 E.d E.a e1 e2
 rw [←kx,←ky] at id
 generalize 1+E.d * x1 * x2 * y1 * y2=m at *
 generalize 1 - E.d * x1 * x2 * y1 * y2=n at *
 refine K.cancel hD (K.cancel hD ?_)
 clear n1 n2 hD kx ky hp hq e1 e2
 grind
theorem Ed.add_assoc (E:Ed K){p q r:P2 n}(hp:E.on p)(hq:E.on q)(hr:E.on r):E.add (E.add p q) r=E.add p (E.add q r):=by
 have h12:=E.add_on hp hq
 have h23:=E.add_on hq hr
 obtain ⟨kx,ky⟩:=E.add_spec hp hq
 obtain ⟨lx,ly⟩:=E.add_spec hq hr
 have n1:=E.plus_ne hp hq
 have n2:=E.minus_ne hp hq
 have m1:=E.plus_ne hq hr
 have m2:=E.minus_ne hq hr
 have w1:=E.plus_ne hp h23
 have w2:=E.minus_ne hp h23
 obtain ⟨ux,uy⟩:=E.add_spec hp h23
 generalize E.add p (E.add q r)=t at *
 generalize E.add p q=v at *
 generalize E.add q r=z at *
 refine E.add_of h12 hr ?_ ?_
 ·have id:=assocIdX p.x p.y q.x q.y r.x r.y E.d E.a
  have e1:E.d * p.x * p.x * p.y * p.y - p.y * p.y - E.a * p.x * p.x+1=0:=on_poly hp
  have e2:E.d * q.x * q.x * q.y * q.y - q.y * q.y - E.a * q.x * q.x+1=0:=on_poly hq
  have e3:E.d * r.x * r.x * r.y * r.y - r.y * r.y - E.a * r.x * r.x+1=0:=on_poly hr
  rw [e1,e2,e3] at id
  clear e1 e2 e3 hp hq hr h12 h23
  unfold Ed.dl at *
  rw [←kx,←ky,←lx,←ly] at id
  clear kx ky lx ly uy w2
  generalize 1+E.d * p.x * q.x * p.y * q.y=P at *
  generalize 1 - E.d * p.x * q.x * p.y * q.y=M at *
  generalize 1+E.d * q.x * r.x * q.y * r.y=P' at *
  generalize 1 - E.d * q.x * r.x * q.y * r.y=M' at *
  have hK:P * M * (P' * M')≠0:=fun h0=>(K.mul_zero _ _ h0).elim (fun h=>(K.mul_zero _ _ h).elim n1 n2) (fun h=>(K.mul_zero _ _ h).elim m1 m2)
  have key:P * M * (P' * M') * ((v.x * r.y+v.y * r.x) * (1+E.d * p.x * z.x * p.y * z.y))=P * M * (P' * M') * ((p.x * z.y+p.y * z.x) * (1+E.d * v.x * r.x * v.y * r.y)):=by
   clear ux w1 n1 n2 m1 m2 hK
   grind
  have k2:=K.cancel hK key
  clear key hK id n1 n2 m1 m2
  rw [←ux] at k2
  refine K.cancel w1 ?_
  clear ux w1
  grind
 ·have id:=assocIdY p.x p.y q.x q.y r.x r.y E.d E.a
  have e1:E.d * p.x * p.x * p.y * p.y - p.y * p.y - E.a * p.x * p.x+1=0:=on_poly hp
  have e2:E.d * q.x * q.x * q.y * q.y - q.y * q.y - E.a * q.x * q.x+1=0:=on_poly hq
  have e3:E.d * r.x * r.x * r.y * r.y - r.y * r.y - E.a * r.x * r.x+1=0:=on_poly hr
  rw [e1,e2,e3] at id
  clear e1 e2 e3 hp hq hr h12 h23
  unfold Ed.dl at *
  rw [←kx,←ky,←lx,←ly] at id
  clear kx ky lx ly ux w1
  generalize 1+E.d * p.x * q.x * p.y * q.y=P at *
  generalize 1 - E.d * p.x * q.x * p.y * q.y=M at *
  generalize 1+E.d * q.x * r.x * q.y * r.y=P' at *
  generalize 1 - E.d * q.x * r.x * q.y * r.y=M' at *
  have hK:P * M * (P' * M')≠0:=fun h0=>(K.mul_zero _ _ h0).elim (fun h=>(K.mul_zero _ _ h).elim n1 n2) (fun h=>(K.mul_zero _ _ h).elim m1 m2)
  have key:P * M * (P' * M') * ((v.y * r.y - E.a * v.x * r.x) * (1 - E.d * p.x * z.x * p.y * z.y))=P * M * (P' * M') * ((p.y * z.y - E.a * p.x * z.x) * (1 - E.d * v.x * r.x * v.y * r.y)):=by
   clear uy w2 n1 n2 m1 m2 hK
   grind
  have k2:=K.cancel hK key
  clear key hK id n1 n2 m1 m2
  rw [←uy] at k2
  refine K.cancel w2 ?_
  clear uy w2
  grind
end Go.Proofs.YtkendlnjaopbeaaGreatDoor
namespace Go.Proofs.YtkendlnjaopbeaaGreatDoor
set_option linter.unusedVariables false
set_option linter.unusedSectionVars false
variable {n:Nat}[NeZero n]{K:Fl n}
def Ed.smul (E:Ed K):Nat→P2 n→P2 n
 | 0,_=>P2.zero
 | k+1,p=>E.add (E.smul k p) p
section
variable (E:Ed K){p q r:P2 n}
theorem Ed.smul_on (hp:E.on p):∀ k,E.on (E.smul k p)
 | 0=>E.zero_on
 | k+1=>E.add_on (Ed.smul_on hp k) hp
theorem Ed.smul_add (hp:E.on p)(j:Nat):∀ k,E.smul (j+k) p=E.add (E.smul j p) (E.smul k p)
 | 0=>by rw [Nat.add_zero,Ed.smul,E.add_zero (E.smul_on hp j)]
 | k+1=>by
  rw [←Nat.add_assoc,Ed.smul,Ed.smul,Ed.smul_add hp j k,E.add_assoc (E.smul_on hp j) (E.smul_on hp k) hp]
theorem Ed.smul_double (hp:E.on p)(k:Nat):E.smul (2 * k) p=E.add (E.smul k p) (E.smul k p):=by rw [Nat.two_mul,E.smul_add hp]
end
structure Rep (x y z t:Fin n)(p:P2 n):Prop where
 z0:z≠0
 x:x=p.x * z
 y:y=p.y * z
 t:t=p.x * p.y * z
theorem rep_plus_id (d x1 y1 z1 x2 y2 z2:Fin n) :
  (y1*z1+x1*z1)*(y2*z2+x2*z2) - (y1*z1 - x1*z1)*(y2*z2 - x2*z2)=2*(z1*z2)*(x1*y2+y1*x2)∧
  (z1*z2+z1*z2) - ((x1*y1*z1)*(x2*y2*z2)*d+(x1*y1*z1)*(x2*y2*z2)*d)=2*(z1*z2)*(1 - d*x1*x2*y1*y2)∧
  (z1*z2+z1*z2)+((x1*y1*z1)*(x2*y2*z2)*d+(x1*y1*z1)*(x2*y2*z2)*d)=2*(z1*z2)*(1+d*x1*x2*y1*y2)∧
  (y1*z1+x1*z1)*(y2*z2+x2*z2)+(y1*z1 - x1*z1)*(y2*z2 - x2*z2)=2*(z1*z2)*(y1*y2+x1*x2):=by
 refine ⟨?_,?_,?_,?_⟩ <;> grind
theorem Rep.plus (E:Ed K)(ha:E.a=0 - 1){x1 y1 z1 t1 x2 y2 z2 t2:Fin n}{p q:P2 n}(hp:Rep x1 y1 z1 t1 p)(hq:Rep x2 y2 z2 t2 q)(op:E.on p)(oq:E.on q){e f g h:Fin n}
  (he:e=(y1+x1)*(y2+x2) - (y1 - x1)*(y2 - x2)) (hf:f=(z1*z2+z1*z2) - (t1*t2*E.d+t1*t2*E.d)) (hg:g=(z1*z2+z1*z2)+(t1*t2*E.d+t1*t2*E.d)) (hh:h=(y1+x1)*(y2+x2)+(y1 - x1)*(y2 - x2)) :
  Rep (e * f) (g * h) (f * g) (e * h) (E.add p q):=by
 obtain ⟨i1,i2,i3,i4⟩:=rep_plus_id E.d p.x p.y z1 q.x q.y z2
 rw [hp.x,hp.y,hq.x,hq.y] at he hh
 rw [hp.t,hq.t] at hf hg
 rw [i1] at he
 rw [i2] at hf
 rw [i3] at hg
 rw [i4] at hh
 have hz1:=hp.z0
 have hz2:=hq.z0
 obtain ⟨sx,sy⟩:=E.add_spec op oq
 have n1:=E.plus_ne op oq
 have n2:=E.minus_ne op oq
 generalize E.add p q=r at *
 unfold Ed.dl at *
 have hc:2 * (z1 * z2)≠0:=fun h0=>(K.mul_zero _ _ h0).elim K.two_ne (fun h=>(K.mul_zero _ _ h).elim hz1 hz2)
 clear i1 i2 i3 i4 hp hq hz1 hz2
 have sy':r.y * (1 - E.d * p.x * q.x * p.y * q.y)=p.y * q.y+p.x * q.x:=by rw [sy,ha];clear sy sx he hf hg hh n1 n2 hc;grind
 rw [←sx] at he
 rw [←sy'] at hh
 generalize 1+E.d * p.x * q.x * p.y * q.y=P at *
 generalize 1 - E.d * p.x * q.x * p.y * q.y=M at *
 generalize 2 * (z1 * z2)=c at *
 clear sx sy sy' op oq
 subst he hf hg hh
 refine ⟨fun h0=>(K.mul_zero _ _ h0).elim (fun h=>(K.mul_zero _ _ h).elim hc n2) (fun h=>(K.mul_zero _ _ h).elim hc n1),?_,?_,?_⟩
 ·clear hc n1 n2;grind
 ·clear hc n1 n2;grind
 ·clear hc n1 n2;grind
end Go.Proofs.YtkendlnjaopbeaaGreatDoor
namespace Go.Proofs.YtkendlnjaopbeaaGreatDoor
set_option linter.unusedVariables false
instance ne_PP:NeZero PP:=⟨by decide⟩
abbrev F:Type:=Fin PP
def toF (n:Nat):F:=Fin.ofNat PP n
theorem toF_val (n:Nat):(toF n).val=flow n:=by rw [flow_def];rfl
theorem toF_of (a:F):toF a.val=a:=by apply Fin.ext;rw [toF_val,flow_of a.isLt]
theorem toF_eq {m n:Nat}:toF m=toF n↔flow m=flow n:=by
 rw [←toF_val,←toF_val];exact ⟨fun h=>by rw [h],fun h=>Fin.ext h⟩
theorem toF_inj {m n:Nat}(hm:m<PP)(hn:n<PP)(h:toF m=toF n):m=n:=by
 rw [toF_eq,flow_of hm,flow_of hn] at h;exact h
theorem toF_mul (a b:Nat):toF (fmul a b)=toF a * toF b:=by
 apply Fin.ext
 rw [toF_val,fmul_flow,Fin.val_mul,toF_val,toF_val,←fmul_def,fmul_ff]
theorem toF_add (a b:Nat):toF (fadd a b)=toF a+toF b:=by
 apply Fin.ext
 rw [toF_val,flow_of (fadd_P _ _),Fin.val_add,toF_val,toF_val]
 simp only [fadd_def,flow_def]
 rw [←Nat.add_mod]
theorem toF_flow (a:Nat):toF (flow a)=toF a:=by rw [toF_eq,flow_of (flow_P a)]
theorem toF_zero:toF 0=0:=rfl
theorem toF_one:toF 1=1:=rfl
theorem toF_sub (a b:Nat):toF (fsub a b)=toF a - toF b:=by
 have h:=fsub_add a b
 have h2:=congrArg toF h
 rw [toF_add,toF_flow] at h2
 rw [←h2]
 generalize toF (fsub a b)=x
 generalize toF b=y
 grind
theorem F_mul_zero {a b:F}(h:a * b=0):a=0∨b=0:=by
 rw [←toF_of a,←toF_of b,←toF_mul,←toF_zero,toF_eq,fmul_flow,flow_of (show 0<PP by decide),fmul_zero_iff] at h
 rcases h with h|h
 ·left;rw [flow_of a.isLt] at h;exact Fin.ext h
 ·right;rw [flow_of b.isLt] at h;exact Fin.ext h
def Finv (a:F):F:=toF (finv a.val)
theorem toF_inv (n:Nat):toF (finv n)=Finv (toF n):=by unfold Finv;rw [toF_val,finv_flow]
theorem mul_Finv {a:F}(h:a≠0):a * Finv a=1:=by
 have h1:flow a.val≠0:=by
  rw [flow_of a.isLt];intro h2;exact h (Fin.ext h2)
 have h2:=congrArg toF (fmul_finv h1)
 rw [toF_mul,toF_of] at h2
 exact h2
theorem F_one_ne:(1:F)≠0:=fun h=>absurd (congrArg Fin.val h) (by decide)
theorem F_two_ne:(2:F)≠0:=fun h=>absurd (congrArg Fin.val h) (by decide)
theorem nonsq {n:Nat}(h0:flow n≠0)(h:qpowP PP n (2 * E2)≠1)(w:F):w * w≠toF n:=by
 intro hw
 rw [←toF_of w,←toF_mul,toF_eq,fmul_flow] at hw
 apply h
 rw [qpow_is,←fpow_def,←fpow_flow,←hw]
 have hw0:flow w.val≠0:=fun h1=>h0 (by rw [←hw];exact (fmul_zero_iff _ _).2 (.inl h1))
 obtain ⟨i,hi⟩:=is_pow2 hw0
 rw [←fmul_ff,hi,←fpow_add,fpow_fpow,←fpow_zero 2]
 apply fpow2_eq
 rw [PP_four,show (i+i) * (2 * E2)=4 * E2 * i by rw [←Nat.two_mul,Nat.mul_mul_mul_comm,show 2 * 2=4 by rfl,Nat.mul_comm i E2,Nat.mul_assoc],Nat.mul_mod_right,Nat.zero_mod]
end Go.Proofs.YtkendlnjaopbeaaGreatDoor
namespace Go.Proofs.YtkendlnjaopbeaaGreatDoor
set_option linter.unusedVariables false
def K0:Fl PP:=⟨Finv,fun _ h=>mul_Finv h,fun _ _ h=>F_mul_zero h,F_one_ne,F_two_ne⟩
def rootM:Nat:=19681161376707505956807079304988542015446066515923890162744021073123829784752
theorem DD_nonsq (w:F):w * w≠toF DD:=nonsq (n:=DD) (by rw [flow_def];decide +kernel) (by decide +kernel) w
theorem rootM_sq:toF rootM * toF rootM=0 - 1:=by decide +kernel
theorem rootM_ne:toF rootM≠0:=by decide +kernel
def E0:Ed K0:=⟨0 - 1,toF DD,toF rootM,rootM_sq,rootM_ne,DD_nonsq⟩
def Pt.f (p:Pt):P2 PP:=⟨toF p.x,toF p.y⟩
def Pt.red (p:Pt):Prop:=p.x<PP∧p.y<PP
theorem Pt.red.lt {p:Pt}(h:p.red):p.lt:=⟨Nat.lt_trans h.1 PP_lt,Nat.lt_trans h.2 PP_lt⟩
theorem on_iff_id {n:Nat}[NeZero n](d x y:Fin n):(y * y - x * x=1+d * (x * x * (y * y)))↔((0 - 1) * x * x+y * y=1+d * x * x * y * y):=by
 have e1:y * y - x * x=(0 - 1) * x * x+y * y:=by grind
 have e2:1+d * (x * x * (y * y))=1+d * x * x * y * y:=by grind
 rw [e1,e2]
theorem red_iff {a:Nat}:a=flow a↔a<PP:=⟨fun h=>h ▸ flow_P a,fun h=>(flow_of h).symm⟩
theorem on_iff (p:Pt):p.on↔p.red∧E0.on p.f:=by
 have key:p.eqn↔E0.on p.f:=by
  unfold Pt.eqn Ed.on
  show _↔(0 - 1) * toF p.x * toF p.x+toF p.y * toF p.y=1+toF DD * toF p.x * toF p.x * toF p.y * toF p.y
  rw [←on_iff_id]
  constructor
  ·intro h
   have:=congrArg toF h
   rw [toF_sub,toF_mul,toF_mul,toF_add,toF_mul,toF_mul,toF_mul,toF_mul,toF_one] at this
   exact this
  ·intro h
   apply toF_inj (fsub_P _ _) (fadd_P _ _)
   rw [toF_sub,toF_mul,toF_mul,toF_add,toF_mul,toF_mul,toF_mul,toF_mul,toF_one]
   exact h
 unfold Pt.on
 rw [red_iff,red_iff,key]
 exact ⟨fun ⟨a,b,c⟩=>⟨⟨a,b⟩,c⟩,fun ⟨⟨a,b⟩,c⟩=>⟨a,b,c⟩⟩
theorem Pt.on.red {p:Pt}(h:p.on):p.red:=((on_iff p).1 h).1
theorem Pt.on.f {p:Pt}(h:p.on):E0.on p.f:=((on_iff p).1 h).2
def Qd.rp (q:Qd)(P:P2 PP):Prop:=Rep (toF q.x) (toF q.y) (toF q.z) (toF q.t) P
theorem one_mul_id {n:Nat}[NeZero n](x:Fin n):x=x * 1:=by grind
theorem quad_rp (p:Pt):p.quad.rp p.f:=⟨F_one_ne,one_mul_id _,one_mul_id _,by
 show toF (fmul p.x p.y)=toF p.x * toF p.y * toF 1
 rw [toF_mul,toF_one];exact one_mul_id _⟩
theorem plus_rp {q r:Qd}{P Q:P2 PP}(hq:q.rp P)(hr:r.rp Q)(oP:E0.on P)(oQ:E0.on Q):(q.plus r).rp (E0.add P Q):=by
 have h:=Rep.plus E0 rfl hq hr oP oQ rfl rfl rfl rfl
 unfold Qd.rp Qd.plus
 dsimp only
 simp only [toF_mul,toF_add,toF_sub]
 exact h
theorem mul_inv_id {n:Nat}[NeZero n]{x z i:Fin n}(h:z * i=1):x * z * i=x:=by
 have:x * z * i=x * (z * i):=by grind
 rw [this,h];grind
theorem point_f {q:Qd}{P:P2 PP}(h:q.rp P):q.point.f=P:=by
 have hi:=mul_Finv h.z0
 apply P2.ext'
 ·show toF (fmul q.x (finv q.z))=P.x
  rw [toF_mul,toF_inv,h.x];exact mul_inv_id hi
 ·show toF (fmul q.y (finv q.z))=P.y
  rw [toF_mul,toF_inv,h.y];exact mul_inv_id hi
theorem point_red (q:Qd):q.point.red:=⟨fmul_P _ _,fmul_P _ _⟩
theorem zero_f:Pt.zero.f=P2.zero:=rfl
theorem add_f_pt {p q:Pt}(hp:p.on)(hq:q.on):(p.add q).f=E0.add p.f q.f:=point_f (plus_rp (quad_rp p) (quad_rp q) hp.f hq.f)
theorem add_red (p q:Pt):(p.add q).red:=point_red _
theorem add_on {p q:Pt}(hp:p.on)(hq:q.on):(p.add q).on:=(on_iff _).2 ⟨add_red p q,by rw [add_f_pt hp hq];exact E0.add_on hp.f hq.f⟩
theorem rep_rp {p:Pt}(hp:p.on)(m:Nat):∀ j,j≤blen m→(p.quad.rep m j).rp (E0.smul (m / 2 ^ (blen m - j)) p.f)
 | 0,_=>by
  rw [Nat.sub_zero,Nat.div_eq_of_lt (blen_le.1 (Nat.le_refl _))]
  show Pt.zero.quad.rp P2.zero
  rw [←zero_f]
  exact quad_rp _
 | j+1,hj=>by
  have ih:=rep_rp hp m j (by omega)
  have e:blen m - j=blen m - (j+1)+1:=by omega
  rw [e] at ih
  have d:m / 2 ^ (blen m - (j+1)+1)=m / 2 ^ (blen m - (j+1)) / 2:=by rw [Nat.pow_succ,Nat.div_div_eq_div_mul]
  rw [d] at ih
  have on':=E0.smul_on hp.f (m / 2 ^ (blen m - (j+1)) / 2)
  have h2:=plus_rp ih ih on' on'
  rw [←E0.smul_double hp.f] at h2
  unfold Qd.rep
  dsimp only
  generalize m / 2 ^ (blen m - (j+1))=k at *
  split
  ·rename_i h1
   have h3:=plus_rp h2 (quad_rp p) (E0.smul_on hp.f _) hp.f
   rw [show E0.add (E0.smul (2 * (k / 2)) p.f) p.f=E0.smul (2 * (k / 2)+1) p.f from rfl,show 2 * (k / 2)+1=k by omega] at h3
   exact h3
  ·rename_i h1
   rw [show 2 * (k / 2)=k by omega] at h2
   exact h2
theorem times_f {p:Pt}(hp:p.on)(m:Nat):(p.times m).f=E0.smul m p.f:=by
 have h:=rep_rp hp m (blen m) (Nat.le_refl _)
 rw [Nat.sub_self,Nat.pow_zero,Nat.div_one] at h
 exact point_f h
theorem times_red (p:Pt)(m:Nat):(p.times m).red:=point_red _
theorem times_on {p:Pt}(hp:p.on)(m:Nat):(p.times m).on:=(on_iff _).2 ⟨times_red p m,by rw [times_f hp];exact E0.smul_on hp.f m⟩
section
variable {p q r:Pt}(hp:p.on)(hq:q.on)(hr:r.on)
include hp hq in
end
theorem base_red:Pt.base.red:=⟨by decide,by decide⟩
theorem base_on:Pt.base.on:=by
 refine ⟨red_iff.2 base_red.1,red_iff.2 base_red.2,?_⟩
 unfold Pt.eqn
 simp only [fsub_def,fmul_def,fadd_def]
 decide +kernel
end Go.Proofs.YtkendlnjaopbeaaGreatDoor
namespace Go.Proofs.YtkendlnjaopbeaaGreatDoor
set_option linter.unusedVariables false
theorem den_id {n:Nat}[NeZero n]{d y m i:Fin n}(hm:m * m=0 - 1)(h:d * (y * y)+1=0)(hi:y * i=1):m * i * (m * i)=d:=by grind
theorem den_ne (y:F):toF DD * (y * y)+1≠0:=by
 intro h
 have hy:y≠0:=fun h0=>by
  rw [h0] at h
  have:(0:F)=1:=by rw [←h];exact (by decide +kernel:(toF DD * ((0:F) * 0)+1)=1)
  exact F_one_ne this.symm
 exact DD_nonsq _ (den_id rootM_sq h (mul_Finv hy))
theorem eqn_id {n:Nat}[NeZero n]{d x y i:Fin n}(hi:(d * (y * y)+1) * i=1):(x * x=(y * y - 1) * i)↔(y * y - x * x=1+d * (x * x * (y * y))):=by
 constructor
 ·intro h
  grind
 ·intro h
  grind
def sqV (y:Nat):Nat:=fmul (fsub (fmul y y) 1) (finv (fadd (fmul DD (fmul y y)) 1))
theorem upV_is (k:Nat):upV k=sqV (upY k):=rfl
theorem sqV_P (y:Nat):sqV y<PP:=fmul_P _ _
theorem on_sq {p:Pt}(hr:p.red):p.on↔fmul p.x p.x=sqV p.y:=by
 have hi:=mul_Finv (den_ne (toF p.y))
 have k1:E0.on p.f↔toF p.x * toF p.x=(toF p.y * toF p.y - 1) * Finv (toF DD * (toF p.y * toF p.y)+1):=by
  rw [eqn_id hi,on_iff_id]
  exact Iff.rfl
 have k2:toF (sqV p.y)=(toF p.y * toF p.y - 1) * Finv (toF DD * (toF p.y * toF p.y)+1):=by
  unfold sqV
  rw [toF_mul,toF_sub,toF_mul,toF_inv,toF_add,toF_mul,toF_mul,toF_one]
 rw [on_iff,k1,←k2,←toF_mul]
 exact ⟨fun h=>toF_inj (fmul_P _ _) (sqV_P _) h.2,fun h=>⟨hr,by rw [h]⟩⟩
theorem PP_255:PP<2 ^ 255:=by decide +kernel
theorem neg_odd {x:Nat}(hx:x<PP)(h0:x≠0):fsub 0 x % 2=1 - x % 2:=by
 have:=PP_odd
 rw [fneg_parity hx h0]
 omega
theorem pack_unpack {k:Nat}(ho:upO k=0∨upO k=1)(h:upOk k):(upPt k).on∧(upPt k).pack=k:=by
 obtain ⟨h1,h2,h3⟩:=h
 have hsq:=root_sq h1
 have he:=root_even (upV k)
 have hP:=froot_P (upV k)
 have hred:(upPt k).red:=⟨by unfold upPt;dsimp only;split;exact fsub_P _ _;exact hP,by show upY k<PP;rw [h2];exact flow_P _⟩
 have hx:fmul (upPt k).x (upPt k).x=sqV (upPt k).y:=by
  show fmul (if upO k=1 then fsub 0 (froot (upV k)) else froot (upV k)) (if upO k=1 then fsub 0 (froot (upV k)) else froot (upV k))=sqV (upY k)
  rw [←upV_is]
  have e:flow (upV k)=upV k:=by rw [upV_is];exact flow_of (sqV_P _)
  split
  ·rw [neg_sq,hsq,e]
  ·rw [hsq,e]
 refine ⟨(on_sq hred).2 hx,?_⟩
 unfold Pt.pack
 have hpar:(upPt k).x % 2=upO k:=by
  unfold upPt
  dsimp only
  rcases ho with h0|h0
  ·rw [h0,if_neg (by decide),he]
  ·have hne:froot (upV k)≠0:=fun hz=>h3 ⟨h0,hz⟩
   rw [h0,if_pos rfl,neg_odd hP hne,he]
 rw [hpar]
 exact Nat.mod_add_div k (2 ^ 255)
end Go.Proofs.YtkendlnjaopbeaaGreatDoor
namespace Go.Proofs.YtkendlnjaopbeaaGreatDoor
open Go.RowKit
set_option linter.unusedVariables false
set_option maxRecDepth 8000
end Go.Proofs.YtkendlnjaopbeaaGreatDoor
namespace Go.Proofs.YtkendlnjaopbeaaGreatDoor
open Go.RowKit
set_option linter.unusedVariables false
set_option linter.unusedSimpArgs false
set_option maxRecDepth 8000
theorem eql_numD (d a b:Nat)(ha:a<T256)(hb:b<T256)(w:World):(Op.equalIn (d+2) 46 (nu a) (nu b)).run Tryz.prog w=.ok (decide (a=b)) w:=by
 rw [←nu_num,←nu_num]
 have h:=eql_ints (P:=Tryz.prog) (t:=46) (e:=44) (k:=.u64) (k':=.u64) w d 4 [limb a 0,limb a 1,limb a 2,limb a 3] [limb b 0,limb b 1,limb b 2,limb b 3] (by kernel_rfl) (by kernel_rfl) (by kernel_rfl) (by kernel_rfl) (by kernel_rfl) rfl rfl
 have e:(([limb a 0,limb a 1,limb a 2,limb a 3]:List Int) == [limb b 0,limb b 1,limb b 2,limb b 3])=decide (a=b):=by
  by_cases hab:a=b
  ·subst hab;simp
  ·rw [decide_eq_false hab,Bool.eq_false_iff]
   intro hc
   have hc:=eq_of_beq hc
   simp only [List.cons.injEq,and_true] at hc
   exact hab (num_inj ha hb hc.1 hc.2.1 hc.2.2.1 hc.2.2.2)
 rw [e] at h
 exact h
theorem part_num {P:Program}{t off:Nat}{L:List Nat}{x:Nat}[KD P t true][SZ P t 4](h:numAt L off=some x)(w:World):(part t (rowC L) off).run P w=.ok (nu x) w:=by
 have:=part_row (P:=P) (t:=t) (off:=off) (k:=4) (cs:=rowC L) (numAt_part L off x h) w
 simpa using this
theorem pt_fields:∃ f0 f1:Field,(Tryz.prog.fieldsOf 89).toList=[f0,f1]∧decide (f0.name≠ "_")=true∧decide (f1.name≠ "_")=true∧f0.type=46∧f1.type=46∧f0.offset=0∧f1.offset=4:=
 ⟨(Tryz.prog.fieldsOf 89)[0]!,(Tryz.prog.fieldsOf 89)[1]!,by kernel_rfl,by decide +kernel,by decide +kernel,by kernel_rfl,by kernel_rfl,by kernel_rfl,by kernel_rfl⟩
theorem eq_pt (p q:Pt)(hp:p.lt)(hq:q.lt)(w:World):(Op.equalIn 10000 89 (pv p) (pv q)).run Tryz.prog w=.ok (decide (p=q)) w:=by
 obtain ⟨f0,f1,hf,n0,n1,t0,t1,o0,o1⟩:=pt_fields
 rw [show (10000:Nat)=9999+1 from rfl,run_equalIn_struct w 9999 _ _ _ (by kernel_rfl) (by kernel_rfl),hf]
 have n0':=of_decide_eq_true n0
 have n1':=of_decide_eq_true n1
 have a0:=part_num (P:=Tryz.prog) (t:=46) (L:=[p.x,p.y]) (off:=0) (x:=p.x) rfl
 have a1:=part_num (P:=Tryz.prog) (t:=46) (L:=[p.x,p.y]) (off:=4) (x:=p.y) rfl
 have b0:=part_num (P:=Tryz.prog) (t:=46) (L:=[q.x,q.y]) (off:=0) (x:=q.x) rfl
 have b1:=part_num (P:=Tryz.prog) (t:=46) (L:=[q.x,q.y]) (off:=4) (x:=q.y) rfl
 have e0:=eql_numD 9997 p.x q.x hp.1 hq.1 w
 have e1:=eql_numD 9997 p.y q.y hp.2 hq.2 w
 by_cases h0:p.x=q.x
 ·rw [decide_eq_true h0] at e0
  by_cases h1:p.y=q.y
  ·rw [decide_eq_true h1] at e1
   rw [decide_eq_true (show p=q by cases p;cases q;cases h0;cases h1;rfl)]
   clear h0 h1
   simp only [Op.eqFields,n0',n1',t0,t1,o0,o1,not_false_eq_true,ne_eq,if_true,if_false,Sem.run_bind,a0,a1,b0,b1,Result.andThen_ok,e0,e1,Bool.not_true,Bool.not_false,Bool.false_eq_true,Sem.run_pure]
  ·rw [decide_eq_false h1] at e1
   rw [decide_eq_false (fun h:p=q=>h1 (by rw [h]))]
   clear h0 h1
   simp only [Op.eqFields,n0',n1',t0,t1,o0,o1,not_false_eq_true,ne_eq,if_true,if_false,Sem.run_bind,a0,a1,b0,b1,Result.andThen_ok,e0,e1,Bool.not_true,Bool.not_false,Bool.false_eq_true,Sem.run_pure]
 ·rw [decide_eq_false h0] at e0
  rw [decide_eq_false (fun h:p=q=>h0 (by rw [h]))]
  clear h0
  simp only [Op.eqFields,n0',n1',t0,t1,o0,o1,not_false_eq_true,ne_eq,if_true,if_false,Sem.run_bind,a0,a1,b0,b1,Result.andThen_ok,e0,e1,Bool.not_true,Bool.not_false,Bool.false_eq_true,Sem.run_pure]
theorem eq_pt_yes {p q:Pt}(hp:p.lt)(h:p=q)(w:World):(Op.equalIn 10000 89 (pv p) (pv q)).run Tryz.prog w=.ok true w:=by
 rw [eq_pt p q hp (h ▸ hp) w,decide_eq_true h]
theorem eq_pt_no {p q:Pt}(hp:p.lt)(hq:q.lt)(h:p≠q)(w:World):(Op.equalIn 10000 89 (pv p) (pv q)).run Tryz.prog w=.ok false w:=by
 rw [eq_pt p q hp hq w,decide_eq_false h]
end Go.Proofs.YtkendlnjaopbeaaGreatDoor
namespace Go.Proofs.YtkendlnjaopbeaaGreatDoor
open Go.RowKit
set_option linter.unusedVariables false
theorem unpack_yes {k:Nat}(hk:k<T256)(h:upOk k)(w:World):Calls Tryz.prog 26 [bv k].toArray w (Ret (.tuple #[pv (upPt k),.int .i64 0]) w):=by
 have:=unpack_c k hk w
 unfold upOk at h
 rwa [if_pos h,if_pos h] at this
theorem unpack_no {k:Nat}(hk:k<T256)(h:¬upOk k)(w:World):Calls Tryz.prog 26 [bv k].toArray w (Ret (.tuple #[pv ⟨0,0⟩,.int .i64 4]) w):=by
 have:=unpack_c k hk w
 unfold upOk at h
 rwa [if_neg h,if_neg h] at this
theorem pack_on {p:Pt}(h:p.on)(w:World):Calls Tryz.prog 33 [pv p].toArray w (Ret (.tuple #[bv p.pack,.int .i64 0]) w):=pack_yes h.red.lt h (Nat.lt_trans h.red.2 PP_255) w
end Go.Proofs.YtkendlnjaopbeaaGreatDoor
namespace Go.Proofs.YtkendlnjaopbeaaGreatDoor
open Go.RowKit
attribute [local irreducible] rwA bys iw
set_option linter.unusedVariables false
set_option linter.unusedSimpArgs false
set_option maxRecDepth 100000
theorem bytesC_lb (a:Nat):bytesC a=bys (lb a):=by rw [lb_cells];unfold bytesC;rfl
theorem bv_lb (a:Nat):bv a=.agg (bys (lb a)):=by show Value.agg (bytesC a)=_;rw [bytesC_lb]
theorem lb_of {d:List Nat}(h:BL 32 d):∃ n,n<T256∧d=lb n:=by
 obtain ⟨n,hn,he⟩:=byteCells_bv (gf d) (gf_lt h)
 refine ⟨n,hn,?_⟩
 have e1:byteCells (gf d)=bys d:=by
  unfold byteCells bys bl
  congr 1
  apply List.ext_getElem?
  intro i
  by_cases hi:i<32
  ·have:i<d.length:=by rw [h.len];exact hi
   simp [hi,this,gf,List.getD]
  ·have:¬i<d.length:=by rw [h.len];exact hi
   simp [hi,this]
 have e2:bytesC n=bys (lb n):=bytesC_lb n
 rw [e1,e2] at he
 have:=congrArg Array.toList he
 simp only [bys,bl] at this
 exact (List.map_inj_right (fun x y h=>by injection h with _ h;exact Int.ofNat.inj h)).1 this
instance (a:Nat):NBy (lb a) 32:=⟨lb_len a⟩
instance (a:Nat):ByL (lb a):=⟨(lb_ok a).by'⟩
def atl (a:Nat):Nat:=if a=0 then 1 else a
theorem atl_L {a:Nat}(h:a<SLn):atl a<SLn:=by unfold atl;split;exact (by decide +kernel);exact h
def basP (n:Nat):Nat:=(Pt.base.times n).pack
def secS (seed:Nat):Nat:=atl (dgN 1 (lb seed))
def mskS (seed:Nat):List Nat:=((newH.write [2]).write (lb seed)).sum
def pubS (seed:Nat):Nat:=basP (secS seed)
def chal (r k:Nat)(p:List Nat):Nat:=dgN 4 (lb r++lb k++p)
theorem secS_L (seed:Nat):secS seed<SLn:=atl_L (dgN_L _ _)
theorem secS_lt (seed:Nat):secS seed<T256:=Nat.lt_trans (secS_L _) SL_T
instance:ByL [2]:=⟨by simp⟩
instance (seed:Nat):NBy (mskS seed) 32:=⟨sum_len (st:=(newH.write [2]).write (lb seed)) HSo.out⟩
instance (seed:Nat):ByL (mskS seed):=inferInstanceAs (ByL (((newH.write [2]).write (lb seed)).sum))
instance (seed:Nat):BLc 32 (mskS seed):=⟨⟨NBy.out,ByL.out⟩,by decide⟩
instance seg_numP (n:Nat):SegL (numC n) 4:=⟨(numC_cells n).size,(numC_cells n).one⟩
abbrev sgP (a:Nat)(m k:List Nat):Sg:=[(4,numC a),(32,bys m),(32,bys k)]
instance zg_pair:ZG Tryz.prog 48 (sgP 0 (List.replicate 32 0) (List.replicate 32 0)):=⟨by kernel_rfl,inferInstance⟩
instance {X:Cx}{l:Blks}{g:Nat}{p q:List Nat}{e a:Nat}[hn:NBy p 32][h:BlkAt l g (rwA (sgP a p q),e)][h':BLc 32 p][ht:KD X.P e true]:VwB X l (.slice (some ⟨g,4,none⟩) 32 32) 32 p:=⟨fun w hm=>by
 have hg:=(hm.cls.now g (rwA (sgP a p q)) e (mu_mem_of h.out hm.nd)).trans (congrArg some (toObj_cells ht.tb))
 refine ⟨⟨⟨_,_,rfl,Nat.le_refl _,by simp only [maxLen];omega,fun _=>⟨g,4,rfl⟩⟩,fun j u hj=>⟨g,4,32,rfl,?_⟩⟩,h'.out⟩
 rw [cell_of_row w g (4+j) (rwA (sgP a p q)) e _ hg]
 have hl:(bl p).length=32:=by rw [bl_len,hn.out]
 have h4:(numC a).size=4:=(numC_cells a).size
 have hj':=(List.getElem?_eq_some_iff.1 hj).1
 unfold rwA
 simp only [rwL,List.map_cons,List.flatten_cons,List.getElem?_toArray]
 rw [List.getElem?_append_right (by simp [h4]),List.getElem?_append_left (by simp [h4,bys];omega)]
 simpa [h4,bys] using hj⟩
set_option maxHeartbeats 2000000 in
theorem atl_c (a:Nat)(ha:a<T256)(w:World):Calls Tryz.prog 19 [nu a].toArray w (Ret (nu (atl a)) w):=by
 have h0:0<T256:=by decide
 by_cases h:a=0
 ·subst h
  have e:atl 0=1:=rfl
  rw [e]
  refine fn_ret (N:=_) Tryz.func19 rfl Tryz.ntmps19 Tryz.results19 (by simp) ?_
  simp only [initS,Nat.reduceAdd,Nat.zero_add]
  repeat' (first|(refine wlB ?_)|(refine wlNL ?_)|(refine wlEQ ?_)|(refine wlE ?_)|(refine efZCnn ?_;intro n hn)|(refine efBnn ?_;intro n hn)|(refine efB ?_)|(refine wl_skip rfl rfl ?_)|((with_reducible refine wc_seq ?_);intro K hK)|(refine auC ?_)|(refine wc_cond rfl (fun hc=>?_) (fun hc=>?_))|(refine wc_draw (by kernel_rfl) (by kernel_rfl) (by decide +kernel) ?_;intro w0 hw0 hm0;(try simp only [List.append_eq,List.cons_append,List.nil_append]))|(refine auP ?_)|((refine auR ?_);clear hK K)|(refine auR ?_)|((with_reducible refine hK _ _ ?_);clear hK K)|fail)
  first|refine end_ret (ResP.cell rfl ld_whole ResP.nil) ?_|refine end_normal (ResP.cell rfl ld_whole ResP.nil) ?_
  first|rfl|(show _=_;rfl)|(simp only [tupV, *];done)
 ·have e:atl a=a:=by unfold atl;rw [if_neg h]
  have d1:=decide_eq_false h
  rw [e]
  clear h e
  refine fn_ret (N:=_) Tryz.func19 rfl Tryz.ntmps19 Tryz.results19 (by simp) ?_
  simp only [initS,Nat.reduceAdd,Nat.zero_add]
  repeat' (first|(refine wlB ?_)|(refine wlNL ?_)|(refine wlEQ ?_)|(refine wlE ?_)|(refine efZCnn ?_;intro n hn)|(refine efBnn ?_;intro n hn)|(refine efB ?_)|(refine wl_skip rfl rfl ?_)|((with_reducible refine wc_seq ?_);intro K hK)|(refine auC ?_)|(refine wc_cond rfl (fun hc=>?_) (fun hc=>?_))|(refine wc_draw (by kernel_rfl) (by kernel_rfl) (by decide +kernel) ?_;intro w0 hw0 hm0;(try simp only [List.append_eq,List.cons_append,List.nil_append]))|(refine auP ?_)|((refine auR ?_);clear hK K)|(refine auR ?_)|((with_reducible refine hK _ _ ?_);clear hK K)|fail)
  first|refine end_ret (ResP.cell rfl ld_whole ResP.nil) ?_|refine end_normal (ResP.cell rfl ld_whole ResP.nil) ?_
  first|rfl|(show _=_;rfl)|(simp only [tupV, *];done)
set_option maxHeartbeats 4000000 in
theorem bas_c (n:Nat)(hn:n<T256)(w:World):Calls Tryz.prog 24 [nu n].toArray w (Ret (.agg (bys (lb (basP n)))) w):=by
 have BC:=base_c
 have TC:=times_yes n hn base_red.lt base_on
 have PC:=pack_on (times_on base_on n)
 rw [bv_lb] at PC
 have e:(Pt.base.times n).pack=basP n:=rfl
 rw [e] at PC
 clear hn e
 generalize basP n=k at *
 generalize Pt.base.times n=q at *
 generalize Pt.base=q0 at *
 refine fn_ret (N:=_) Tryz.func24 rfl Tryz.ntmps24 Tryz.results24 (by simp) ?_
 simp only [initS,Nat.reduceAdd,Nat.zero_add]
 repeat' (first|(refine wlR ?_)|(refine wlB ?_)|((with_reducible refine sel_call ?_);refine wl_rd rfl rfl (rd_call rfl rfl rfl (fun w hm=>by with_reducible first|exact BC w|exact TC w|exact PC w)) ?_)|(refine wlE ?_)|(refine efR ?_)|(refine efZCnn ?_;intro n hn)|(refine efBnn ?_;intro n hn)|(refine efB ?_)|(refine wl_skip rfl rfl ?_)|(refine wdR ?_)|(refine wdV ?_)|(refine wdB ?_)|((with_reducible refine seld_call ?_);refine wd_rd hm0 rfl rfl rfl rfl (rd_call rfl rfl rfl (fun w hm=>by with_reducible first|exact BC w|exact TC w|exact PC w)) ?_)|(refine wdE ?_)|(refine wd_allocC hm0 rfl rfl rfl ?_;intro n hn hn0)|(refine wd_alloc hm0 rfl rfl rfl ?_;intro n hn hn0)|(refine wdT ?_)|(refine wd_skip rfl rfl ?_)|((with_reducible refine seld_nil ?_);refine wd_nil hm0 ?_;clear hm0 hw0)|((with_reducible refine wc_seq ?_);intro K hK)|(refine auC ?_)|(refine wc_cond rfl (fun hc=>?_) (fun hc=>?_))|(refine wc_draw (by kernel_rfl) (by kernel_rfl) (by decide +kernel) ?_;intro w0 hw0 hm0;(try simp only [List.append_eq,List.cons_append,List.nil_append]))|(refine auP ?_)|((refine auR ?_);clear hK K)|(refine auR ?_)|((with_reducible refine hK _ _ ?_);clear hK K)|fail)
 first|refine end_ret (ResP.cell rfl ld_whole ResP.nil) ?_|refine end_normal (ResP.cell rfl ld_whole ResP.nil) ?_
 first|rfl|(show _=_;rfl)|(simp only [tupV, *];done)
set_option maxHeartbeats 8000000 in
theorem new_s (w:World)(hT:Tab w)(w':World)(hb:Below w.heap.size w w')(seed:Nat)(hs:seed<T256) :
  Calls Tryz.prog 17 [.agg (bys (lb seed))].toArray w' (Ret (.agg (rwA (sgP (secS seed) (mskS seed) (lb (pubS seed))))) w'):=by
 have D1:∀ {v:Value} w'',Below w'.heap.size w' w''→Cb w'' v 32 (lb seed)→Calls Tryz.prog 20 [.int .u8 1,v].toArray w'' (Ret (nu (dgN 1 (lb seed))) w''):=fun w'' h1 h2=>dgn_c w' (hT.below hb) w'' h1 1 (by decide) h2
 have AC:=atl_c (dgN 1 (lb seed)) (dgN_lt _ _)
 have e0:atl (dgN 1 (lb seed))=secS seed:=rfl
 rw [e0] at AC
 have NW:=new_c
 have WG:=write_g w' (hT.below hb)
 have SG:=sum_g w' (hT.below hb)
 have BC:=bas_c (secS seed) (secS_lt _)
 have e1:basP (secS seed)=pubS seed:=rfl
 rw [e1] at BC
 have e2:mskS seed=((newH.write [2]).write (lb seed)).sum:=rfl
 rw [e2]
 clear hT hb hs e0 e1 e2
 generalize dgN 1 (lb seed)=d at *
 generalize secS seed=a at *
 generalize pubS seed=k at *
 refine fn_ret (N:=_) Tryz.func17 rfl Tryz.ntmps17 Tryz.results17 (by simp) ?_
 simp only [initS,Nat.reduceAdd,Nat.zero_add]
 repeat' (first|(refine wlS ?_)|(refine wlG ?_)|(refine wlB ?_)|((with_reducible refine sel_call ?_);refine wl_rd rfl rfl (rd_call rfl rfl rfl (fun w hm=>by with_reducible first|exact D1 w (hm.below rfl) (VwB.out w hm)|exact AC w|exact NW w|exact BC w|exact WG w (hm.below rfl) (VwB.out w hm)|exact SG w (hm.below rfl))) ?_)|(refine wlE ?_)|(refine efSvvp ?_;intro v hv hp)|(refine efSvao ?_;intro v oa ho)|(refine efG ?_)|(refine efGnn ?_;intro n hn)|(refine efZCnn ?_;intro n hn)|(refine efBnn ?_;intro n hn)|(refine efB ?_)|(refine efBS ?_)|(refine wl_skip rfl rfl ?_)|((with_reducible refine wc_seq ?_);intro K hK)|(refine auC ?_)|(refine wc_cond rfl (fun hc=>?_) (fun hc=>?_))|((with_reducible refine wc_drawT (by kernel_rfl) ?_);(try simp only [List.append_eq,List.cons_append,List.nil_append,List.length_cons,List.length_nil,Nat.reduceAdd]))|((with_reducible refine sel_wh ?_);(refine wh_if (by decide +kernel) ?_);first|(refine wh_take (lq:=[]) rfl rfl rfl rfl (by first|exact rvS|exact rvG|exact rvB|exact rvE) (Or.inl rfl) ?_)|(refine wh_takeL rfl rfl rfl rfl (by first|exact rvS|exact rvG|exact rvB|exact rvE) (by decide +kernel) ?_))|(refine whS ?_;intro v hv hp)|((with_reducible refine sel_wh ?_);first|(refine wh_pass rfl rfl rfl rfl ?_)|(refine wh_done rfl ?_)|(refine wh_all rfl ?_))|((with_reducible refine sel_rest ?_);first|exact rest_nil rfl|refine rest_cons rfl rfl ?_ ?_)|((with_reducible refine sel_nx ?_);first|refine next_of ?_|refine next_late (by decide +kernel) ?_)|(refine auP ?_)|((refine auR ?_);clear hK K)|(refine auR ?_)|((with_reducible refine hK _ _ ?_);clear hK K)|fail)
 all_goals (first|refine end_ret (ResP.cell rfl ld_wholeG ResP.nil) ?_|refine end_normal (ResP.cell rfl ld_wholeG ResP.nil) ?_)
 all_goals (first|rfl|(show _=_;rfl)|(simp only [tupV, *];done))
set_option maxHeartbeats 8000000 in
theorem chal_c (w:World)(hT:Tab w)(w':World)(hb:Below w.heap.size w w')(r k:Nat){v:Value}{n:Nat}{p:List Nat}(hq:Cb w' v n p)(hn:n≤1048576) :
  Calls Tryz.prog 98 [.agg (bys (lb r)),.agg (bys (lb k)),v].toArray w' (Ret (nu (chal r k p)) w'):=by
 have DC:∀ {u:Value} w'',Below w'.heap.size w' w''→Cb w'' u (32+32+n) (lb r++lb k++p)→Calls Tryz.prog 20 [.int .u8 4,u].toArray w'' (Ret (nu (chal r k p)) w''):=fun w'' h1 h2=>dgn_c w' (hT.below hb) w'' h1 4 (by decide) h2
 have i1:=hq.old
 haveI:ByL p:=⟨hq.ok.by'⟩
 clear hT hb hq
 generalize chal r k p=R at *
 refine fn_ret (N:=_) Tryz.func98 rfl Tryz.ntmps98 Tryz.results98 (by simp) ?_
 simp only [initS,Nat.reduceAdd,Nat.zero_add]
 repeat' (first|(refine wlS ?_)|(refine wlB ?_)|((with_reducible refine sel_call ?_);refine wl_rd rfl rfl (rd_call rfl rfl rfl (fun w hm=>by with_reducible exact DC w (hm.below rfl) (VwB.out w hm))) ?_)|(refine wlE ?_)|(refine efSvvp ?_;intro v hv hp)|(refine efSvao ?_;intro v oa ho)|(refine efAFvao ?_;intro v oa ho)|(refine efZCnn ?_;intro n hn)|(refine efBnn ?_;intro n hn)|(refine efB ?_)|(refine efBS ?_)|(refine wl_skip rfl rfl ?_)|((with_reducible refine wc_seq ?_);intro K hK)|(refine auC ?_)|(refine wc_cond rfl (fun hc=>?_) (fun hc=>?_))|((with_reducible refine wc_drawT (by kernel_rfl) ?_);(try simp only [List.append_eq,List.cons_append,List.nil_append,List.length_cons,List.length_nil,Nat.reduceAdd]))|((with_reducible refine sel_wh ?_);(refine wh_if (by decide +kernel) ?_);first|(refine wh_take (lq:=[]) rfl rfl rfl rfl (by first|exact rvS|exact rvB|exact rvE) (Or.inl rfl) ?_)|(refine wh_takeL rfl rfl rfl rfl (by first|exact rvS|exact rvB|exact rvE) (by decide +kernel) ?_))|(refine whS ?_;intro v hv hp)|((with_reducible refine sel_wh ?_);first|(refine wh_pass rfl rfl rfl rfl ?_)|(refine wh_done rfl ?_)|(refine wh_all rfl ?_))|((with_reducible refine sel_rest ?_);first|exact rest_nil rfl|refine rest_cons rfl rfl ?_ ?_)|((with_reducible refine sel_nx ?_);first|refine next_of ?_|refine next_late (by decide +kernel) ?_)|(refine auP ?_)|((refine auR ?_);clear hK K)|(refine auR ?_)|((with_reducible refine hK _ _ ?_);clear hK K)|fail)
 all_goals (first|refine end_ret (ResP.cell rfl ld_whole ResP.nil) ?_|refine end_normal (ResP.cell rfl ld_whole ResP.nil) ?_)
 all_goals (first|rfl|(show _=_;rfl)|(simp only [tupV, *];done))
end Go.Proofs.YtkendlnjaopbeaaGreatDoor
