/- Primes by what has as high an order as it can: plain laws,no program in sight. Certificates: 2^255 - 19 and the order of the base are primes. Printed by pratt.py. -/
namespace Go.Proofs.YtkendlnjaopbeaaGreatDoor
set_option linter.unusedVariables false
def qpowF (p a:Nat):Nat→Nat→Nat
 | 0,_=>1 % p
 | f+1,n=>if n=0 then 1 % p else let h:=qpowF p a f (n / 2);if n % 2=1 then h * h % p * a % p else h * h % p
def qpowP (p a n:Nat):Nat:=qpowF p a (n.log2+1) n
theorem qpowF_is (p a:Nat):∀ f n,n<2 ^ f→qpowF p a f n=a ^ n % p
 | 0,n,h=>by
  have:n=0:=by simpa using h
  subst this;rfl
 | f+1,n,h=>by
  unfold qpowF
  by_cases h0:n=0
  ·subst h0;rfl
  ·rw [if_neg h0]
   have ih:=qpowF_is p a f (n / 2) (by rw [Nat.pow_succ] at h;omega)
   dsimp only
   rw [ih]
   by_cases h1:n % 2=1
   ·rw [if_pos h1,←Nat.mul_mod,←Nat.pow_add,Nat.mod_mul_mod,←Nat.pow_succ,show (n / 2+n / 2).succ=n by omega]
   ·rw [if_neg h1,Nat.mod_mul_mod,Nat.mul_mod_mod,←Nat.pow_add,show n / 2+n / 2=n by omega]
theorem qpow_is (p a n:Nat):qpowP p a n=a ^ n % p:=qpowF_is p a _ n Nat.lt_log2_self
def Prime (p:Nat):Prop:=2≤p∧∀ d,d ∣ p→d=1∨d=p
theorem Prime.pos {p:Nat}(h:Prime p):0<p:=by have:=h.1;omega
theorem Prime.coprime {p a:Nat}(h:Prime p)(ha:¬p ∣ a):Nat.gcd a p=1:=by
 rcases h.2 _ (Nat.gcd_dvd_right a p) with h1|h1
 ·exact h1
 ·exact absurd (h1 ▸ Nat.gcd_dvd_left a p) ha
theorem Prime.dvd_mul {p a b:Nat}(h:Prime p)(hd:p ∣ a * b):p ∣ a∨p ∣ b:=by
 by_cases ha:p ∣ a
 ·exact .inl ha
 ·refine .inr ?_
  have hc:Nat.Coprime p a:=by rw [Nat.coprime_comm];exact h.coprime ha
  exact hc.dvd_of_dvd_mul_left hd
theorem Prime.dvd_pow {p a:Nat}(h:Prime p):∀ {n:Nat},p ∣ a ^ n→p ∣ a
 | 0,hd=>by
  rw [Nat.pow_zero] at hd
  have:=Nat.le_of_dvd (by decide) hd
  have:=h.1
  omega
 | n+1,hd=>by
  rw [Nat.pow_succ] at hd
  rcases h.dvd_mul hd with h1|h1
  ·exact h.dvd_pow h1
  ·exact h1
def IsOrd (p g k:Nat):Prop:=0<k∧g ^ k % p=1∧∀ j,0<j→g ^ j % p=1→k≤j
theorem exists_ord {p g n:Nat}(hn:0<n)(h:g ^ n % p=1):∃ k,IsOrd p g k:=by
 have key:∀ m,(∃ j,0<j∧j≤m∧g ^ j % p=1)→∃ k,IsOrd p g k:=by
  intro m
  induction m with
  | zero=>rintro ⟨j,h1,h2,-⟩;omega
  | succ m ih=>
   rintro ⟨j,h1,h2,h3⟩
   by_cases hm:∃ j,0<j∧j≤m∧g ^ j % p=1
   ·exact ih hm
   ·refine ⟨j,h1,h3,fun i hi hp=>?_⟩
    have:¬i≤m:=fun hle=>hm ⟨i,hi,hle,hp⟩
    omega
 exact key n ⟨n,hn,Nat.le_refl _,h⟩
theorem one_mod {p:Nat}(hp:2≤p):1 % p=1:=Nat.mod_eq_of_lt hp
theorem pow_mod_mul {p g m n:Nat}:g ^ (m * n) % p=(g ^ m % p) ^ n % p:=by rw [Nat.pow_mul,Nat.pow_mod]
theorem ord_dvd {p g k n:Nat}(hp:2≤p)(ho:IsOrd p g k)(h:g ^ n % p=1):k ∣ n:=by
 obtain ⟨h0,h1,h2⟩:=ho
 have e:g ^ n % p=g ^ (n % k) % p:=by
  have hd:=Nat.mod_add_div n k
  conv=>lhs;rw [←hd]
  rw [Nat.pow_add,Nat.mul_mod,pow_mod_mul,h1,Nat.one_pow,one_mod hp,Nat.mul_one,Nat.mod_mod]
 rw [e] at h
 rcases Nat.eq_zero_or_pos (n % k) with h3|h3
 ·exact Nat.dvd_of_mod_eq_zero h3
 ·have:=h2 _ h3 h
  have:=Nat.mod_lt n h0
  omega
theorem exists_prime {n:Nat}(h:2≤n):∃ q,Prime q∧q ∣ n:=by
 induction n using Nat.strongRecOn with
 | _ n ih=>
  by_cases hp:Prime n
  ·exact ⟨n,hp,Nat.dvd_refl n⟩
  ·have:∃ d,d ∣ n∧d≠1∧d≠n:=by
    apply Classical.byContradiction
    intro hno
    refine hp ⟨h,fun d hd=>?_⟩
    apply Classical.byContradiction
    intro hn
    exact hno ⟨d,hd,fun e=>hn (.inl e),fun e=>hn (.inr e)⟩
   obtain ⟨d,hd,h1,h2⟩:=this
   have hle:=Nat.le_of_dvd (by omega) hd
   have h0:d≠0:=fun e=>by subst e;rw [Nat.zero_dvd] at hd;omega
   obtain ⟨q,hq,hqd⟩:=ih d (by omega) (by omega)
   exact ⟨q,hq,Nat.dvd_trans hqd hd⟩
theorem prime_of_prod {q:Nat}(hq:Prime q):∀ (l:List Nat),(∀ x∈l,Prime x)→q ∣ l.foldr (· * ·) 1→q∈l
 | [],_,h=>by
  have:=Nat.le_of_dvd (by decide) h
  have:=hq.1
  simp only [List.foldr_nil] at *
  omega
 | x::l,hl,h=>by
  rw [List.foldr_cons] at h
  rcases hq.dvd_mul h with h1|h1
  ·rcases (hl x List.mem_cons_self).2 q h1 with h2|h2
   ·have:=hq.1;omega
   ·exact h2 ▸ List.mem_cons_self
  ·exact List.mem_cons_of_mem _ (prime_of_prod hq l (fun y hy=>hl y (List.mem_cons_of_mem _ hy)) h1)
theorem ord_full {p g n:Nat}{l:List Nat}(hp:2≤p)(hl:∀ x∈l,Prime x)(hn:n=l.foldr (· * ·) 1)(h1:g ^ n % p=1)(hq:∀ q∈l,g ^ (n / q) % p≠1)(h0:0<n):IsOrd p g n:=by
 obtain ⟨k,ho⟩:=exists_ord h0 h1
 obtain ⟨c,hc⟩:=ord_dvd hp ho h1
 by_cases h2:2≤c
 ·obtain ⟨q,hqp,d,hd⟩:=exists_prime h2
  have hqn:q ∣ n:=⟨k * d,by rw [hc,hd,Nat.mul_left_comm]⟩
  have hm:=prime_of_prod hqp l hl (hn ▸ hqn)
  refine absurd ?_ (hq q hm)
  have:n / q=k * d:=by
   rw [hc,hd,Nat.mul_left_comm,Nat.mul_div_cancel_left _ hqp.pos]
  rw [this,pow_mod_mul,ho.2.1,Nat.one_pow,one_mod hp]
 ·have:c=1:=by
   rcases Nat.eq_zero_or_pos c with hz|hz
   ·subst hz;omega
   ·omega
  subst this
  rw [Nat.mul_one] at hc
  rw [hc];exact ho
theorem ord_inj {p g n i j:Nat}(hp:2≤p)(ho:IsOrd p g n)(hi:i<n)(hj:j<n)(h:g ^ i % p=g ^ j % p):i=j:=by
 have key:∀ i j,i<j→j<n→g ^ i % p=g ^ j % p→False:=by
  intro i j hij hj h
  have e:g ^ (j+(n - j)) % p=g ^ (i+(n - j)) % p:=by rw [Nat.pow_add,Nat.pow_add,Nat.mul_mod,←h,←Nat.mul_mod]
  rw [show j+(n - j)=n by omega,ho.2.1] at e
  have:=ho.2.2 (i+(n - j)) (by omega) e.symm
  omega
 rcases Nat.lt_trichotomy i j with h1|h1|h1
 ·exact (key i j h1 hj h).elim
 ·exact h1
 ·exact (key j i h1 hi h.symm).elim
theorem surj_of_inj:∀ (n:Nat) (f:Nat→Nat),(∀ i,i<n→f i<n)→(∀ i j,i<n→j<n→f i=f j→i=j)→∀ y,y<n→∃ i,i<n∧f i=y
 | 0,_,_,_,y,hy=>by omega
 | n+1,f,hf,hi,y,hy=>by
  let g:Nat→Nat:=fun i=>if f i=n then f n else f i
  have hg:∀ i,i<n→g i<n:=fun i hin=>by
   show (if f i=n then f n else f i)<n
   have h1:=hf i (by omega)
   have h2:=hf n (by omega)
   split
   ·rename_i e
    rcases Nat.lt_or_ge (f n) n with h|h
    ·exact h
    ·have:f n=f i:=by omega
     have:=hi n i (by omega) (by omega) this
     omega
   ·omega
  have hgi:∀ i j,i<n→j<n→g i=g j→i=j:=fun i j hin hjn h=>by
   replace h:(if f i=n then f n else f i)=(if f j=n then f n else f j):=h
   split at h <;> split at h
   ·rename_i a b;exact hi i j (by omega) (by omega) (a.trans b.symm)
   ·have:=hi n j (by omega) (by omega) h;omega
   ·have:=hi i n (by omega) (by omega) h;omega
   ·exact hi i j (by omega) (by omega) h
  have ih:=surj_of_inj n g hg hgi
  by_cases hyn:y<n
  ·obtain ⟨i,h1,h2⟩:=ih y hyn
   replace h2:(if f i=n then f n else f i)=y:=h2
   split at h2
   ·exact ⟨n,by omega,h2⟩
   ·exact ⟨i,by omega,h2⟩
  ·have hy':y=n:=by omega
   subst hy'
   apply Classical.byContradiction
   intro hno
   have hne:∀ i,i<y+1→f i≠y:=fun i h1 h2=>hno ⟨i,h1,h2⟩
   have hfn:f y<y:=by have:=hf y (by omega);have:=hne y (by omega);omega
   obtain ⟨i,h1,h2⟩:=ih (f y) hfn
   replace h2:(if f i=y then f y else f i)=f y:=h2
   rw [if_neg (hne i (by omega))] at h2
   have:=hi i y (by omega) (by omega) h2
   omega
theorem gen_all {p g:Nat}(hp:2≤p)(ho:IsOrd p g (p - 1)):∀ a,0<a→a<p→∃ i,i<p - 1∧g ^ i % p=a:=by
 have hne:∀ i,i<p - 1→0<g ^ i % p:=fun i hi=>by
  rcases Nat.eq_zero_or_pos (g ^ i % p) with h|h
  ·exfalso
   have:g ^ (i+(p - 1 - i)) % p=0:=by rw [Nat.pow_add,Nat.mul_mod,h,Nat.zero_mul,Nat.zero_mod]
   rw [show i+(p - 1 - i)=p - 1 by omega,ho.2.1] at this
   omega
  ·exact h
 intro a h0 ha
 obtain ⟨i,h1,h2⟩:=surj_of_inj (p - 1) (fun i=>g ^ i % p - 1) (fun i hi=>by have:=hne i hi;have:=Nat.mod_lt (g ^ i) (show 0<p by omega);omega)
  (fun i j hi hj h=>ord_inj hp ho hi hj (by have:=hne i hi;have:=hne j hj;omega)) (a - 1) (by omega)
 refine ⟨i,h1,?_⟩
 have:=hne i h1
 omega
theorem prime_of_ord {p g:Nat}(hp:2≤p)(ho:IsOrd p g (p - 1)):Prime p:=by
 refine ⟨hp,fun d hd=>?_⟩
 have hle:=Nat.le_of_dvd (by omega) hd
 have h0:0<d:=by
  rcases Nat.eq_zero_or_pos d with h|h
  ·subst h;rw [Nat.zero_dvd] at hd;omega
  ·exact h
 rcases Nat.lt_or_ge d p with hlt|hge
 ·left
  obtain ⟨i,hi,he⟩:=gen_all hp ho d h0 hlt
  have h1:d * g ^ (p - 1 - i) % p=1:=by
   rw [←he,Nat.mod_mul_mod,←Nat.pow_add,show i+(p - 1 - i)=p - 1 by omega];exact ho.2.1
  have h2:d ∣ 1:=by
   rw [←h1]
   exact (Nat.dvd_mod_iff hd).2 (Nat.dvd_mul_right d _)
  exact Nat.le_antisymm (Nat.le_of_dvd (by decide) h2) h0
 ·right;omega
def certB (p g:Nat)(l:List Nat):Bool:=decide (2≤p) && decide (p - 1=l.foldr (· * ·) 1) && decide (qpowP p g (p - 1)=1) && l.all fun q=>decide (qpowP p g ((p - 1) / q)≠1)
theorem cert_ord {p g:Nat}{l:List Nat}(h:certB p g l=true)(hl:∀ x∈l,Prime x):IsOrd p g (p - 1):=by
 simp only [certB,Bool.and_eq_true,decide_eq_true_eq,List.all_eq_true] at h
 obtain ⟨⟨⟨h1,h2⟩,h3⟩,h4⟩:=h
 rw [qpow_is] at h3
 exact ord_full h1 hl h2 h3 (fun q hq=>by have:=h4 q hq;rwa [qpow_is] at this) (by omega)
theorem cert_prime {p g:Nat}{l:List Nat}(h:certB p g l=true)(hl:∀ x∈l,Prime x):Prime p:=by
 have h1:2≤p:=by
  simp only [certB,Bool.and_eq_true,decide_eq_true_eq] at h
  exact h.1.1.1
 exact prime_of_ord h1 (cert_ord h hl)
def smallB (p:Nat):Bool:=decide (2≤p) && (List.range p).all fun d=>decide (d * d>p) || decide (d≤1) || decide (p % d≠0)
theorem small_prime {p:Nat}(h:smallB p=true):Prime p:=by
 simp only [smallB,Bool.and_eq_true,decide_eq_true_eq,List.all_eq_true,List.mem_range,Bool.or_eq_true] at h
 obtain ⟨h1,h2⟩:=h
 refine ⟨h1,fun d hd=>?_⟩
 obtain ⟨c,hc⟩:=hd
 have h0:0<d:=Nat.pos_of_ne_zero fun e=>by subst e;omega
 have c0:0<c:=Nat.pos_of_ne_zero fun e=>by subst e;omega
 have key:∀ x y,0<x→0<y→p=x * y→x≤y→x=1:=fun x y hx hy he hle=>by
  by_cases hx1:x≤1
  ·omega
  ·exfalso
   have hxp:x<p:=by
    have:x * 2≤x * y:=Nat.mul_le_mul_left x (by omega)
    omega
   rcases h2 x hxp with (h3|h3)|h3
   ·have:x * x≤x * y:=Nat.mul_le_mul_left x hle
    omega
   ·omega
   ·exact h3 (by rw [he];exact Nat.mul_mod_right x y)
 rcases Nat.le_total d c with h3|h3
 ·exact .inl (key d c h0 c0 hc h3)
 ·have:=key c d c0 h0 (by rw [hc,Nat.mul_comm]) h3
  subst this
  right;omega
end Go.Proofs.YtkendlnjaopbeaaGreatDoor
namespace Go.Proofs.YtkendlnjaopbeaaGreatDoor
theorem prime_2:Prime 2:=small_prime (by decide +kernel)
theorem prime_3:Prime 3:=small_prime (by decide +kernel)
theorem prime_5:Prime 5:=small_prime (by decide +kernel)
theorem prime_7:Prime 7:=small_prime (by decide +kernel)
theorem prime_11:Prime 11:=small_prime (by decide +kernel)
theorem prime_13:Prime 13:=small_prime (by decide +kernel)
theorem prime_17:Prime 17:=small_prime (by decide +kernel)
theorem prime_19:Prime 19:=small_prime (by decide +kernel)
theorem prime_23:Prime 23:=small_prime (by decide +kernel)
theorem prime_29:Prime 29:=small_prime (by decide +kernel)
theorem prime_31:Prime 31:=small_prime (by decide +kernel)
theorem prime_37:Prime 37:=small_prime (by decide +kernel)
theorem prime_41:Prime 41:=small_prime (by decide +kernel)
theorem prime_43:Prime 43:=small_prime (by decide +kernel)
theorem prime_47:Prime 47:=small_prime (by decide +kernel)
theorem prime_53:Prime 53:=small_prime (by decide +kernel)
theorem prime_59:Prime 59:=small_prime (by decide +kernel)
theorem prime_83:Prime 83:=small_prime (by decide +kernel)
theorem prime_97:Prime 97:=small_prime (by decide +kernel)
theorem cert_239:certB 239 7 [2,7,17]=true:=by decide +kernel
theorem parts_239:∀ x∈([2,7,17]:List Nat),Prime x:=by
 intro x hx
 simp only [List.mem_cons,List.not_mem_nil,or_false] at hx
 rcases hx with rfl|rfl|rfl
 ·exact prime_2
 ·exact prime_7
 ·exact prime_17
theorem prime_239:Prime 239:=cert_prime cert_239 parts_239
theorem cert_479:certB 479 13 [2,239]=true:=by decide +kernel
theorem parts_479:∀ x∈([2,239]:List Nat),Prime x:=by
 intro x hx
 simp only [List.mem_cons,List.not_mem_nil,or_false] at hx
 rcases hx with rfl|rfl
 ·exact prime_2
 ·exact prime_239
theorem prime_479:Prime 479:=cert_prime cert_479 parts_479
theorem cert_32573:certB 32573 2 [2,2,17,479]=true:=by decide +kernel
theorem parts_32573:∀ x∈([2,2,17,479]:List Nat),Prime x:=by
 intro x hx
 simp only [List.mem_cons,List.not_mem_nil,or_false] at hx
 rcases hx with rfl|rfl|rfl|rfl
 ·exact prime_2
 ·exact prime_2
 ·exact prime_17
 ·exact prime_479
theorem prime_32573:Prime 32573:=cert_prime cert_32573 parts_32573
theorem cert_65147:certB 65147 2 [2,32573]=true:=by decide +kernel
theorem parts_65147:∀ x∈([2,32573]:List Nat),Prime x:=by
 intro x hx
 simp only [List.mem_cons,List.not_mem_nil,or_false] at hx
 rcases hx with rfl|rfl
 ·exact prime_2
 ·exact prime_32573
theorem prime_65147:Prime 65147:=cert_prime cert_65147 parts_65147
theorem cert_353:certB 353 3 [2,2,2,2,2,11]=true:=by decide +kernel
theorem parts_353:∀ x∈([2,2,2,2,2,11]:List Nat),Prime x:=by
 intro x hx
 simp only [List.mem_cons,List.not_mem_nil,or_false] at hx
 rcases hx with rfl|rfl|rfl|rfl|rfl|rfl
 ·exact prime_2
 ·exact prime_2
 ·exact prime_2
 ·exact prime_2
 ·exact prime_2
 ·exact prime_11
theorem prime_353:Prime 353:=cert_prime cert_353 parts_353
theorem cert_487:certB 487 3 [2,3,3,3,3,3]=true:=by decide +kernel
theorem parts_487:∀ x∈([2,3,3,3,3,3]:List Nat),Prime x:=by
 intro x hx
 simp only [List.mem_cons,List.not_mem_nil,or_false] at hx
 rcases hx with rfl|rfl|rfl|rfl|rfl|rfl
 ·exact prime_2
 ·exact prime_3
 ·exact prime_3
 ·exact prime_3
 ·exact prime_3
 ·exact prime_3
theorem prime_487:Prime 487:=cert_prime cert_487 parts_487
theorem cert_57467:certB 57467 2 [2,59,487]=true:=by decide +kernel
theorem parts_57467:∀ x∈([2,59,487]:List Nat),Prime x:=by
 intro x hx
 simp only [List.mem_cons,List.not_mem_nil,or_false] at hx
 rcases hx with rfl|rfl|rfl
 ·exact prime_2
 ·exact prime_59
 ·exact prime_487
theorem prime_57467:Prime 57467:=cert_prime cert_57467 parts_57467
theorem cert_131:certB 131 2 [2,5,13]=true:=by decide +kernel
theorem parts_131:∀ x∈([2,5,13]:List Nat),Prime x:=by
 intro x hx
 simp only [List.mem_cons,List.not_mem_nil,or_false] at hx
 rcases hx with rfl|rfl|rfl
 ·exact prime_2
 ·exact prime_5
 ·exact prime_13
theorem prime_131:Prime 131:=cert_prime cert_131 parts_131
theorem cert_132049:certB 132049 26 [2,2,2,2,3,3,7,131]=true:=by decide +kernel
theorem parts_132049:∀ x∈([2,2,2,2,3,3,7,131]:List Nat),Prime x:=by
 intro x hx
 simp only [List.mem_cons,List.not_mem_nil,or_false] at hx
 rcases hx with rfl|rfl|rfl|rfl|rfl|rfl|rfl|rfl
 ·exact prime_2
 ·exact prime_2
 ·exact prime_2
 ·exact prime_2
 ·exact prime_3
 ·exact prime_3
 ·exact prime_7
 ·exact prime_131
theorem prime_132049:Prime 132049:=cert_prime cert_132049 parts_132049
theorem cert_3727:certB 3727 3 [2,3,3,3,3,23]=true:=by decide +kernel
theorem parts_3727:∀ x∈([2,3,3,3,3,23]:List Nat),Prime x:=by
 intro x hx
 simp only [List.mem_cons,List.not_mem_nil,or_false] at hx
 rcases hx with rfl|rfl|rfl|rfl|rfl|rfl
 ·exact prime_2
 ·exact prime_3
 ·exact prime_3
 ·exact prime_3
 ·exact prime_3
 ·exact prime_23
theorem prime_3727:Prime 3727:=cert_prime cert_3727 parts_3727
theorem cert_1923133:certB 1923133 2 [2,2,3,43,3727]=true:=by decide +kernel
theorem parts_1923133:∀ x∈([2,2,3,43,3727]:List Nat),Prime x:=by
 intro x hx
 simp only [List.mem_cons,List.not_mem_nil,or_false] at hx
 rcases hx with rfl|rfl|rfl|rfl|rfl
 ·exact prime_2
 ·exact prime_2
 ·exact prime_3
 ·exact prime_43
 ·exact prime_3727
theorem prime_1923133:Prime 1923133:=cert_prime cert_1923133 parts_1923133
theorem cert_107:certB 107 2 [2,53]=true:=by decide +kernel
theorem parts_107:∀ x∈([2,53]:List Nat),Prime x:=by
 intro x hx
 simp only [List.mem_cons,List.not_mem_nil,or_false] at hx
 rcases hx with rfl|rfl
 ·exact prime_2
 ·exact prime_53
theorem prime_107:Prime 107:=cert_prime cert_107 parts_107
theorem cert_223:certB 223 3 [2,3,37]=true:=by decide +kernel
theorem parts_223:∀ x∈([2,3,37]:List Nat),Prime x:=by
 intro x hx
 simp only [List.mem_cons,List.not_mem_nil,or_false] at hx
 rcases hx with rfl|rfl|rfl
 ·exact prime_2
 ·exact prime_3
 ·exact prime_37
theorem prime_223:Prime 223:=cert_prime cert_223 parts_223
theorem cert_173:certB 173 2 [2,2,43]=true:=by decide +kernel
theorem parts_173:∀ x∈([2,2,43]:List Nat),Prime x:=by
 intro x hx
 simp only [List.mem_cons,List.not_mem_nil,or_false] at hx
 rcases hx with rfl|rfl|rfl
 ·exact prime_2
 ·exact prime_2
 ·exact prime_43
theorem prime_173:Prime 173:=cert_prime cert_173 parts_173
theorem cert_4153:certB 4153 5 [2,2,2,3,173]=true:=by decide +kernel
theorem parts_4153:∀ x∈([2,2,2,3,173]:List Nat),Prime x:=by
 intro x hx
 simp only [List.mem_cons,List.not_mem_nil,or_false] at hx
 rcases hx with rfl|rfl|rfl|rfl|rfl
 ·exact prime_2
 ·exact prime_2
 ·exact prime_2
 ·exact prime_3
 ·exact prime_173
theorem prime_4153:Prime 4153:=cert_prime cert_4153 parts_4153
theorem cert_1723:certB 1723 3 [2,3,7,41]=true:=by decide +kernel
theorem parts_1723:∀ x∈([2,3,7,41]:List Nat),Prime x:=by
 intro x hx
 simp only [List.mem_cons,List.not_mem_nil,or_false] at hx
 rcases hx with rfl|rfl|rfl|rfl
 ·exact prime_2
 ·exact prime_3
 ·exact prime_7
 ·exact prime_41
theorem prime_1723:Prime 1723:=cert_prime cert_1723 parts_1723
theorem cert_430751:certB 430751 17 [2,5,5,5,1723]=true:=by decide +kernel
theorem parts_430751:∀ x∈([2,5,5,5,1723]:List Nat),Prime x:=by
 intro x hx
 simp only [List.mem_cons,List.not_mem_nil,or_false] at hx
 rcases hx with rfl|rfl|rfl|rfl|rfl
 ·exact prime_2
 ·exact prime_5
 ·exact prime_5
 ·exact prime_5
 ·exact prime_1723
theorem prime_430751:Prime 430751:=cert_prime cert_430751 parts_430751
theorem cert_31757755568855353:certB 31757755568855353 10 [2,2,2,3,31,107,223,4153,430751]=true:=by decide +kernel
theorem parts_31757755568855353:∀ x∈([2,2,2,3,31,107,223,4153,430751]:List Nat),Prime x:=by
 intro x hx
 simp only [List.mem_cons,List.not_mem_nil,or_false] at hx
 rcases hx with rfl|rfl|rfl|rfl|rfl|rfl|rfl|rfl|rfl
 ·exact prime_2
 ·exact prime_2
 ·exact prime_2
 ·exact prime_3
 ·exact prime_31
 ·exact prime_107
 ·exact prime_223
 ·exact prime_4153
 ·exact prime_430751
theorem prime_31757755568855353:Prime 31757755568855353:=cert_prime cert_31757755568855353 parts_31757755568855353
theorem cert_9463:certB 9463 3 [2,3,19,83]=true:=by decide +kernel
theorem parts_9463:∀ x∈([2,3,19,83]:List Nat),Prime x:=by
 intro x hx
 simp only [List.mem_cons,List.not_mem_nil,or_false] at hx
 rcases hx with rfl|rfl|rfl|rfl
 ·exact prime_2
 ·exact prime_3
 ·exact prime_19
 ·exact prime_83
theorem prime_9463:Prime 9463:=cert_prime cert_9463 parts_9463
theorem cert_37853:certB 37853 2 [2,2,9463]=true:=by decide +kernel
theorem parts_37853:∀ x∈([2,2,9463]:List Nat),Prime x:=by
 intro x hx
 simp only [List.mem_cons,List.not_mem_nil,or_false] at hx
 rcases hx with rfl|rfl|rfl
 ·exact prime_2
 ·exact prime_2
 ·exact prime_9463
theorem prime_37853:Prime 37853:=cert_prime cert_37853 parts_37853
theorem cert_75707:certB 75707 2 [2,37853]=true:=by decide +kernel
theorem parts_75707:∀ x∈([2,37853]:List Nat),Prime x:=by
 intro x hx
 simp only [List.mem_cons,List.not_mem_nil,or_false] at hx
 rcases hx with rfl|rfl
 ·exact prime_2
 ·exact prime_37853
theorem prime_75707:Prime 75707:=cert_prime cert_75707 parts_75707
theorem cert_2437:certB 2437 2 [2,2,3,7,29]=true:=by decide +kernel
theorem parts_2437:∀ x∈([2,2,3,7,29]:List Nat),Prime x:=by
 intro x hx
 simp only [List.mem_cons,List.not_mem_nil,or_false] at hx
 rcases hx with rfl|rfl|rfl|rfl|rfl
 ·exact prime_2
 ·exact prime_2
 ·exact prime_3
 ·exact prime_7
 ·exact prime_29
theorem prime_2437:Prime 2437:=cert_prime cert_2437 parts_2437
theorem cert_419:certB 419 2 [2,11,19]=true:=by decide +kernel
theorem parts_419:∀ x∈([2,11,19]:List Nat),Prime x:=by
 intro x hx
 simp only [List.mem_cons,List.not_mem_nil,or_false] at hx
 rcases hx with rfl|rfl|rfl
 ·exact prime_2
 ·exact prime_11
 ·exact prime_19
theorem prime_419:Prime 419:=cert_prime cert_419 parts_419
theorem cert_569003:certB 569003 2 [2,7,97,419]=true:=by decide +kernel
theorem parts_569003:∀ x∈([2,7,97,419]:List Nat),Prime x:=by
 intro x hx
 simp only [List.mem_cons,List.not_mem_nil,or_false] at hx
 rcases hx with rfl|rfl|rfl|rfl
 ·exact prime_2
 ·exact prime_7
 ·exact prime_97
 ·exact prime_419
theorem prime_569003:Prime 569003:=cert_prime cert_569003 parts_569003
theorem cert_2773320623:certB 2773320623 5 [2,2437,569003]=true:=by decide +kernel
theorem parts_2773320623:∀ x∈([2,2437,569003]:List Nat),Prime x:=by
 intro x hx
 simp only [List.mem_cons,List.not_mem_nil,or_false] at hx
 rcases hx with rfl|rfl|rfl
 ·exact prime_2
 ·exact prime_2437
 ·exact prime_569003
theorem prime_2773320623:Prime 2773320623:=cert_prime cert_2773320623 parts_2773320623
theorem cert_72106336199:certB 72106336199 7 [2,13,2773320623]=true:=by decide +kernel
theorem parts_72106336199:∀ x∈([2,13,2773320623]:List Nat),Prime x:=by
 intro x hx
 simp only [List.mem_cons,List.not_mem_nil,or_false] at hx
 rcases hx with rfl|rfl|rfl
 ·exact prime_2
 ·exact prime_13
 ·exact prime_2773320623
theorem prime_72106336199:Prime 72106336199:=cert_prime cert_72106336199 parts_72106336199
theorem cert_127:certB 127 3 [2,3,3,7]=true:=by decide +kernel
theorem parts_127:∀ x∈([2,3,3,7]:List Nat),Prime x:=by
 intro x hx
 simp only [List.mem_cons,List.not_mem_nil,or_false] at hx
 rcases hx with rfl|rfl|rfl|rfl
 ·exact prime_2
 ·exact prime_3
 ·exact prime_3
 ·exact prime_7
theorem prime_127:Prime 127:=cert_prime cert_127 parts_127
theorem cert_103:certB 103 5 [2,3,17]=true:=by decide +kernel
theorem parts_103:∀ x∈([2,3,17]:List Nat),Prime x:=by
 intro x hx
 simp only [List.mem_cons,List.not_mem_nil,or_false] at hx
 rcases hx with rfl|rfl|rfl
 ·exact prime_2
 ·exact prime_3
 ·exact prime_17
theorem prime_103:Prime 103:=cert_prime cert_103 parts_103
theorem cert_991:certB 991 6 [2,3,3,5,11]=true:=by decide +kernel
theorem parts_991:∀ x∈([2,3,3,5,11]:List Nat),Prime x:=by
 intro x hx
 simp only [List.mem_cons,List.not_mem_nil,or_false] at hx
 rcases hx with rfl|rfl|rfl|rfl|rfl
 ·exact prime_2
 ·exact prime_3
 ·exact prime_3
 ·exact prime_5
 ·exact prime_11
theorem prime_991:Prime 991:=cert_prime cert_991 parts_991
theorem cert_8574133:certB 8574133 2 [2,2,3,7,103,991]=true:=by decide +kernel
theorem parts_8574133:∀ x∈([2,2,3,7,103,991]:List Nat),Prime x:=by
 intro x hx
 simp only [List.mem_cons,List.not_mem_nil,or_false] at hx
 rcases hx with rfl|rfl|rfl|rfl|rfl|rfl
 ·exact prime_2
 ·exact prime_2
 ·exact prime_3
 ·exact prime_7
 ·exact prime_103
 ·exact prime_991
theorem prime_8574133:Prime 8574133:=cert_prime cert_8574133 parts_8574133
theorem cert_1919519569386763:certB 1919519569386763 2 [2,3,7,19,47,47,127,8574133]=true:=by decide +kernel
theorem parts_1919519569386763:∀ x∈([2,3,7,19,47,47,127,8574133]:List Nat),Prime x:=by
 intro x hx
 simp only [List.mem_cons,List.not_mem_nil,or_false] at hx
 rcases hx with rfl|rfl|rfl|rfl|rfl|rfl|rfl|rfl
 ·exact prime_2
 ·exact prime_3
 ·exact prime_7
 ·exact prime_19
 ·exact prime_47
 ·exact prime_47
 ·exact prime_127
 ·exact prime_8574133
theorem prime_1919519569386763:Prime 1919519569386763:=cert_prime cert_1919519569386763 parts_1919519569386763
theorem cert_75445702479781427272750846543864801:certB 75445702479781427272750846543864801 7 [2,2,2,2,2,3,3,5,5,75707,72106336199,1919519569386763]=true:=by decide +kernel
theorem parts_75445702479781427272750846543864801:∀ x∈([2,2,2,2,2,3,3,5,5,75707,72106336199,1919519569386763]:List Nat),Prime x:=by
 intro x hx
 simp only [List.mem_cons,List.not_mem_nil,or_false] at hx
 rcases hx with rfl|rfl|rfl|rfl|rfl|rfl|rfl|rfl|rfl|rfl|rfl|rfl
 ·exact prime_2
 ·exact prime_2
 ·exact prime_2
 ·exact prime_2
 ·exact prime_2
 ·exact prime_3
 ·exact prime_3
 ·exact prime_5
 ·exact prime_5
 ·exact prime_75707
 ·exact prime_72106336199
 ·exact prime_1919519569386763
theorem prime_75445702479781427272750846543864801:Prime 75445702479781427272750846543864801:=cert_prime cert_75445702479781427272750846543864801 parts_75445702479781427272750846543864801
theorem cert_74058212732561358302231226437062788676166966415465897661863160754340907:certB 74058212732561358302231226437062788676166966415465897661863160754340907 2 [2,3,353,57467,132049,1923133,31757755568855353,75445702479781427272750846543864801]=true:=by decide +kernel
theorem parts_74058212732561358302231226437062788676166966415465897661863160754340907:∀ x∈([2,3,353,57467,132049,1923133,31757755568855353,75445702479781427272750846543864801]:List Nat),Prime x:=by
 intro x hx
 simp only [List.mem_cons,List.not_mem_nil,or_false] at hx
 rcases hx with rfl|rfl|rfl|rfl|rfl|rfl|rfl|rfl
 ·exact prime_2
 ·exact prime_3
 ·exact prime_353
 ·exact prime_57467
 ·exact prime_132049
 ·exact prime_1923133
 ·exact prime_31757755568855353
 ·exact prime_75445702479781427272750846543864801
theorem prime_74058212732561358302231226437062788676166966415465897661863160754340907:Prime 74058212732561358302231226437062788676166966415465897661863160754340907:=cert_prime cert_74058212732561358302231226437062788676166966415465897661863160754340907 parts_74058212732561358302231226437062788676166966415465897661863160754340907
theorem cert_57896044618658097711785492504343953926634992332820282019728792003956564819949:certB 57896044618658097711785492504343953926634992332820282019728792003956564819949 2 [2,2,3,65147,74058212732561358302231226437062788676166966415465897661863160754340907]=true:=by decide +kernel
theorem parts_57896044618658097711785492504343953926634992332820282019728792003956564819949:∀ x∈([2,2,3,65147,74058212732561358302231226437062788676166966415465897661863160754340907]:List Nat),Prime x:=by
 intro x hx
 simp only [List.mem_cons,List.not_mem_nil,or_false] at hx
 rcases hx with rfl|rfl|rfl|rfl|rfl
 ·exact prime_2
 ·exact prime_2
 ·exact prime_3
 ·exact prime_65147
 ·exact prime_74058212732561358302231226437062788676166966415465897661863160754340907
theorem prime_57896044618658097711785492504343953926634992332820282019728792003956564819949:Prime 57896044618658097711785492504343953926634992332820282019728792003956564819949:=cert_prime cert_57896044618658097711785492504343953926634992332820282019728792003956564819949 parts_57896044618658097711785492504343953926634992332820282019728792003956564819949
theorem ord_P:IsOrd 57896044618658097711785492504343953926634992332820282019728792003956564819949 2 (57896044618658097711785492504343953926634992332820282019728792003956564819949 - 1):=cert_ord cert_57896044618658097711785492504343953926634992332820282019728792003956564819949 parts_57896044618658097711785492504343953926634992332820282019728792003956564819949
theorem prime_P:Prime 57896044618658097711785492504343953926634992332820282019728792003956564819949:=prime_57896044618658097711785492504343953926634992332820282019728792003956564819949
end Go.Proofs.YtkendlnjaopbeaaGreatDoor
