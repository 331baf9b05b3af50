/- Slices: what is read of them while memory stands; slices that only this walk holds. -/
import Derived.Test.YtkendlnjaopbeaaGreatDoorLwDraw
import Derived.Laws.AppendOwn
import Derived.Laws.OwnMore
import Derived.Laws.BytesString
namespace Go.Proofs.YtkendlnjaopbeaaGreatDoor
open Go.RowKit
set_option linter.unusedVariables false
set_option linter.unusedSimpArgs false
/-! ### What a slice reads -/
/-- A slice of n elements. -/
class Ln (v : Value) (n : outParam Nat) : Prop where
  out : ∃ p cap, v = .slice p n cap ∧ n ≤ cap ∧ cap ≤ maxLen ∧ (0 < n → ∃ b off, p = some ⟨b, off, none⟩)
instance {v : Value} {n : Nat} [h : Ln v n] : One v := ⟨by obtain ⟨p, cap, rfl, _⟩ := h.out; rfl⟩
/-- What it reads in a world, cell by cell. -/
structure Cs (w : World) (v : Value) (n : Nat) (xs : List Value) : Prop where
  ln : Ln v n
  cell : ∀ j u, xs[j]? = some u → ∃ b off cap, v = .slice (some ⟨b, off, none⟩) n cap ∧ w.cell? ⟨b, off + j, none⟩ = some u
def elB : Value → Nat
  | .slice (some a) _ _ => a.block
  | _ => 0
def elO : Value → Nat
  | .slice (some a) _ _ => a.off
  | _ => 0
/-- The same in all worlds of which Φ is told. -/
class CsF (Φ : outParam (World → Prop)) (v : Value) (n : outParam Nat) (xs : outParam (List Value)) : Prop where
  ln : Ln v n
  out : ∀ w, Φ w → Cs w v n xs
instance {Φ : World → Prop} {v : Value} {n : Nat} {xs : List Value} [h : CsF Φ v n xs] : Ln v n := h.ln
/-- Memory that was there, but for what may be written. -/
def Old (W : World) (own : List Nat) (w : World) : Prop := ∀ k, k < W.heap.size → k ∉ own → w.heap[k]? = W.heap[k]?
/-- These blocks hold this. -/
def Hd (od : Blks) (w : World) : Prop := ∀ p ∈ od, w.heap[p.1]? = some (toObj p.2)
class SubB (od l : Blks) : Prop where
  out : ∀ p ∈ od, p ∈ l
instance {od : Blks} : SubB od od := ⟨fun _ h => h⟩
instance {l : Blks} : SubB [] l := ⟨fun _ h => by cases h⟩
instance {od r : Blks} : SubB od (od ++ r) := ⟨fun _ h => List.mem_append_left _ h⟩
instance (priority := 900) {od l : Blks} {p : Nat × (Array Value × TypeId)} [h : SubB od l] : SubB od (p :: l) := ⟨fun q hq => List.mem_cons_of_mem _ (h.out q hq)⟩
instance (priority := 900) {od l ob : Blks} [h : SubB od l] : SubB od (ob ++ l) := ⟨fun q hq => List.mem_append_right _ (h.out q hq)⟩
instance (priority := 800) {oa ob l : Blks} [h : SubB oa l] [h' : SubB ob l] : SubB (oa ++ ob) l := ⟨fun q hq => (List.mem_append.1 hq).elim (h.out q) (h'.out q)⟩
instance (priority := 1100) {l r : Blks} {p : Nat × (Array Value × TypeId)} [h : SubB r (p :: l)] : SubB (p :: r) (p :: l) := ⟨fun q hq => (List.mem_cons.1 hq).elim (fun e => e ▸ List.mem_cons_self) (h.out q)⟩
/-- The state tells it. -/
class Hold (X : Cx) (l : Blks) (Φ : World → Prop) : Prop where
  out : ∀ w, Mem X l w → Φ w
instance {P : Program} {W : World} {N : Nat} {own : List Nat} {l : Blks} : Hold ⟨P, W, N, own⟩ l (Old W own) := ⟨fun w hm => hm.cls.old⟩
instance {X : Cx} {l od : Blks} [h : SubB od l] : Hold X l (Hd od) := ⟨fun w hm p hp => hm.cls.now p.1 p.2.1 p.2.2 (mu_mem_of (h.out p hp) hm.nd)⟩
class Vw (X : Cx) (l : Blks) (v : Value) (n : outParam Nat) (xs : outParam (List Value)) : Prop where
  out : ∀ w, Mem X l w → Cs w v n xs
instance {X : Cx} {l : Blks} {Φ : World → Prop} {v : Value} {n : Nat} {xs : List Value} [h : CsF Φ v n xs] [h' : Hold X l Φ] : Vw X l v n xs := ⟨fun w hm => h.out w (h'.out w hm)⟩
instance : CsF (Hd []) (.slice none 0 0) 0 [] := ⟨⟨none, 0, rfl, Nat.le_refl _, Nat.zero_le _, fun h => absurd h (by omega)⟩, fun w _ => ⟨⟨none, 0, rfl, Nat.le_refl _, Nat.zero_le _, fun h => absurd h (by omega)⟩, fun j u h => by simp at h⟩⟩
theorem Cs.stay {w w' : World} {v : Value} {n : Nat} {xs : List Value} (h : Cs w v n xs) (hb : ∀ b off cap, v = .slice (some ⟨b, off, none⟩) n cap → b < w.heap.size → w'.heap[b]? = w.heap[b]?) : Cs w' v n xs :=
  ⟨h.ln, fun j u hj => by
    obtain ⟨b, off, cap, hv, hc⟩ := h.cell j u hj
    exact ⟨b, off, cap, hv, (World.cell?_of_block (a := ⟨b, off + j, none⟩) (hb b off cap hv (World.block_lt_of_cell? _ _ hc))).trans hc⟩⟩
theorem Cs.below {w w' : World} {v : Value} {n : Nat} {xs : List Value} (h : Cs w v n xs) (hb : Below w.heap.size w w') : Cs w' v n xs := h.stay fun b _ _ _ hlt => hb.block b hlt
/-- What came in. -/
theorem Cs.old {W : World} {v : Value} {n : Nat} {xs : List Value} (h : Cs W v n xs) : CsF (Old W []) v n xs := ⟨h.ln, fun w ho => h.stay fun b _ _ _ hlt => ho b hlt (by simp)⟩
/-! ### Slices of the walk's own -/
/-- A slice that nobody else holds: its contents; its block, if it has one, is oa. -/
class OwnL (e size : semiOutParam Nat) (v : Value) (n : outParam Nat) (xs : outParam (List Value)) (oa : outParam Blks) : Prop where
  len : xs.length = n * size
  out : (v = .slice none 0 0 ∧ n = 0 ∧ oa = []) ∨
   ∃ g cap cur, v = .slice (some ⟨g, 0, none⟩) n cap ∧ n ≤ cap ∧ cap ≤ maxLen ∧ cur.size = cap * size ∧ cur.toList.take (n * size) = xs ∧ oa = [(g, (cur, e))]
  tb : oa = [] ∨ Nat.blt e BIG = true
theorem OwnL.big {e size : Nat} {v : Value} {n : Nat} {xs : List Value} {p : Nat × (Array Value × TypeId)} (h : OwnL e size v n xs [p]) : Nat.blt e BIG = true := by
  rcases h.tb with h | h
  · cases h
  · exact h
theorem OwnL.row {e size : Nat} {v : Value} {n : Nat} {xs : List Value} {oa : Blks} (h : OwnL e size v n xs oa) {w : World} (hd : Hd oa w) : w.ownsRow 0 e size v n xs := by
  refine ⟨h.len, ?_⟩
  rcases h.out with ⟨rfl, rfl, rfl⟩ | ⟨g, cap, cur, rfl, hnc, hcm, hcs, htake, rfl⟩
  · exact .inl ⟨rfl, rfl⟩
  · exact .inr ⟨g, cap, cur, rfl, Nat.zero_le _, (hd (g, (cur, e)) (by simp)).trans (congrArg some (toObj_cells h.big)), hnc, hcm, hcs, htake⟩
theorem OwnL.ln {e size : Nat} {v : Value} {n : Nat} {xs : List Value} {oa : Blks} (h : OwnL e size v n xs oa) : Ln v n := by
  rcases h.out with ⟨rfl, rfl, rfl⟩ | ⟨g, cap, cur, rfl, hnc, hcm, hcs, htake, rfl⟩
  · exact ⟨none, 0, rfl, Nat.le_refl _, Nat.zero_le _, fun h => absurd h (by omega)⟩
  · exact ⟨some ⟨g, 0, none⟩, cap, rfl, hnc, hcm, fun _ => ⟨g, 0, rfl⟩⟩
instance OwnL.cs {e size : Nat} {v : Value} {n : Nat} {xs : List Value} {oa : Blks} [h : OwnL e size v n xs oa] : CsF (Hd oa) v n xs := ⟨h.ln, fun w hd => ⟨h.ln, fun j u hj => by
  have hr := h.row hd
  rcases h.out with ⟨rfl, rfl, rfl⟩ | ⟨g, cap, cur, rfl, hnc, hcm, hcs, htake, rfl⟩
  · have := h.len
    have hx : xs = [] := List.eq_nil_of_length_eq_zero (by simpa using this)
    subst hx
    simp at hj
  · refine ⟨g, 0, cap, rfl, ?_⟩
    have := hr.cells (g := g) rfl j u hj
    rwa [Addr.add_mid] at this⟩⟩
theorem OwnL.nil (e size : Nat) : OwnL e size (.slice none 0 0) 0 [] [] := ⟨by simp, .inl ⟨rfl, rfl, rfl⟩, .inl rfl⟩
/-! ### Where such a slice's block stands in the state -/
/-- What is put behind the state. -/
class Snoc (l : Blks) (f : outParam (Blks → Blks)) : Prop where
  out : ∀ o, f o = l ++ o
instance : Snoc [] (fun o => o) := ⟨fun _ => rfl⟩
instance {p : Nat × (Array Value × TypeId)} {l : Blks} {f : Blks → Blks} [h : Snoc l f] : Snoc (p :: l) (fun o => p :: f o) := ⟨fun o => by rw [h.out]; rfl⟩
instance {ob l : Blks} {f : Blks → Blks} [h : Snoc l f] : Snoc (ob ++ l) (fun o => ob ++ f o) := ⟨fun o => by rw [h.out, List.append_assoc]⟩
instance (priority := 800) {ob : Blks} : Snoc ob (fun o => ob ++ o) := ⟨fun o => rfl⟩
/-- What stands in its place. -/
class Seg (l oa : Blks) (f : outParam (Blks → Blks)) : Prop where
  out : ∃ pre post, l = pre ++ (oa ++ post) ∧ ∀ o, f o = pre ++ (o ++ post)
instance {oa r : Blks} : Seg (oa ++ r) oa (fun o => o ++ r) := ⟨[], r, rfl, fun _ => rfl⟩
instance {oa : Blks} : Seg oa oa (fun o => o) := ⟨[], [], by simp, fun _ => by simp⟩
instance (priority := 900) {p : Nat × (Array Value × TypeId)} {l oa : Blks} {f : Blks → Blks} [h : Seg l oa f] : Seg (p :: l) oa (fun o => p :: f o) := by
  obtain ⟨pre, post, h1, h2⟩ := h.out
  exact ⟨p :: pre, post, by rw [h1]; rfl, fun o => by rw [h2]; rfl⟩
instance (priority := 900) {ob l oa : Blks} {f : Blks → Blks} [h : Seg l oa f] : Seg (ob ++ l) oa (fun o => ob ++ f o) := by
  obtain ⟨pre, post, h1, h2⟩ := h.out
  exact ⟨ob ++ pre, post, by rw [h1, List.append_assoc], fun o => by rw [h2, List.append_assoc]⟩
instance (priority := 950) {l : Blks} {f : Blks → Blks} [h : Snoc l f] : Seg l [] f := ⟨l, [], by simp, fun o => by rw [h.out, List.append_nil]⟩
section
variable {X : Cx}
theorem Mem.perm {l l' : Blks} {w : World} (h : Mem X l w) (hp : l'.Perm l) : Mem X l' w :=
  h.sub' ((hp.map (·.1)).nodup_iff.2 h.nd) fun p hq => hp.mem_iff.1 hq
theorem Mem.drew {l : Blks} {w : World} (h : Mem X l w) : Mem X l w.drew := h.grow ⟨rfl, rfl, rfl, Nat.le_refl _, fun _ _ => rfl⟩
theorem At.app {n : Nat} {x y : Array Value × TypeId} {post : Blks} : ∀ pre : Blks, At (pre ++ ((n, x) :: post)) n x y (pre ++ ((n, y) :: post))
  | [] => .here
  | p :: r => .there (At.app r)
/-- What a call, or a run of an operation, makes of some blocks: they may be written and left; others come; all else is as it was. -/
structure Upd (w : World) (oa : Blks) (w' : World) (oa' : Blks) : Prop where
  os : w'.os = w.os
  tape : w'.tape = w.tape
  output : w'.output = w.output
  size : w.heap.size ≤ w'.heap.size
  old : ∀ k, k < w.heap.size → k ∉ keys oa → w'.heap[k]? = w.heap[k]?
  nd : (keys oa').Nodup
  now : Hd oa' w'
  fresh : ∀ n ∈ keys oa', n ∈ keys oa ∨ w.heap.size ≤ n
theorem keys_app (a b : Blks) : keys (a ++ b) = keys a ++ keys b := by simp [keys]
theorem Upd.mem {w w' : World} {oa oa' l : Blks} {f : Blks → Blks} (hm : Mem X l w) [hs : Seg l oa f] (h : Upd w oa w' oa') : Mem X (f oa') w' := by
  obtain ⟨pre, post, rfl, h2⟩ := hs.out
  rw [h2]
  have nd := hm.nd
  have lt : ∀ n ∈ keys (pre ++ (oa ++ post)), n < w.heap.size := fun n hn => hm.lt hn
  simp only [keys_app, List.mem_append] at lt nd
  have nd' : (keys (pre ++ (oa' ++ post))).Nodup := by
    simp only [keys_app, List.nodup_append, List.mem_append] at nd ⊢
    obtain ⟨n1, ⟨n2, n3, n4⟩, n5⟩ := nd
    refine ⟨n1, ⟨h.nd, n3, fun a ha b hb e => ?_⟩, fun a ha b hb e => ?_⟩
    · subst e
      rcases h.fresh a ha with h1 | h1
      · exact n4 a h1 a hb rfl
      · have := lt a (.inr (.inr hb)); omega
    · subst e
      rcases hb with hb | hb
      · rcases h.fresh a hb with h1 | h1
        · exact n5 a ha a (.inl h1) rfl
        · have := lt a (.inl ha); omega
      · exact n5 a ha a (.inr hb) rfl
  have other : ∀ p, p ∈ pre ++ post → w'.heap[p.1]? = some (toObj p.2) := fun p hp => by
    have hin : p ∈ pre ++ (oa ++ post) := by
      simp only [List.mem_append] at hp ⊢
      rcases hp with hp | hp
      · exact .inl hp
      · exact .inr (.inr hp)
    have hnow := hm.cls.now p.1 p.2.1 p.2.2 (mu_mem_of hin hm.nd)
    rw [h.old p.1 (blk_lt hnow) (fun hk => ?_)]
    · exact hnow
    · simp only [List.nodup_append, List.mem_append] at nd
      obtain ⟨n1, ⟨n2, n3, n4⟩, n5⟩ := nd
      have hp1 : ∀ q : Blks, p ∈ q → p.1 ∈ keys q := fun q hq => List.mem_map.2 ⟨p, hq, rfl⟩
      simp only [List.mem_append] at hp
      rcases hp with hp | hp
      · exact n5 _ (hp1 _ hp) _ (.inl hk) rfl
      · exact n4 _ hk _ (hp1 _ hp) rfl
  refine ⟨nd', ⟨h.os.trans hm.cls.os, h.tape.trans hm.cls.tape, h.output.trans hm.cls.output, Nat.le_trans hm.cls.size h.size, fun k hk ho => ?_, fun k c t hx => ?_⟩, fun n hn hlt => ?_⟩
  · rw [h.old k (Nat.lt_of_lt_of_le hk hm.cls.size) (fun hin => ho (hm.fresh k (by simp only [keys_app, List.mem_append]; exact .inr (.inl hin)) hk))]
    exact hm.cls.old k hk ho
  · have hin := mu_in hx
    simp only [List.mem_append] at hin
    rcases hin with hin | hin | hin
    · exact other (k, (c, t)) (by simp [hin])
    · exact h.now (k, (c, t)) hin
    · exact other (k, (c, t)) (by simp [hin])
  · simp only [keys_app, List.mem_append] at hn
    rcases hn with hn | hn | hn
    · exact hm.fresh n (by simp only [keys_app, List.mem_append]; exact .inl hn) hlt
    · rcases h.fresh n hn with h1 | h1
      · exact hm.fresh n (by simp only [keys_app, List.mem_append]; exact .inr (.inl h1)) hlt
      · have := hm.cls.size; omega
    · exact hm.fresh n (by simp only [keys_app, List.mem_append]; exact .inr (.inr hn)) hlt
theorem Upd.of_below {w w' : World} {oa : Blks} (h : Below w.heap.size w w') (nd : (keys oa).Nodup) (fr : ∀ n ∈ keys oa, w.heap.size ≤ n) (now : Hd oa w') : Upd w [] w' oa :=
  ⟨h.os, h.tape, h.output, h.size, fun k hk _ => h.block k hk, nd, now, fun n hn => .inr (fr n hn)⟩
theorem Upd.below {w w' : World} {oa : Blks} (h : Upd w [] w' oa) : Below w.heap.size w w' := ⟨h.os, h.tape, h.output, h.size, fun k hk => h.old k hk (by simp [keys])⟩
end
/-! ### append -/
/-- What is known of an element's type. -/
class EI (P : Program) (e : Nat) (size bytes : outParam Nat) (z : outParam (Array Value)) : Prop where
  out : ∃ i zv, P.info? e = some i ∧ i.size = size ∧ i.bytes = bytes ∧ i.zero = some zv ∧ zv.cells = z ∧ z.size = size
  tb : Nat.blt e BIG = true
theorem hd_one {g : Nat} {x : Array Value × TypeId} {w : World} (h : w.heap[g]? = some (toObj x)) : Hd [(g, x)] w := fun p hp => by
  simp only [List.mem_singleton] at hp
  subst hp
  exact h
theorem upd_new {w w1 : World} (h1 : w1.os = w.os) (h2 : w1.tape = w.tape) (h3 : w1.output = w.output) (h4 : w1.heap = w.heap) (oa : Blks) (c : Array Value) (e : Nat) (hb : Nat.blt e BIG = true := by first | rfl | assumption) : Upd w oa (w1.alloc (.cells c e)) [(w.heap.size, (c, e))] := by
  refine ⟨h1, h2, h3, by simp [h4], fun k hk _ => ?_, by simp [keys], hd_one ?_, fun n hn => ?_⟩
  · show (w1.heap.push _)[k]? = _
    rw [h4, Array.getElem?_push, if_neg (by omega)]
  · show (w1.heap.push _)[w.heap.size]? = _
    rw [h4, Array.getElem?_push, if_pos rfl, toObj_cells hb]
  · simp only [keys, List.map_cons, List.map_nil, List.mem_singleton] at hn
    subst hn; exact .inr (Nat.le_refl _)
/-- What is appended to such a slice makes such a slice. -/
theorem append_own {P : Program} {oa : Blks} {w : World} {t ty e size bytes : Nat} {z : Array Value} {u v : Value} {n m : Nat} {xs ys : List Value}
    (ht : P.underlying t = some (.slice e)) (hei : EI P e size bytes z) (hown : OwnL e size v n xs oa) (hd : Hd oa w) (hu : Cs w u m ys) (hl : ys.length = m * size) (h1 : ∀ y ∈ ys, y.oneCell' = true)
    (h63 : n + m ≤ maxLen) (hb : (n + m) * bytes ≤ 140737488355328) :
    ∃ v' w' oa', (Builtin.append_ #[t, t] ty #[v, u]).run P w = .ok v' w' ∧ OwnL e size v' (n + m) (xs ++ ys) oa' ∧ Upd w oa w' oa' := by
  have hbig := hei.tb
  obtain ⟨i, zv, hi, rfl, rfl, hz, rfl, hzs⟩ := hei.out
  clear hei
  have hxl := hown.len
  have hnd : (keys oa).Nodup := by rcases hown.out with ⟨_, _, rfl⟩ | ⟨g, cap, cur, _, _, _, _, _, rfl⟩ <;> simp [keys]
  have hlen : (xs ++ ys).length = (n + m) * i.size := by rw [List.length_append, hxl, hl, Nat.add_mul]
  obtain ⟨p, c, rfl, hmc, hcm', hp⟩ := hu.ln.out
  by_cases h0 : m = 0
  · subst h0
    have hn : ys = [] := List.eq_nil_of_length_eq_zero (by simpa using hl)
    subst hn
    refine ⟨v, w, oa, ?_, by simpa using hown, rfl, rfl, rfl, Nat.le_refl _, fun _ _ _ => rfl, hnd, hd, fun n hn => .inl hn⟩
    rcases hown.out with ⟨rfl, rfl, rfl⟩ | ⟨g, cap, cur, rfl, hnc, hcm, hcs, htake, rfl⟩
    · cases p <;> simp [Builtin.append_, run_underlying ht, sizeOf, typeInfo, hi, Builtin.lenOf, Builtin.firstCells, loadCells, loadCellsFrom]
    · cases p <;> simp [Builtin.append_, run_underlying ht, sizeOf, typeInfo, hi, Builtin.lenOf, Builtin.firstCells, loadCells, loadCellsFrom, hnc, storeCells]
  obtain ⟨b, off, rfl⟩ := hp (by omega)
  have hnews : ∀ j y, ys[j]? = some y → w.cell? ((⟨b, off, none⟩ : Addr).add j) = some y := fun j y hj => by
    obtain ⟨b', off', cap', hv, hc⟩ := hu.cell j y hj
    injection hv with hv
    injection hv with hv
    injection hv with hb' ho'
    subst hb'; subst ho'
    rw [Addr.add_mid]; exact hc
  have size_new : ∀ k, n + m ≤ k → (xs.toArray ++ ys.toArray ++ Builtin.zeroCells zv.cells (k - (n + m))).size = k * i.size := fun k hk => by
    simp only [Array.size_append, List.size_toArray, size_zeroCells, hzs]
    rw [hxl, hl, ← Nat.add_mul, ← Nat.add_mul]
    congr 1
    omega
  have take_new : ∀ k, (xs.toArray ++ ys.toArray ++ Builtin.zeroCells zv.cells (k - (n + m))).toList.take ((n + m) * i.size) = xs ++ ys := fun k => by
    simp only [Array.toList_append, List.append_assoc]
    rw [← List.append_assoc, ← hlen]
    exact List.take_left
  rcases hown.out with ⟨rfl, rfl, rfl⟩ | ⟨g, cap, cur, rfl, hnc, hcm, hcs, htake, rfl⟩
  · have hx : xs = [] := List.eq_nil_of_length_eq_zero (by simpa using hxl)
    subst hx
    have hr := run_append_nil (P := P) w t ty e i zv ht hi hz ⟨b, off, none⟩ m c ys hl hnews (by omega) (by simp only [maxLen] at h63; omega) (by rw [Nat.zero_add] at hb; omega)
    have hge := grownCap_ge w m 0 e
    have hcl := grownCap_le_maxLen w m 0 e (by omega)
    have hs := size_new (grownCap w m 0 e) (by omega)
    have htk := take_new (grownCap w m 0 e)
    simp only [Nat.zero_add, List.nil_append, Array.empty_append] at hs htk hlen ⊢
    exact ⟨_, _, [(w.heap.size, (_, e))], hr, ⟨hlen, .inr ⟨w.heap.size, _, _, rfl, hge, hcl, hs, htk, rfl⟩, .inr hbig⟩, upd_new (w := w) (w1 := w.drew) rfl rfl rfl rfl [] _ e⟩
  · have hg : w.heap[g]? = some (.cells cur e (0, 0)) := (hd (g, (cur, e)) (by simp)).trans (congrArg some (toObj_cells hbig))
    by_cases hroom : n + m ≤ cap
    · have hfit : n * i.size + ys.length ≤ cur.size := by rw [hl, hcs, ← Nat.add_mul]; exact Nat.mul_le_mul_right _ hroom
      have hr := run_append_room (P := P) w t ty e i ht hi g n cap cur hg ⟨b, off, none⟩ m c ys hl hnews h1 hroom hfit
      refine ⟨_, _, [(g, (_, e))], hr, ⟨hlen, .inr ⟨g, cap, _, rfl, hroom, hcm, ?_, ?_, rfl⟩, .inr hbig⟩, rfl, rfl, rfl, by simp, fun k hk hne => setRow_other w g k _ (fun e => hne (by simp [keys, e])), by simp [keys], hd_one ((setRow_heap w g cur _ e _ hg).trans (congrArg some (toObj_cells hbig).symm)), fun n hn => .inl (by simpa [keys] using hn)⟩
      · simp only [List.size_toArray, List.length_append, List.length_take, List.length_drop, Array.length_toList]
        omega
      · rw [htake, ← hlen]
        exact List.take_left
    · have holds : ∀ j y, xs[j]? = some y → w.cell? ((⟨g, 0, none⟩ : Addr).add j) = some y := (hown.row hd).cells (g := g) rfl
      have hr := run_append_grow (P := P) w t ty e i zv ht hi hz ⟨g, 0, none⟩ n cap xs hxl holds ⟨b, off, none⟩ m c ys hl hnews (by omega) (by simp only [maxLen] at h63; omega) (growslice_fits (by omega) hb)
      have hge := grownCap_ge w (n + m) cap e
      have hcl := grownCap_le_maxLen w (n + m) cap e h63
      exact ⟨_, _, [(w.heap.size, (_, e))], hr, ⟨hlen, .inr ⟨w.heap.size, _, _, rfl, hge, hcl, size_new _ hge, take_new _, rfl⟩, .inr hbig⟩, upd_new (w := w) (w1 := w.drew) rfl rfl rfl rfl _ _ e⟩
/-! ### Bytes -/
/-- Bytes as cells. -/
def bl (l : List Nat) : List Value := l.map fun (k : Nat) => Value.int .u8 (k : Int)
theorem bl_len (l : List Nat) : (bl l).length = l.length := by simp [bl]
theorem bl_app (a b : List Nat) : bl (a ++ b) = bl a ++ bl b := by simp [bl]
theorem bl_get {l : List Nat} {i : Nat} (h : i < l.length) : (bl l)[i]? = some (.int .u8 ((l.getD i 0 : Nat) : Int)) := by simp [bl, h, List.getD]
theorem bl_one (l : List Nat) : ∀ y ∈ bl l, y.oneCell' = true := fun y hy => by
  obtain ⟨k, _, rfl⟩ := List.mem_map.1 hy
  rfl
theorem bl_drop (l : List Nat) (k : Nat) : (bl l).drop k = bl (l.drop k) := by simp [bl]
theorem bl_take (l : List Nat) (k : Nat) : (bl l).take k = bl (l.take k) := by simp [bl]
theorem bl_set (l : List Nat) (i k : Nat) : (bl l).set i (.int .u8 (k : Int)) = bl (l.set i k) := by simp [bl]
end Go.Proofs.YtkendlnjaopbeaaGreatDoor
