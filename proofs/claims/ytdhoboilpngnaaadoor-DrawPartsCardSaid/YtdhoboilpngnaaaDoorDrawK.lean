/- Bytes out of a seed: the contracts, by key and place. -/
import Derived.Test.YtdhoboilpngnaaaDoorDrawC
import Derived.Test.YtdhoboilpngnaaaDoorBeq
namespace Go.Proofs.YtdhoboilpngnaaaDoor
open Go.RowKit
attribute [local irreducible] rwA bys iw blkD byteD MS.sum MS.write
set_option linter.unusedVariables false
set_option linter.unusedSimpArgs false
theorem new_k (w : World) (hT : Tab w) : ∀ w', Below w.heap.size w w' → ∀ {v : Value} {n : Nat} {key : List Nat}, Cb w' v n key →
    Calls Tryd.prog 24 [v].toArray w' (RetO (fun n => ptr n) (fun n oa => ∃ s : Src, SrcOk s ∧ s.key = newM key ∧ s.place = 0 ∧ oa = [(n, (rwA (sgS s), 94))]) w') := fun w' hb v n key hq => by
  haveI : ByL key := ⟨hq.ok.by'⟩
  exact (new_d w hT w' hb hq).mono fun e w'' ⟨x, oa, he, hφ, hu⟩ => ⟨x, oa, he, ⟨newS key, newS_ok, rfl, rfl, hφ⟩, hu⟩
theorem bytes_k (w : World) (hT : Tab w) {K : MS} {p g n : Nat} {s : Src} (hs : SrcOk s) (hk : s.key = K) (hl : s.place = p) (hn : n ≤ 4096) (hp : p + n < 18446744073709551616) : ∀ w', Below w.heap.size w w' → w.heap.size ≤ g → w'.heap[g]? = some (.cells (rwA (sgS s)) 94) →
    Calls Tryd.prog 25 [ptr g, .int .i64 (n : Int)].toArray w' (RetPO (fun v => .tuple #[v, .int .i64 0]) g (rwA (sgS s)) 94
      (fun v c oa => OwnB 5 v n (bytesD K p n) oa ∧ ∃ s' : Src, SrcOk s' ∧ s'.key = K ∧ s'.place = p + n ∧ c = rwA (sgS s')) w') := fun w' hb hf hg => by
  subst hk; subst hl
  exact (bytes_c w hT w' hb hs hn hp hf hg).mono fun e w'' ⟨x, c, oa, he, ⟨h1, s', h2, h3, h4, h5⟩, hu⟩ => ⟨x, c, oa, he, ⟨h1, s', h4, h2, h3, h5⟩, hu⟩
theorem skip_k {K : MS} {p g n : Nat} {s : Src} (hs : SrcOk s) (hk : s.key = K) (hl : s.place = p) (hn : n ≤ 4096) (hp : p + n < 18446744073709551616) : ∀ w', w'.heap[g]? = some (.cells (rwA (sgS s)) 94) →
    Calls Tryd.prog 29 [ptr g, .int .i64 (n : Int)].toArray w' (RetP (fun _ : Unit => .int .i64 0) g (rwA (sgS s)) 94
      (fun _ c => ∃ s' : Src, SrcOk s' ∧ s'.key = K ∧ s'.place = p + n ∧ c = rwA (sgS s')) w') := fun w' hg => by
  subst hk; subst hl
  exact (skip_c w' hs hn hp hg).mono fun e w'' ⟨x, c, he, ⟨s', h2, h3, h4, h5⟩, hu⟩ => ⟨x, c, he, ⟨s', h4, h2, h3, h5⟩, hu⟩
theorem place_k {p g : Nat} {s : Src} (hs : SrcOk s) (hl : s.place = p) : ∀ w', w'.heap[g]? = some (.cells (rwA (sgS s)) 94) →
    Calls Tryd.prog 26 [ptr g].toArray w' (Ret (.int .u64 (p : Int)) w') := fun w' hg => by
  subst hl
  exact place_c w' hs hg
theorem newM_dig {key : List Nat} (h : key.length > 64) : newM (dig key) = newM key := by rw [newM, keyL_long key h, newM]
end Go.Proofs.YtdhoboilpngnaaaDoor
