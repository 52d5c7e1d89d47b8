/- A slice of the call's own: what it reads as, what a store, a cut and an append leave; no condition. -/
import Derived.Test.YtncbnejldlfbdaaChecked
import Derived.Test.YtncbnejldlfbdaaWLast
import Derived.Test.YtncbnejldlfbdaaWMore
import Derived.ArgAppend
namespace Go.Proofs.Ytncbnejldlfbdaa.PHeap
open Go.RowKit Go.Proofs.YtncbnejldlfbdaaW.PrintWords Go.Proofs.YtncbnejldlfbdaaW.PrintLast Go.Proofs.YtncbnejldlfbdaaW.PrintMore

/-- a slice of n elements (type e, size cells each) whose cells are xs, at the head of a block that lies at or behind base -/
def Row (w : World) (base e size : Nat) (v : Value) (n : Nat) (xs : List Value) : Prop :=
  xs.length = n * size ∧ ((v = .slice none 0 0 ∧ n = 0) ∨ ∃ g cap cur, v = .slice (some ⟨g, 0, none⟩) n cap ∧ base ≤ g ∧ w.heap[g]? = some (.cells cur e (0, 0)) ∧ n ≤ cap ∧ cap ≤ maxLen ∧ cur.size = cap * size ∧ cur.toList.take (n * size) = xs)
section
variable {w w1 : World} {base e size n : Nat} {v : Value} {xs : List Value}
theorem Row.nil (w : World) (base e size : Nat) : Row w base e size (.slice none 0 0) 0 [] := ⟨by simp, .inl ⟨rfl, rfl⟩⟩
theorem Row.of_own (h : w.ownsRow base e size v n xs) : Row w base e size v n xs := h
theorem Row.own (h : Row w base e size v n xs) : w.ownsRow base e size v n xs := h
theorem Row.form (h : Row w base e size v n xs) : ∃ A c, v = .slice A n c ∧ n ≤ c := by
  rcases h.2 with ⟨rfl, rfl⟩ | ⟨g, cap, cur, rfl, _, _, hn, _⟩
  · exact ⟨_, _, rfl, Nat.le_refl _⟩
  · exact ⟨_, _, rfl, hn⟩
theorem Row.typed (h : Row w base e size v n xs) (k : Nat) (hk : v.ownBlock = some k) : base ≤ k ∧ ∃ cells, w.heap[k]? = some (.cells cells e (0, 0)) := by
  rcases h.2 with ⟨rfl, _⟩ | ⟨g, cap, cur, rfl, hb, hg, _⟩
  · simp [Value.ownBlock] at hk
  · have : g = k := by simpa [Value.ownBlock] using hk
    subst this
    exact ⟨hb, cur, hg⟩
theorem Row.lt (h : Row w base e size v n xs) (k : Nat) (hk : v.ownBlock = some k) : k < w.heap.size := by
  obtain ⟨_, cells, hc⟩ := h.typed k hk
  exact blk_lt hc
theorem Row.ne (h : Row w base e size v n xs) {g t : Nat} {cs : Array Value} (hb : w.heap[g]? = some (.cells cs t (0, 0))) (ht : e ≠ t) (k : Nat) (hk : v.ownBlock = some k) : k ≠ g := by
  obtain ⟨_, cells, hc⟩ := h.typed k hk
  exact blk_ne hc hb ht
theorem Row.move (h : Row w base e size v n xs) (hm : ∀ k, v.ownBlock = some k → w1.heap[k]? = w.heap[k]?) : Row w1 base e size v n xs := by
  refine ⟨h.1, ?_⟩
  rcases h.2 with h2 | ⟨g, cap, cur, rfl, hb, hg, r⟩
  · exact .inl h2
  · exact .inr ⟨g, cap, cur, rfl, hb, (hm g (by simp [Value.ownBlock])).trans hg, r⟩
theorem Row.below (h : Row w base e size v n xs) (hb : Below w.heap.size w w1) : Row w1 base e size v n xs := h.move (fun k hk => hb.block k (h.lt k hk))
theorem Row.grown (h : Row w base e size v n xs) {row : Option Nat} (hg : w.grownBy w1 row) (hne : ∀ k, v.ownBlock = some k → some k ≠ row) : Row w1 base e size v n xs := h.move (fun k hk => hg.block k (h.lt k hk) (hne k hk))
theorem Row.far (h : Row w base e size v n xs) {p : Addr} (hne : ∀ k, v.ownBlock = some k → k ≠ p.block) (u : Value) : Row (w.setCell p u) base e size v n xs := h.move (fun k hk => Below.heap_setCell w p u k (hne k hk))
/-- a row of which something is there lies at a block's head; its cells -/
theorem Row.at_ (h : Row w base e size v n xs) (hn : 0 < n) : ∃ g cap cur, v = .slice (some ⟨g, 0, none⟩) n cap ∧ base ≤ g ∧ w.heap[g]? = some (.cells cur e (0, 0)) ∧ (∀ q, q < n * size → w.cell? ⟨g, q, none⟩ = xs[q]?) ∧ ∀ q, w.frozen? ⟨g, q, none⟩ = false := by
  rcases h.2 with ⟨_, rfl⟩ | ⟨g, cap, cur, rfl, hb, hg, hc, hm, hs, ht⟩
  · omega
  · refine ⟨g, cap, cur, rfl, hb, hg, fun q hq => ?_, fun q => blk_frozen hg q⟩
    rw [blk_cell hg, ← ht, List.getElem?_take_of_lt hq, Array.getElem?_toList]
/-- a cell is another one -/
theorem Row.put {g cap : Nat} (h : Row w base e size (.slice (some ⟨g, 0, none⟩) n cap) n xs) (q : Nat) (u : Value) : Row (w.setCell ⟨g, q, none⟩ u) base e size (.slice (some ⟨g, 0, none⟩) n cap) n (xs.set q u) := by
  refine ⟨by rw [List.length_set]; exact h.1, ?_⟩
  rcases h.2 with ⟨hv, _⟩ | ⟨g', cap', cur, hv, hb, hg, hc, hm, hs, ht⟩
  · simp at hv
  · simp only [Value.slice.injEq, Option.some.injEq, Addr.mk.injEq, and_true, true_and] at hv
    obtain ⟨rfl, rfl⟩ := hv
    exact .inr ⟨g, cap, _, rfl, hb, blk_set hg q u, hc, hm, by simpa using hs, by rw [Array.toList_setIfInBounds, List.take_set, ht]⟩
/-- the first of them -/
theorem Row.cut {A : Option Addr} {c m : Nat} (h : Row w base e size (.slice A n c) n xs) (hm : m ≤ n) : Row w base e size (.slice A m c) m (xs.take (m * size)) := by
  refine ⟨?_, ?_⟩
  · rw [List.length_take, h.1]; exact Nat.min_eq_left (Nat.mul_le_mul_right _ hm)
  rcases h.2 with ⟨hv, rfl⟩ | ⟨g, cap, cur, hv, hb, hg, hc, hmx, hs, ht⟩
  · obtain rfl : m = 0 := by omega
    simp only [Value.slice.injEq] at hv
    obtain ⟨rfl, _, rfl⟩ := hv
    exact .inl ⟨rfl, rfl⟩
  · simp only [Value.slice.injEq, true_and] at hv
    obtain ⟨rfl, rfl⟩ := hv
    refine .inr ⟨g, c, cur, rfl, hb, hg, by omega, hmx, hs, ?_⟩
    rw [← ht, List.take_take, Nat.min_eq_left (Nat.mul_le_mul_right _ hm)]
end
end Go.Proofs.Ytncbnejldlfbdaa.PHeap
