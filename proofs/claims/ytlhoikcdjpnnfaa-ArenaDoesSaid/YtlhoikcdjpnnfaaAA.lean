/- A slice of the call's own whose capacity may end ahead of its block's end (as after 'xs[:n:n]'): what it reads as, what a store, a cut and an append leave; no condition. -/
import Derived.Test.YtlhoikcdjpnnfaaDA
import Derived.ArgAppend
namespace Go.Proofs.Ytlhoikcdjpnnfaa.PArena
open Go.RowKit Go.Proofs.YtlhoikcdjpnnfaaW.PrintWords Go.Proofs.YtlhoikcdjpnnfaaW.PrintLast Go.Proofs.YtlhoikcdjpnnfaaW.PrintMore

/-- a slice of n elements (type e, size cells each) whose cells are xs, at the head of a block that lies at or behind base -/
def Row (w : World) (base e size : Nat) (v : Value) (n : Nat) (xs : List Value) : Prop :=
  xs.length = n * size ∧ ((v = .slice none 0 0 ∧ n = 0) ∨ ∃ g cap cur, v = .slice (some ⟨g, 0, none⟩) n cap ∧ base ≤ g ∧ w.heap[g]? = some (.cells cur e (0, 0)) ∧ n ≤ cap ∧ cap ≤ maxLen ∧ cap * size ≤ cur.size ∧ cur.toList.take (n * size) = xs)
section
variable {w w1 : World} {base e size n : Nat} {v : Value} {xs : List Value}
theorem Row.nil (w : World) (base e size : Nat) : Row w base e size (.slice none 0 0) 0 [] := ⟨by simp, .inl ⟨rfl, rfl⟩⟩
theorem Row.of_own (h : w.ownsRow base e size v n xs) : Row w base e size v n xs := by
  obtain ⟨h1, h2⟩ := h
  refine ⟨h1, ?_⟩
  rcases h2 with h2 | ⟨g, cap, cur, hv, hb, hg, hn, hm, hs, ht⟩
  · exact .inl h2
  · exact .inr ⟨g, cap, cur, hv, hb, hg, hn, hm, by omega, ht⟩
theorem Row.form (h : Row w base e size v n xs) : ∃ A c, v = .slice A n c ∧ n ≤ c := by
  rcases h.2 with ⟨rfl, rfl⟩ | ⟨g, cap, cur, rfl, _, _, hn, _⟩
  · exact ⟨_, _, rfl, Nat.le_refl _⟩
  · exact ⟨_, _, rfl, hn⟩
theorem Row.typed (h : Row w base e size v n xs) (k : Nat) (hk : v.ownBlock = some k) : base ≤ k ∧ ∃ cells, w.heap[k]? = some (.cells cells e (0, 0)) := by
  rcases h.2 with ⟨rfl, _⟩ | ⟨g, cap, cur, rfl, hb, hg, _⟩
  · simp [Value.ownBlock] at hk
  · have : g = k := by simpa [Value.ownBlock] using hk
    subst this
    exact ⟨hb, cur, hg⟩
theorem Row.lt (h : Row w base e size v n xs) (k : Nat) (hk : v.ownBlock = some k) : k < w.heap.size := by
  obtain ⟨_, cells, hc⟩ := h.typed k hk
  exact blk_lt hc
theorem Row.ne (h : Row w base e size v n xs) {g t : Nat} {cs : Array Value} (hb : w.heap[g]? = some (.cells cs t (0, 0))) (ht : e ≠ t) (k : Nat) (hk : v.ownBlock = some k) : k ≠ g := by
  obtain ⟨_, cells, hc⟩ := h.typed k hk
  exact blk_ne hc hb ht
theorem Row.move (h : Row w base e size v n xs) (hm : ∀ k, v.ownBlock = some k → w1.heap[k]? = w.heap[k]?) : Row w1 base e size v n xs := by
  refine ⟨h.1, ?_⟩
  rcases h.2 with h2 | ⟨g, cap, cur, rfl, hb, hg, r⟩
  · exact .inl h2
  · exact .inr ⟨g, cap, cur, rfl, hb, (hm g (by simp [Value.ownBlock])).trans hg, r⟩
theorem Row.below (h : Row w base e size v n xs) (hb : Below w.heap.size w w1) : Row w1 base e size v n xs := h.move (fun k hk => hb.block k (h.lt k hk))
theorem Row.grown (h : Row w base e size v n xs) {row : Option Nat} (hg : w.grownBy w1 row) (hne : ∀ k, v.ownBlock = some k → some k ≠ row) : Row w1 base e size v n xs := h.move (fun k hk => hg.block k (h.lt k hk) (hne k hk))
theorem Row.far (h : Row w base e size v n xs) {p : Addr} (hne : ∀ k, v.ownBlock = some k → k ≠ p.block) (u : Value) : Row (w.setCell p u) base e size v n xs := h.move (fun k hk => Below.heap_setCell w p u k (hne k hk))
/-- a row of which something is there lies at a block's head; its cells -/
theorem Row.at_ (h : Row w base e size v n xs) (hn : 0 < n) : ∃ g cap cur, v = .slice (some ⟨g, 0, none⟩) n cap ∧ base ≤ g ∧ w.heap[g]? = some (.cells cur e (0, 0)) ∧ (∀ q, q < n * size → w.cell? ⟨g, q, none⟩ = xs[q]?) ∧ ∀ q, w.frozen? ⟨g, q, none⟩ = false := by
  rcases h.2 with ⟨_, rfl⟩ | ⟨g, cap, cur, rfl, hb, hg, hc, hm, hs, ht⟩
  · omega
  · refine ⟨g, cap, cur, rfl, hb, hg, fun q hq => ?_, fun q => blk_frozen hg q⟩
    rw [blk_cell hg, ← ht, List.getElem?_take_of_lt hq, Array.getElem?_toList]
/-- a cell is another one -/
theorem Row.put {g cap : Nat} (h : Row w base e size (.slice (some ⟨g, 0, none⟩) n cap) n xs) (q : Nat) (u : Value) : Row (w.setCell ⟨g, q, none⟩ u) base e size (.slice (some ⟨g, 0, none⟩) n cap) n (xs.set q u) := by
  refine ⟨by rw [List.length_set]; exact h.1, ?_⟩
  rcases h.2 with ⟨hv, _⟩ | ⟨g', cap', cur, hv, hb, hg, hc, hm, hs, ht⟩
  · simp at hv
  · simp only [Value.slice.injEq, Option.some.injEq, Addr.mk.injEq, and_true, true_and] at hv
    obtain ⟨rfl, rfl⟩ := hv
    exact .inr ⟨g, cap, _, rfl, hb, blk_set hg q u, hc, hm, by simpa using hs, by rw [Array.toList_setIfInBounds, List.take_set, ht]⟩
/-- the first of them, with no room behind -/
theorem Row.cut {A : Option Addr} {c m : Nat} (h : Row w base e size (.slice A n c) n xs) (hm : m ≤ n) : ∃ c', c' = (if A = none then 0 else m) ∧ Row w base e size (.slice A m c') m (xs.take (m * size)) := by
  refine ⟨_, rfl, ?_, ?_⟩
  · rw [List.length_take, h.1]; exact Nat.min_eq_left (Nat.mul_le_mul_right _ hm)
  rcases h.2 with ⟨hv, rfl⟩ | ⟨g, cap, cur, hv, hb, hg, hc, hmx, hs, ht⟩
  · obtain rfl : m = 0 := by omega
    simp only [Value.slice.injEq] at hv
    obtain ⟨rfl, _, _⟩ := hv
    exact .inl ⟨rfl, rfl⟩
  · simp only [Value.slice.injEq, true_and] at hv
    obtain ⟨rfl, rfl⟩ := hv
    refine .inr ⟨g, m, cur, by simp, hb, hg, Nat.le_refl _, by omega, ?_, ?_⟩
    · exact Nat.le_trans (Nat.mul_le_mul_right _ (by omega : m ≤ c)) hs
    · rw [← ht, List.take_take, Nat.min_eq_left (Nat.mul_le_mul_right _ hm)]
end
/-- APPENDED TO: one element more. -/
theorem Row.append {P : Program} {W w0 : World} {ops : Array Oper} {rest : List Oper} {o : Oper} {a : Act} {Q : Exit → Act → World → Prop} (base : Nat)
    (hgd : o.guard = none) (s x : Operand) (t e : TypeId) (z : Value) (size bytes : Nat) (ho : o.op = .call { callee := .builtin .append, args := #[s, x], argTypes := #[t, t] })
    (ht : P.underlying t = some (.slice e)) (hinfo : (P.info? e).map (fun i => (i.zero, i.size, i.bytes)) = some (some z, size, bytes)) (hz : z.cells.size = size) (hs0 : 0 < size)
    (v : Value) (n : Nat) (xs : List Value) (ad : Addr) (c : Nat) (news : List Value) (hs : a.eval s = v) (hx : a.eval x = .slice (some ad) 1 c) (hn : news.length = 1 * size)
    (hc : ∀ j u, news[j]? = some u → W.cell? (ad.add j) = some u) (h1c : ∀ u ∈ news, u.oneCell' = true) (H : Row W base e size v n xs) (HB : Below base w0 W) (hbase : base ≤ W.heap.size)
    (hml : n + 1 ≤ maxLen) (hl : (n + 1) * bytes ≤ 140737488355328)
    (h : ∀ v' w', Row w' base e size v' (n + 1) (xs ++ news) → Below base w0 w' → W.grownBy w' v.ownBlock → (v'.ownBlock = v.ownBlock ∨ ∃ b, v'.ownBlock = some b ∧ W.heap.size ≤ b) → wpList P ops Q rest (a.put o.dst v') w') :
    wpList P ops Q (o :: rest) a W := by
  obtain ⟨i0, hi, hzz⟩ := Option.map_eq_some_iff.1 hinfo
  simp only [Prod.mk.injEq] at hzz
  obtain ⟨hz0, hz1, hz2⟩ := hzz
  have fresh : ∀ v' w', w'.ownsRow W.heap.size e size v' (n + 1) (xs ++ news) → W.grownBy w' none → wpList P ops Q rest (a.put o.dst v') w' := by
    intro v' w' hown hg
    obtain ⟨g', cap', he, hb, _⟩ := hown.form (by omega)
    refine h v' w' (Row.of_own (own_weaken hown hbase)) (HB.grown hg hbase (fun k hk => by cases hk)) ⟨hg.os, hg.tape, hg.output, hg.size, fun k hk _ => hg.block k hk (by simp)⟩ (.inr ⟨g', by rw [he]; simp [Value.ownBlock], hb⟩)
  rcases H.2 with ⟨rfl, rfl⟩ | ⟨g, cap, cur, rfl, hb, hg, hnc, hm, hcs, htk⟩
  · have hx0 : xs = [] := List.eq_nil_of_length_eq_zero (by simpa using H.1)
    subst hx0
    exact wpList_append_grows W hgd s x t ho e i0 z size bytes ht hi hz0 hz1 hz2 hz hs0 none 0 0 [] hs (fun _ => ⟨rfl, rfl⟩) (by simp) (fun b hb => by cases hb) ad 1 c news hx hn hc h1c (by omega) (by omega) (by omega) (fun v' w' h1 h2 => fresh v' w' h1 h2)
  · refine wpList_append_arg W hgd s x t ho e i0 z size bytes ht hi hz0 hz1 hz2 hz hs0 g 0 n cap xs hs H.1 (fun j u hj => ?_) ad 1 c news hx hn hc h1c (fun hfit j hj => ?_) hml hl (fun hfit => ?_) (fun hfull v' w' h1 h2 => fresh v' w' h1 h2)
    · have hj2 : j < n * size := by
        have := (List.getElem?_eq_some_iff.1 hj).1
        rw [H.1] at this; exact this
      rw [Nat.zero_add, blk_cell hg, ← Array.getElem?_toList, ← List.getElem?_take_of_lt hj2, htk]; exact hj
    · have hfit2 : n * size + j < cur.size := by
        have h3 : (n + 1) * size ≤ cap * size := Nat.mul_le_mul_right _ hfit
        rw [Nat.add_mul] at h3
        omega
      rw [Nat.zero_add, blk_cell hg, Array.getElem?_eq_getElem hfit2]
      exact ⟨rfl, blk_frozen hg _⟩
    · have h3 : (n + 1) * size ≤ cap * size := Nat.mul_le_mul_right _ hfit
      have h4 : n * size + news.length ≤ cur.size := by rw [Nat.add_mul] at h3; omega
      obtain ⟨cur', hg', hs', ht'⟩ := setCells_row news (n * size) W cur hg h4
      rw [Nat.zero_add]
      have hlen : (cur.toList.take (n * size)).length = n * size := by rw [htk]; exact H.1
      obtain ⟨q1, q2, q3, q4⟩ := setCells_same g news (n * size) W
      have hgr : W.grownBy (W.setCells g (n * size) news) (Value.slice (some ⟨g, 0, none⟩) n cap).ownBlock :=
        ⟨q1, q2, q3, by rw [q4]; exact Nat.le_refl _, fun k hk hne => setCells_far news (n * size) k (fun e_ => hne (by rw [e_]; rfl))⟩
      refine h _ _ ⟨by rw [List.length_append, H.1, hn, Nat.add_mul], .inr ⟨g, cap, cur', rfl, hb, hg', hfit, hm, by rw [hs']; exact hcs, ?_⟩⟩ (HB.grown hgr hbase (fun k hk => ?_)) hgr (.inl rfl)
      · rw [ht', htk, List.append_assoc, List.take_append, H.1]
        rw [List.take_of_length_le (by rw [H.1, Nat.add_mul]; omega)]
        rw [show (n + 1) * size - n * size = news.length from by rw [Nat.add_mul]; omega, List.take_left]
      · have : g = k := by simpa [Value.ownBlock] using hk
        omega
end Go.Proofs.Ytlhoikcdjpnnfaa.PArena
