/- Items as they lie in memory, and what it is to be sorted with those of one number as they stood: plain facts; no condition. -/
import Derived.Test.YtncbnejldlfbdaaHA
import Derived.Test.YtncbnejldlfbdaaPIndexFreshx0
namespace Go.Proofs.Ytncbnejldlfbdaa.PIdx
open Go.RowKit Go.Proofs.YtncbnejldlfbdaaW.PrintWords Go.Proofs.YtncbnejldlfbdaaW.PrintLast Go.Proofs.YtncbnejldlfbdaaW.PrintMore
open Go.Proofs.Ytncbnejldlfbdaa.PIndexFresh
open Go.Proofs.Ytncbnejldlfbdaa.PHeap (Row)
set_option linter.unusedVariables false
set_option linter.unusedSimpArgs false
/-- an item with where its numbers lie -/
structure It where
  x : S65
  A : Option Addr
  c : Nat
def z0t : It := ⟨z65, none, 0⟩
def ky (t : It) : Int := t.x.f0
def cells4 : List It → List Value
  | [] => []
  | t :: l => .int .u64 t.x.f0 :: .int .i64 t.x.f1.f0 :: .slice t.A t.x.f1.f1.length t.c :: .string t.x.f1.f2 :: cells4 l
theorem cells4_length (l : List It) : (cells4 l).length = l.length * 4 := by
  induction l with
  | nil => rfl
  | cons p l ih => simp only [cells4, List.length_cons, ih]; omega
theorem cells4_append (l m : List It) : cells4 (l ++ m) = cells4 l ++ cells4 m := by
  induction l with
  | nil => rfl
  | cons p l ih => simp only [List.cons_append, cells4, ih]
theorem cells4_at (l : List It) (i : Nat) (t : It) (h : l[i]? = some t) : (cells4 l)[i * 4]? = some (.int .u64 t.x.f0) ∧ (cells4 l)[i * 4 + 1]? = some (.int .i64 t.x.f1.f0) ∧ (cells4 l)[i * 4 + 2]? = some (.slice t.A t.x.f1.f1.length t.c) ∧ (cells4 l)[i * 4 + 3]? = some (.string t.x.f1.f2) := by
  induction l generalizing i with
  | nil => simp at h
  | cons q l ih =>
    cases i with
    | zero =>
      simp only [List.getElem?_cons_zero, Option.some.injEq] at h
      subst h
      exact ⟨rfl, rfl, rfl, rfl⟩
    | succ i =>
      have := ih i (by simpa using h)
      rw [show (i + 1) * 4 = i * 4 + 1 + 1 + 1 + 1 from by omega]
      simp only [cells4, List.getElem?_cons_succ]
      exact this
theorem cells4_set (l : List It) (i : Nat) (t : It) : cells4 (l.set i t) = ((((cells4 l).set (i * 4) (.int .u64 t.x.f0)).set (i * 4 + 1) (.int .i64 t.x.f1.f0)).set (i * 4 + 2) (.slice t.A t.x.f1.f1.length t.c)).set (i * 4 + 3) (.string t.x.f1.f2) := by
  induction l generalizing i with
  | nil => simp [cells4]
  | cons q l ih =>
    cases i with
    | zero => simp [cells4]
    | succ i =>
      rw [show (i + 1) * 4 = i * 4 + 1 + 1 + 1 + 1 from by omega]
      simp only [List.set_cons_succ, cells4, ih]
/-- four cells of a block are an item -/
def set4 (w : World) (g i : Nat) (t : It) : World := (((w.setCell ⟨g, i * 4, none⟩ (.int .u64 t.x.f0)).setCell ⟨g, i * 4 + 1, none⟩ (.int .i64 t.x.f1.f0)).setCell ⟨g, i * 4 + 2, none⟩ (.slice t.A t.x.f1.f1.length t.c)).setCell ⟨g, i * 4 + 3, none⟩ (.string t.x.f1.f2)
theorem grown_set {W0 w : World} {g : Nat} (h : W0.grownBy w (some g)) (i : Nat) (u : Value) : W0.grownBy (w.setCell ⟨g, i, none⟩ u) (some g) := by
  have hb := (Below.refl g w).setCell (p := ⟨g, i, none⟩) (Nat.le_refl g) u
  exact h.trans ⟨hb.os, hb.tape, hb.output, hb.size, fun k _ hne => Below.heap_setCell w _ u k (fun e => hne (congrArg some e))⟩
/-- A ROW OF ITEMS at block g, of a call's own; what else has turned since W0 -/
structure RowAt (W0 w : World) (base g cap : Nat) (l : List It) : Prop where
  row : Row w base 65 4 (.slice (some ⟨g, 0, none⟩) l.length cap) l.length (cells4 l)
  hb : base ≤ g
  hK : W0.grownBy w (some g)
theorem RowAt.put {W0 w : World} {base g cap : Nat} {l : List It} (h : RowAt W0 w base g cap l) (i : Nat) (t : It) : RowAt W0 (set4 w g i t) base g cap (l.set i t) := by
  refine ⟨?_, h.hb, grown_set (grown_set (grown_set (grown_set h.hK _ _) _ _) _ _) _ _⟩
  rw [cells4_set, List.length_set]
  exact (((h.row.put _ _).put _ _).put _ _).put _ _
theorem RowAt.drew {W0 w : World} {base g cap : Nat} {l : List It} (h : RowAt W0 w base g cap l) : RowAt W0 w.drew base g cap l := ⟨h.row, h.hb, ⟨h.hK.1, h.hK.2, h.hK.3, h.hK.4, h.hK.5⟩⟩
theorem RowAt.at_ {W0 w : World} {base g cap : Nat} {l : List It} (h : RowAt W0 w base g cap l) {i : Nat} {t : It} (hi : l[i]? = some t) : w.cell? ⟨g, i * 4, none⟩ = some (.int .u64 t.x.f0) ∧ w.cell? ⟨g, i * 4 + 1, none⟩ = some (.int .i64 t.x.f1.f0) ∧ w.cell? ⟨g, i * 4 + 2, none⟩ = some (.slice t.A t.x.f1.f1.length t.c) ∧ w.cell? ⟨g, i * 4 + 3, none⟩ = some (.string t.x.f1.f2) := by
  have hl : i < l.length := (List.getElem?_eq_some_iff.1 hi).1
  obtain ⟨g2, cap2, cur, e, _, _, hc, _⟩ := h.row.at_ (by omega)
  injection e with e _ _
  injection e with e
  injection e with e
  subst e
  obtain ⟨c0, c1, c2, c3⟩ := cells4_at l i t hi
  exact ⟨(hc _ (by omega)).trans c0, (hc _ (by omega)).trans c1, (hc _ (by omega)).trans c2, (hc _ (by omega)).trans c3⟩
theorem RowAt.fr {W0 w : World} {base g cap : Nat} {l : List It} (h : RowAt W0 w base g cap l) (hl : 0 < l.length) (j : Nat) : w.frozen? ⟨g, j, none⟩ = false := by
  obtain ⟨g2, cap2, cur, e, _, _, _, hf⟩ := h.row.at_ hl
  injection e with e _ _
  injection e with e
  injection e with e
  subst e
  exact hf j
theorem RowAt.cap_le {W0 w : World} {base g cap : Nat} {l : List It} (h : RowAt W0 w base g cap l) : l.length ≤ cap ∧ cap ≤ maxLen := by
  rcases h.row.2 with ⟨hv, _⟩ | ⟨_, _, _, hv, _, _, hc, hm, _⟩
  · injection hv with hv; cases hv
  · injection hv with _ _ hv; subst hv; exact ⟨hc, hm⟩
/-! sorted, those of one number as they stood -/
def leI (a b : It) : Prop := ky a ≤ ky b
/-- those of each number stand in y as in x -/
def Stb (x y : List It) : Prop := ∀ k, y.filter (fun t => decide (ky t = k)) = x.filter (fun t => decide (ky t = k))
theorem Stb.refl (x : List It) : Stb x x := fun _ => rfl
theorem Stb.trans {x y z : List It} (h : Stb x y) (k : Stb y z) : Stb x z := fun i => (k i).trans (h i)
theorem Stb.mem {x y : List It} (h : Stb x y) (t : It) : t ∈ y ↔ t ∈ x := by
  have := h (ky t)
  constructor
  · intro ht
    have : t ∈ y.filter (fun u => decide (ky u = ky t)) := by simp [ht]
    rw [h] at this
    exact (List.mem_filter.1 this).1
  · intro ht
    have : t ∈ x.filter (fun u => decide (ky u = ky t)) := by simp [ht]
    rw [← h] at this
    exact (List.mem_filter.1 this).1
theorem Stb.app {x y u v : List It} (h : Stb x y) (k : Stb u v) : Stb (x ++ u) (y ++ v) := fun i => by rw [List.filter_append, List.filter_append, h i, k i]
theorem Stb.mid (p s : List It) {x y : List It} (h : Stb x y) : Stb (p ++ x ++ s) (p ++ y ++ s) := ((Stb.refl p).app h).app (Stb.refl s)
/-- rows of other numbers may change places -/
theorem Stb.turn {x y : List It} (h : ∀ a ∈ x, ∀ b ∈ y, ky a ≠ ky b) : Stb (x ++ y) (y ++ x) := fun i => by
  rw [List.filter_append, List.filter_append]
  by_cases hx : x.filter (fun t => decide (ky t = i)) = []
  · rw [hx]; simp
  · obtain ⟨a, ha⟩ := List.exists_mem_of_ne_nil _ hx
    have ha2 := List.mem_filter.1 ha
    have : y.filter (fun t => decide (ky t = i)) = [] := by
      rw [List.filter_eq_nil_iff]
      intro b hb e
      have e1 : ky b = i := by simpa using e
      have e2 : ky a = i := by simpa using ha2.2
      exact h a ha2.1 b hb (e2.trans e1.symm)
    rw [this]; simp
/-- two sorted rows of the same are one -/
theorem Stb.uniq : ∀ {x y : List It}, Stb x y → x.Pairwise leI → y.Pairwise leI → x = y
  | [], y, h, _, _ => by
    cases y with
    | nil => rfl
    | cons t y => exact absurd ((h.mem t).1 (by simp)) (by simp)
  | a :: x, [], h, _, _ => absurd ((h.mem a).2 (by simp)) (by simp)
  | a :: x, b :: y, h, hx, hy => by
    obtain ⟨x1, x2⟩ := List.pairwise_cons.1 hx
    obtain ⟨y1, y2⟩ := List.pairwise_cons.1 hy
    have hk : ky a = ky b := by
      have h1 : leI b a := by
        rcases List.mem_cons.1 ((h.mem a).2 (by simp)) with e | e
        · exact e ▸ Int.le_refl _
        · exact y1 a e
      have h2 : leI a b := by
        rcases List.mem_cons.1 ((h.mem b).1 (by simp)) with e | e
        · exact e ▸ Int.le_refl _
        · exact x1 b e
      unfold leI at h1 h2
      omega
    have e1 := h (ky a)
    rw [List.filter_cons_of_pos (by simp [hk]), List.filter_cons_of_pos (by simp)] at e1
    injection e1 with e2 e3
    subst e2
    have h3 : Stb x y := fun i => by
      by_cases hi : ky b = i
      · subst hi; exact e3
      · have := h i
        rwa [List.filter_cons_of_neg (by simpa using hi), List.filter_cons_of_neg (by simpa using hi)] at this
    rw [h3.uniq x2 y2]
end Go.Proofs.Ytncbnejldlfbdaa.PIdx
