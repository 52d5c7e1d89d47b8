/- An arena in memory, and what the functions that only read it answer; no condition. -/
import Derived.Test.YtlhoikcdjpnnfaaAA
namespace Go.Proofs.Ytlhoikcdjpnnfaa.PArena
open Go.RowKit Go.Proofs.YtlhoikcdjpnnfaaW.PrintWords Go.Proofs.YtlhoikcdjpnnfaaW.PrintLast Go.Proofs.YtlhoikcdjpnnfaaW.PrintMore
set_option linter.unusedVariables false
set_option linter.unusedSimpArgs false

abbrev Slot := Bool × Int
def cells2 : List Slot → List Value
  | [] => []
  | p :: l => .bool p.1 :: .int .i64 p.2 :: cells2 l
theorem cells2_length (l : List Slot) : (cells2 l).length = l.length * 2 := by
  induction l with
  | nil => rfl
  | cons p l ih => simp only [cells2, List.length_cons, ih]; omega
theorem cells2_append (l m : List Slot) : cells2 (l ++ m) = cells2 l ++ cells2 m := by
  induction l with
  | nil => rfl
  | cons p l ih => simp only [List.cons_append, cells2, ih]
theorem cells2_at (l : List Slot) (i : Nat) (p : Slot) (h : l[i]? = some p) : (cells2 l)[i * 2]? = some (.bool p.1) ∧ (cells2 l)[i * 2 + 1]? = some (.int .i64 p.2) := by
  induction l generalizing i with
  | nil => simp at h
  | cons q l ih =>
    cases i with
    | zero =>
      simp only [List.getElem?_cons_zero, Option.some.injEq] at h
      subst h
      exact ⟨rfl, rfl⟩
    | succ i =>
      have := ih i (by simpa using h)
      rw [show (i + 1) * 2 = i * 2 + 1 + 1 from by omega]
      simp only [cells2, List.getElem?_cons_succ]
      exact this
theorem cells2_set (l : List Slot) (i : Nat) (p : Slot) : cells2 (l.set i p) = ((cells2 l).set (i * 2) (.bool p.1)).set (i * 2 + 1) (.int .i64 p.2) := by
  induction l generalizing i with
  | nil => simp [cells2]
  | cons q l ih =>
    cases i with
    | zero => simp [cells2]
    | succ i =>
      rw [show (i + 1) * 2 = i * 2 + 1 + 1 from by omega]
      simp only [List.set_cons_succ, cells2, ih]
/-- AN ARENA at block g: its slots, and those that are free. -/
def Ar (w : World) (base g : Nat) (sl : List Slot) (fr : List Int) : Prop :=
  ∃ vL vF, w.heap[g]? = some (.cells #[vL, vF] 59 (0, 0)) ∧ base ≤ g ∧ Row w base 61 2 vL sl.length (cells2 sl) ∧ Row w base 3 1 vF fr.length (nums .i64 fr)
theorem Ar.below {w w1 : World} {base g : Nat} {sl : List Slot} {fr : List Int} (h : Ar w base g sl fr) (hb : Below w.heap.size w w1) : Ar w1 base g sl fr := by
  obtain ⟨vL, vF, hg, hbase, hL, hF⟩ := h
  exact ⟨vL, vF, blk_below hg hb, hbase, hL.below hb, hF.below hb⟩
theorem Ar.drewN {w : World} {base g : Nat} {sl : List Slot} {fr : List Int} (h : Ar w base g sl fr) (m : Nat) : Ar (w.drewN m) base g sl fr := h
theorem Ar.alloc {w : World} {base g : Nat} {sl : List Slot} {fr : List Int} (h : Ar w base g sl fr) (o : Obj) : Ar (w.alloc o) base g sl fr := h.below (below_alloc (Below.refl _ _) o)
/-- is something in a slot? -/
def hasB (sl : List Slot) (i : Int) : Bool := decide (0 ≤ i) && ((sl[i.toNat]?).map (·.1)).getD false
set_option maxHeartbeats 4000000 in
theorem has_calls (g base : Nat) (sl : List Slot) (fr : List Int) (i : Int) (w : World) (h : Ar w base g sl fr) :
    Calls Try.prog 30 #[.pointer (some ⟨g, 0, none⟩), .int .i64 i] w fun e w' => e = .returned (.bool (hasB sl i)) ∧ w = w' := by
  obtain ⟨vL, vF, hg, hbase, hL, hF⟩ := h
  obtain ⟨A, c, hv, hnc⟩ := hL.form
  have hc0 : w.cell? ⟨g, 0, none⟩ = some vL := blk_cell hg 0
  by_cases h1 : 0 ≤ i
  · obtain ⟨n, rfl⟩ : ∃ n : Nat, i = (n : Int) := ⟨i.toNat, by omega⟩
    by_cases h2 : n < sl.length
    · obtain ⟨gL, cap, cur, rfl, hbL, hgL, hcell, hfr⟩ := hL.at_ (by omega)
      obtain ⟨p, hp⟩ : ∃ p, sl[n]? = some p := ⟨sl[n], List.getElem?_eq_getElem h2⟩
      have hx : w.cell? ⟨gL, n * 2, none⟩ = some (.bool p.1) := (hcell _ (by omega)).trans (cells2_at sl n p hp).1
      have hr : Aside0 (hasB sl (n : Int) = p.1) := ⟨by simp [hasB, hp]⟩
      clear hcell hg hgL hL hF hv hp hfr hbL h1
      have d2 : decide ((n : Int) < (sl.length : Int)) = true := decide_eq_true (by omega)
      rw [hr.out]
      clear hr
      go_enter Try.func30, Try.ntmps30
      go_wp2
      go_ret
      exact ⟨rfl, rfl⟩
    · have hr : hasB sl (n : Int) = false := by simp [hasB, List.getElem?_eq_none (Nat.le_of_not_lt h2)]
      rw [hr]
      subst hv
      clear hr hg hL hF
      have d2 : decide ((n : Int) < (sl.length : Int)) = false := decide_eq_false (by omega)
      go_enter Try.func30, Try.ntmps30
      go_wp2
      go_ret
      exact ⟨rfl, rfl⟩
  · have hr : hasB sl i = false := by simp [hasB, h1]
    rw [hr]
    clear hr hg hL hF
    have d1 : decide (0 ≤ i) = false := decide_eq_false h1
    go_enter Try.func30, Try.ntmps30
    go_wp2
    go_ret
    exact ⟨rfl, rfl⟩
end Go.Proofs.Ytlhoikcdjpnnfaa.PArena
