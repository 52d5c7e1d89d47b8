/- A graph in memory, what its opener answers, and the weight of entries that bounds a walk; no condition. -/
import Derived.Test.YtncbnejldlfbdaaFX
namespace Go.Proofs.Ytncbnejldlfbdaa.PHeap
open Go.RowKit Go.Proofs.YtncbnejldlfbdaaW.PrintWords Go.Proofs.YtncbnejldlfbdaaW.PrintLast Go.Proofs.YtncbnejldlfbdaaW.PrintMore
set_option linter.unusedVariables false
set_option linter.unusedSimpArgs false
/-- rows of entries behind nodes -/
def gb (bs : List (List Ent)) (j : Nat) : List Ent := bs.getD j []
def Behind (w : World) (A : Option Addr) (bs : List (List Ent)) : Prop :=
  ∀ j, j < bs.length → ∃ ad B c, A = some ad ∧ w.cell? (ad.add j) = some (.slice B (gb bs j).length c) ∧ Ents w B (gb bs j) ∧ (gb bs j).length ≤ c ∧ c ≤ maxLen
theorem Behind.below {w w1 : World} {A : Option Addr} {bs : List (List Ent)} (h : Behind w A bs) (hb : Below w.heap.size w w1) : Behind w1 A bs := fun j hj => by
  obtain ⟨ad, B, c, e, h0, h1, h2⟩ := h j hj
  exact ⟨ad, B, c, e, pw_cell_below hb h0, h1.below hb, h2⟩
/-- what stands behind a node -/
def openL (bs : List (List Ent)) (v : Int) : List Ent := if v < 0 then [] else gb bs v.toNat
theorem ref_open (A : Option Addr) (c1 : Nat) (bs : List (List Ent)) (v : Int) (w0 w : World) (h : Behind w0 A bs) (hb : Below w0.heap.size w0 w) :
    Calls Try.prog 42 #[.slice A bs.length c1, .int .i64 v] w fun e w' => ∃ B c, e = .returned (.slice B (openL bs v).length c) ∧ Ents w0 B (openL bs v) ∧ (openL bs v).length ≤ c ∧ c ≤ maxLen ∧ w = w' := by
  by_cases h0 : v < 0
  · have HO : Aside0 (openL bs v = []) := ⟨by unfold openL; rw [if_pos h0]⟩
    go_enter Try.func42, Try.ntmps42
    go_wp2
    go_ret
    exact ⟨none, 0, by rw [HO.out]; rfl, fun i hi => absurd hi (by rw [HO.out]; simp), by rw [HO.out]; simp, by simp [maxLen], rfl⟩
  · by_cases h1 : v < (bs.length : Int)
    · have h2 : ¬ ((bs.length : Int) ≤ v) := by omega
      obtain ⟨j, rfl⟩ : ∃ j : Nat, v = (j : Int) := ⟨v.toNat, by omega⟩
      have hj : j < bs.length := by omega
      have HO : Aside0 (openL bs (j : Int) = gb bs j) := ⟨by unfold openL; rw [if_neg h0]; rfl⟩
      obtain ⟨ad, B, c, rfl, hc0, he, hl, hm⟩ := h j hj
      have hc := pw_cell_below hb hc0
      have HE := Aside0.mk he
      have HL := Aside0.mk hl
      have HM := Aside0.mk hm
      have c1 : decide (j < bs.length) = true := decide_eq_true hj
      have c2 : decide (bs.length ≤ j) = false := decide_eq_false (by omega)
      clear he hl h hm hc0 hb
      go_enter Try.func42, Try.ntmps42
      go_wp2
      go_ret
      exact ⟨B, c, by rw [HO.out]; rfl, by rw [HO.out]; exact HE.out, by rw [HO.out]; exact HL.out, HM.out, rfl⟩
    · have h2 : (bs.length : Int) ≤ v := by omega
      have HO : Aside0 (openL bs v = []) := ⟨by unfold openL gb; rw [if_neg h0, List.getD_eq_getElem?_getD, List.getElem?_eq_none (by omega)]; rfl⟩
      go_enter Try.func42, Try.ntmps42
      go_wp2
      go_ret
      exact ⟨none, 0, by rw [HO.out]; rfl, fun i hi => absurd hi (by rw [HO.out]; simp), by rw [HO.out]; simp, by simp [maxLen], rfl⟩
theorem opener_calls (gG : Nat) (V : Value) (A : Option Addr) (c1 : Nat) (bs : List (List Ent)) (v : Int) (w0 w : World) (hg : w.heap[gG]? = some (.cells #[V, .slice A bs.length c1] 43 (0, 0))) (h : Behind w0 A bs) (hb : Below w0.heap.size w0 w) :
    Calls Try.prog 41 #[.int .i64 v, .pointer (some ⟨gG, 0, none⟩)] w fun e w' => ∃ B c, e = .returned (.slice B (openL bs v).length c) ∧ Ents w0 B (openL bs v) ∧ (openL bs v).length ≤ c ∧ c ≤ maxLen ∧ w = w' := by
  have hu43 := Try.underlying43
  have hc : w.cell? ⟨gG, 1, none⟩ = some (.slice A bs.length c1) := (blk_cell hg 1).trans rfl
  have HG := Aside0.mk hg
  have H := Aside0.mk h
  have HB := Aside0.mk hb
  clear hg h hb
  go_enter Try.func41, Try.ntmps41
  go_wp2_with ((go_at_call 42; (with_reducible refine (ref_open A c1 bs v w0 _ H.out HB.out).mono ?_); rintro e w' ⟨B, c, rfl, h1, h2, h3, rfl⟩; have H1 := Aside0.mk h1; have H2 := Aside0.mk h2; have H3 := Aside0.mk h3; clear h1 h2 h3))
  go_ret
  exact ⟨B, c, rfl, H1.out, H2.out, H3.out, rfl⟩
/-- THE WEIGHT of an entry, of a graph of m nodes: more than that of all that it opens -/
def wt (m : Nat) (x : Ent) : Nat := if x.2.1 < 0 then 1 else 5 ^ (m - x.2.1.toNat)
def wts (m : Nat) : List Ent → Nat
  | [] => 0
  | x :: l => wt m x + wts m l
theorem wt_pos (m : Nat) (x : Ent) : 1 ≤ wt m x := by
  unfold wt; split
  · exact Nat.le_refl _
  · exact Nat.pos_of_ne_zero (by simp)
theorem wts_append (m : Nat) (l k : List Ent) : wts m (l ++ k) = wts m l + wts m k := by
  induction l with
  | nil => simp [wts]
  | cons x l ih => simp only [List.cons_append, wts, ih]; omega
theorem wts_perm {m : Nat} {l k : List Ent} (h : l.Perm k) : wts m l = wts m k := by
  induction h with
  | nil => rfl
  | cons x _ ih => simp only [wts, ih]
  | swap x y l => simp only [wts]; omega
  | trans _ _ h1 h2 => exact h1.trans h2
theorem wts_len (m : Nat) (l : List Ent) : l.length ≤ wts m l := by
  induction l with
  | nil => exact Nat.le_refl _
  | cons x l ih => simp only [wts, List.length_cons]; have := wt_pos m x; omega
theorem wts_le (m N : Nat) (l : List Ent) (h : ∀ x ∈ l, wt m x ≤ N) : wts m l ≤ l.length * N := by
  induction l with
  | nil => simp [wts]
  | cons x l ih =>
    simp only [wts, List.length_cons]
    have h1 := h x (by simp)
    have h2 := ih (fun y hy => h y (by simp [hy]))
    rw [Nat.succ_mul]; omega
/-- nodes lead to later nodes alone, to few entries -/
def Forw (bs : List (List Ent)) : Prop := ∀ j, j < bs.length → (gb bs j).length ≤ 4 ∧ ∀ x ∈ gb bs j, x.2.1 < 0 ∨ (j : Int) < x.2.1
/-- no lower than an entry -/
def raise (d : Int) (x : Ent) : Ent := (if x.1 < d then d else x.1, x.2)
theorem wt_raise (m : Nat) (d : Int) (x : Ent) : wt m (raise d x) = wt m x := rfl
theorem wts_raise (m : Nat) (d : Int) (l : List Ent) : wts m (l.map (raise d)) = wts m l := by
  induction l with
  | nil => rfl
  | cons x l ih => simp only [List.map_cons, wts, ih, wt_raise]
theorem raise_le (d : Int) (x : Ent) : d ≤ (raise d x).1 := by unfold raise; simp only; split <;> omega
theorem wts_open {bs : List (List Ent)} (h : Forw bs) (e : Ent) (he : 0 ≤ e.2.1) : wts bs.length ((openL bs e.2.1).map (raise e.1)) + 1 ≤ wt bs.length e := by
  rw [wts_raise]
  unfold openL
  rw [if_neg (by omega)]
  by_cases hj : e.2.1.toNat < bs.length
  · obtain ⟨hl, hx⟩ := h _ hj
    have hw : wt bs.length e = 5 ^ (bs.length - e.2.1.toNat) := by unfold wt; rw [if_neg (by omega)]
    obtain ⟨t, ht⟩ : ∃ t, bs.length - e.2.1.toNat = t + 1 := ⟨bs.length - e.2.1.toNat - 1, by omega⟩
    have h1 : wts bs.length (gb bs e.2.1.toNat) ≤ (gb bs e.2.1.toNat).length * 5 ^ t := by
      apply wts_le
      intro x hxm
      unfold wt
      split
      · exact Nat.pos_of_ne_zero (by simp)
      · have := hx x hxm
        exact Nat.pow_le_pow_right (by decide) (by omega)
    have h2 : (gb bs e.2.1.toNat).length * 5 ^ t ≤ 4 * 5 ^ t := Nat.mul_le_mul_right _ hl
    have h3 : 1 ≤ 5 ^ t := Nat.pos_of_ne_zero (by simp)
    rw [hw, ht, Nat.pow_succ]
    omega
  · have : gb bs e.2.1.toNat = [] := by unfold gb; rw [List.getD_eq_getElem?_getD, List.getElem?_eq_none (by omega)]; rfl
    rw [this]
    exact wt_pos _ _
end Go.Proofs.Ytncbnejldlfbdaa.PHeap
