/- What stays so in an arena whatever is put, cut and set elsewhere: plain facts; no condition. -/
import Derived.Test.YtlhoikcdjpnnfaaAF
namespace Go.Proofs.Ytlhoikcdjpnnfaa.PArena
open Go.RowKit Go.Proofs.YtlhoikcdjpnnfaaW.PrintWords Go.Proofs.YtlhoikcdjpnnfaaW.PrintLast Go.Proofs.YtlhoikcdjpnnfaaW.PrintMore
abbrev Deed := Int × Int × Int
/-- deeds that are read: kind, slot and number of each -/
def Deeds (w : World) (A : Option Addr) (n : Nat) (ds : List Deed) : Prop := ds.length = n ∧ n ≤ 9223372036854775807 ∧ (0 < n → ∃ ad, A = some ad ∧ ∀ j p, ds[j]? = some p →
  w.cell? (ad.add (j * 3)) = some (.int .i64 p.1) ∧ w.cell? (ad.add (j * 3 + 1)) = some (.int .i64 p.2.1) ∧ w.cell? (ad.add (j * 3 + 2)) = some (.int .i64 p.2.2))
theorem Deeds.below {w w1 : World} {A : Option Addr} {n : Nat} {ds : List Deed} (h : Deeds w A n ds) (hb : Below w.heap.size w w1) : Deeds w1 A n ds := by
  refine ⟨h.1, h.2.1, fun hn => ?_⟩
  obtain ⟨ad, e, hc⟩ := h.2.2 hn
  refine ⟨ad, e, fun j p hj => ?_⟩
  obtain ⟨h1, h2, h3⟩ := hc j p hj
  exact ⟨pw_cell_below hb h1, pw_cell_below hb h2, pw_cell_below hb h3⟩
/-- which slots are free: each once, and nothing is in it -/
def Free (sl : List Slot) (fr : List Int) : Prop := fr.Nodup ∧ ∀ j ∈ fr, ∃ m : Nat, j = (m : Int) ∧ ∃ y, sl[m]? = some (false, y)
theorem Free.nil (sl : List Slot) : Free sl [] := ⟨List.nodup_nil, fun j hj => by cases hj⟩
theorem Free.last {sl : List Slot} {fr : List Int} {j : Int} (h : Free sl (fr ++ [j])) : ∃ m : Nat, j = (m : Int) ∧ ∃ y, sl[m]? = some (false, y) := h.2 j (by simp)
theorem get_of {sl : List Slot} {i : Nat} {p : Slot} (h : sl[i]? = some p) : i < sl.length := (List.getElem?_eq_some_iff.1 h).1
theorem Free.put_new (sl : List Slot) (z : Int) : Free (sl ++ [(true, z)]) [] := Free.nil _
theorem Free.put_free {sl : List Slot} {fr : List Int} {m : Nat} (h : Free sl (fr ++ [(m : Int)])) (z : Int) : Free (sl.set m (true, z)) fr := by
  obtain ⟨h1, h2⟩ := h
  rw [List.nodup_append] at h1
  refine ⟨h1.1, fun j hj => ?_⟩
  obtain ⟨k, rfl, y, hy⟩ := h2 j (by simp [hj])
  have hne : m ≠ k := fun e => by
    have := h1.2.2 (k : Int) hj (m : Int) (by simp)
    exact this (by omega)
  exact ⟨k, rfl, y, by rw [List.getElem?_set_ne hne]; exact hy⟩
theorem Free.cut {sl : List Slot} {fr : List Int} (h : Free sl fr) (i : Int) : Free (cutS sl i) (cutF sl fr i) := by
  unfold cutS cutF
  by_cases hb : hasB sl i = true
  · rw [if_pos hb, if_pos hb]
    obtain ⟨n, y, rfl, hp⟩ := hasB_yes hb
    have hlt := get_of hp
    rw [Int.toNat_natCast]
    refine ⟨?_, fun j hj => ?_⟩
    · rw [List.nodup_append]
      refine ⟨h.1, by simp, fun a ha b hbm => ?_⟩
      obtain rfl : b = (n : Int) := by simpa using hbm
      obtain ⟨m, rfl, y2, hy2⟩ := h.2 a ha
      intro e
      obtain rfl : m = n := by omega
      rw [hp] at hy2
      simp at hy2
    · rcases List.mem_append.1 hj with hj | hj
      · obtain ⟨m, rfl, y2, hy2⟩ := h.2 j hj
        by_cases e : n = m
        · subst e
          exact ⟨n, rfl, 0, by rw [List.getElem?_set_self hlt]⟩
        · exact ⟨m, rfl, y2, by rw [List.getElem?_set_ne e]; exact hy2⟩
      · obtain rfl : j = (n : Int) := by simpa using hj
        exact ⟨n, rfl, 0, by rw [List.getElem?_set_self hlt]⟩
  · rw [if_neg hb, if_neg hb]
    exact h
theorem Free.set {sl : List Slot} {fr : List Int} (h : Free sl fr) (i z : Int) : Free (setB sl i z) fr := by
  unfold setB
  by_cases hb : hasB sl i = true
  · rw [if_pos hb]
    obtain ⟨n, y, rfl, hp⟩ := hasB_yes hb
    rw [Int.toNat_natCast]
    refine ⟨h.1, fun j hj => ?_⟩
    obtain ⟨m, rfl, y2, hy2⟩ := h.2 j hj
    have hne : n ≠ m := fun e => by
      subst e
      rw [hp] at hy2
      simp at hy2
    exact ⟨m, rfl, y2, by rw [List.getElem?_set_ne hne]; exact hy2⟩
  · rw [if_neg hb]
    exact h
/-- what was put first stays -/
def Mine (x : Int) (sl : List Slot) : Prop := sl[0]? = some (true, x)
theorem Mine.put_new {x : Int} {sl : List Slot} (h : Mine x sl) (z : Int) : Mine x (sl ++ [(true, z)]) := by
  unfold Mine at *
  rw [List.getElem?_append_left (get_of h)]
  exact h
theorem Mine.other {x : Int} {sl : List Slot} (h : Mine x sl) (m : Nat) (p : Slot) (hm : m ≠ 0) : Mine x (sl.set m p) := by
  unfold Mine at *
  rw [List.getElem?_set_ne hm]
  exact h
theorem Mine.free {x : Int} {sl : List Slot} (h : Mine x sl) {m : Nat} {y : Int} (hf : sl[m]? = some (false, y)) : m ≠ 0 := fun e => by
  subst e
  unfold Mine at h
  rw [h] at hf
  simp at hf
theorem Mine.cut {x : Int} {sl : List Slot} (h : Mine x sl) (i : Int) (hi : i ≠ 0) : Mine x (cutS sl i) := by
  unfold cutS
  by_cases hb : hasB sl i = true
  · rw [if_pos hb]
    obtain ⟨n, y, rfl, hp⟩ := hasB_yes hb
    exact h.other _ _ (by omega)
  · rw [if_neg hb]
    exact h
theorem Mine.set {x : Int} {sl : List Slot} (h : Mine x sl) (i z : Int) (hi : i ≠ 0) : Mine x (setB sl i z) := by
  unfold setB
  by_cases hb : hasB sl i = true
  · rw [if_pos hb]
    obtain ⟨n, y, rfl, hp⟩ := hasB_yes hb
    exact h.other _ _ (by omega)
  · rw [if_neg hb]
    exact h
theorem Mine.get {x : Int} {sl : List Slot} (h : Mine x sl) : getB sl 0 = (x, true) := by
  unfold Mine at h
  have hb : hasB sl 0 = true := by simp [hasB, h]
  simp [getB, hb, h]
theorem cutS_len (sl : List Slot) (i : Int) : (cutS sl i).length = sl.length := by
  unfold cutS; split <;> simp
theorem setB_len (sl : List Slot) (i x : Int) : (setB sl i x).length = sl.length := by
  unfold setB; split <;> simp
theorem cutF_len (sl : List Slot) (fr : List Int) (i : Int) : (cutF sl fr i).length ≤ fr.length + 1 := by
  unfold cutF; split <;> simp
end Go.Proofs.Ytlhoikcdjpnnfaa.PArena
