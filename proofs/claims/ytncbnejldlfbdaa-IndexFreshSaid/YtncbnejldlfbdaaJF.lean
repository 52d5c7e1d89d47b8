/- Two sorted rows made one: the plain facts of slices.symMergeCmpFunc; no condition. -/
import Derived.Test.YtncbnejldlfbdaaJE
namespace Go.Proofs.Ytncbnejldlfbdaa.PIdx
open Go.Proofs.Ytncbnejldlfbdaa.PIndexFresh
set_option linter.unusedVariables false
set_option linter.unusedSimpArgs false
/-- place i of a row of items -/
def gi (l : List It) (i : Nat) : It := l.getD i z0t
theorem gi_some {l : List It} {i : Nat} (h : i < l.length) : l[i]? = some (gi l i) := by
  unfold gi; rw [List.getD_eq_getElem?_getD, List.getElem?_eq_getElem h]; rfl
theorem gi_eq {l : List It} {i : Nat} (h : i < l.length) : gi l i = l[i] := by
  have := gi_some h
  rw [List.getElem?_eq_getElem h] at this
  exact (Option.some.inj this).symm
theorem sorted_gi {l : List It} (h : l.Pairwise leI) {i j : Nat} (hij : i ≤ j) (hj : j < l.length) : ky (gi l i) ≤ ky (gi l j) := by
  rw [gi_eq (by omega), gi_eq hj]
  rcases Nat.lt_or_eq_of_le hij with hlt | rfl
  · exact List.pairwise_iff_getElem.1 h i j (by omega) hj hlt
  · exact Int.le_refl _
theorem mem_take_gi {l : List It} {k : Nat} {v : It} (h : v ∈ l.take k) : ∃ j, j < k ∧ j < l.length ∧ v = gi l j := by
  obtain ⟨j, hj, e⟩ := List.mem_iff_getElem.1 h
  rw [List.length_take] at hj
  rw [List.getElem_take] at e
  exact ⟨j, by omega, by omega, by rw [gi_eq (by omega)]; exact e.symm⟩
theorem mem_drop_gi {l : List It} {k : Nat} {v : It} (h : v ∈ l.drop k) : ∃ j, k ≤ j ∧ j < l.length ∧ v = gi l j := by
  obtain ⟨j, hj, e⟩ := List.mem_iff_getElem.1 h
  rw [List.length_drop] at hj
  rw [List.getElem_drop] at e
  exact ⟨k + j, by omega, by omega, by rw [gi_eq (by omega)]; exact e.symm⟩
/-- the first row's one item, put behind those that are less -/
theorem one_left {x : It} {R : List It} (hR : R.Pairwise leI) {k : Nat} (hk : k ≤ R.length) (h1 : ∀ j, j < k → ky (gi R j) < ky x) (h2 : ∀ j, k ≤ j → j < R.length → ky x ≤ ky (gi R j)) :
    (R.take k ++ x :: R.drop k).Pairwise leI ∧ Stb ([x] ++ R) (R.take k ++ x :: R.drop k) := by
  have a1 : ∀ v ∈ R.take k, ky v < ky x := fun v hv => by obtain ⟨j, h, _, rfl⟩ := mem_take_gi hv; exact h1 j h
  have a2 : ∀ v ∈ R.drop k, ky x ≤ ky v := fun v hv => by obtain ⟨j, h, h', rfl⟩ := mem_drop_gi hv; exact h2 j h h'
  refine ⟨sorted_put (by rw [List.take_append_drop]; exact hR) (fun u hu => by have := a1 u hu; unfold leI; omega) a2, ?_⟩
  have e : [x] ++ R = ([x] ++ R.take k) ++ R.drop k := by rw [List.append_assoc, List.take_append_drop]
  rw [e, show R.take k ++ x :: R.drop k = (R.take k ++ [x]) ++ R.drop k from by simp]
  refine Stb.app (Stb.turn (fun a ha b hb => ?_)) (Stb.refl _)
  simp only [List.mem_singleton] at ha
  subst ha
  have := a1 b hb
  omega
/-- the second row's one item, put ahead of those that are greater -/
theorem one_right {y : It} {L : List It} (hL : L.Pairwise leI) {k : Nat} (hk : k ≤ L.length) (h1 : ∀ j, j < k → ky (gi L j) ≤ ky y) (h2 : ∀ j, k ≤ j → j < L.length → ky y < ky (gi L j)) :
    (L.take k ++ y :: L.drop k).Pairwise leI ∧ Stb (L ++ [y]) (L.take k ++ y :: L.drop k) := by
  have a1 : ∀ v ∈ L.take k, ky v ≤ ky y := fun v hv => by
    obtain ⟨j, h, h', rfl⟩ := mem_take_gi hv
    exact h1 j h
  have a2 : ∀ v ∈ L.drop k, ky y < ky v := fun v hv => by obtain ⟨j, h, h', rfl⟩ := mem_drop_gi hv; exact h2 j h h'
  refine ⟨sorted_put (by rw [List.take_append_drop]; exact hL) a1 (fun v hv => by have := a2 v hv; unfold leI; omega), ?_⟩
  exact stb_put (by rw [List.take_append_drop]; exact Stb.refl L) a2
/-- where two sorted rows are cut: s of the first, e of the second -/
structure CutAt (L R : List It) (s e : Nat) : Prop where
  hs : s ≤ L.length
  he : e ≤ R.length
  lt : s < L.length → 0 < e → ky (gi R (e - 1)) < ky (gi L s)
  le : 0 < s → e < R.length → ky (gi L (s - 1)) ≤ ky (gi R e)
theorem CutAt.ne {L R : List It} {s e : Nat} (h : CutAt L R s e) (hL : L.Pairwise leI) (hR : R.Pairwise leI) : ∀ a ∈ L.drop s, ∀ b ∈ R.take e, ky b < ky a := fun a ha b hb => by
  obtain ⟨i, i1, i2, rfl⟩ := mem_drop_gi ha
  obtain ⟨j, j1, j2, rfl⟩ := mem_take_gi hb
  have h1 := h.lt (by omega) (by omega)
  have h2 := sorted_gi hL i1 i2
  have h3 := sorted_gi hR (i := j) (j := e - 1) (by omega) (by have := h.he; omega)
  omega
theorem CutAt.ok {L R : List It} {s e : Nat} (h : CutAt L R s e) (hL : L.Pairwise leI) (hR : R.Pairwise leI) : ∀ a ∈ L.take s ++ R.take e, ∀ b ∈ L.drop s ++ R.drop e, leI a b := fun a ha b hb => by
  have hn := h.ne hL hR
  unfold leI
  rcases List.mem_append.1 ha with ha | ha <;> rcases List.mem_append.1 hb with hb | hb
  · obtain ⟨i, i1, i2, rfl⟩ := mem_take_gi ha
    obtain ⟨j, j1, j2, rfl⟩ := mem_drop_gi hb
    exact sorted_gi hL (by omega) j2
  · obtain ⟨i, i1, i2, rfl⟩ := mem_take_gi ha
    obtain ⟨j, j1, j2, rfl⟩ := mem_drop_gi hb
    have h1 := h.le (by omega) (by omega)
    have h2 := sorted_gi hL (i := i) (j := s - 1) (by omega) (by have := h.hs; omega)
    have h3 := sorted_gi hR j1 j2
    omega
  · have := hn b hb a ha
    omega
  · obtain ⟨i, i1, i2, rfl⟩ := mem_take_gi ha
    obtain ⟨j, j1, j2, rfl⟩ := mem_drop_gi hb
    exact sorted_gi hR (by omega) j2
/-- the two halves, each made one, are one -/
theorem CutAt.join {L R M1 M2 : List It} {s e : Nat} (h : CutAt L R s e) (hL : L.Pairwise leI) (hR : R.Pairwise leI) (s1 : M1.Pairwise leI) (t1 : Stb (L.take s ++ R.take e) M1) (s2 : M2.Pairwise leI) (t2 : Stb (L.drop s ++ R.drop e) M2) :
    (M1 ++ M2).Pairwise leI ∧ Stb (L ++ R) (M1 ++ M2) := by
  refine ⟨List.pairwise_append.2 ⟨s1, s2, fun a ha b hb => h.ok hL hR a ((t1.mem a).1 ha) b ((t2.mem b).1 hb)⟩, ?_⟩
  refine Stb.trans ?_ (t1.app t2)
  have e1 : L ++ R = L.take s ++ (L.drop s ++ R.take e) ++ R.drop e := by
    rw [List.append_assoc, List.append_assoc, List.take_append_drop, ← List.append_assoc, List.take_append_drop]
  have e2 : L.take s ++ R.take e ++ (L.drop s ++ R.drop e) = L.take s ++ (R.take e ++ L.drop s) ++ R.drop e := by simp
  rw [e1, e2]
  exact Stb.mid _ _ (Stb.turn (fun a ha b hb => by have := h.ne hL hR a ha b hb; omega))
end Go.Proofs.Ytncbnejldlfbdaa.PIdx
