/- Plain facts on heaps of entries as lists: what one exchange up or down leaves of the order; no condition. -/
import Derived.PlainAid
namespace Go.Proofs.Ytncbnejldlfbdaa.PHeap
set_option linter.unusedVariables false
set_option linter.unusedSimpArgs false
/-- an entry: how near, its node, its number -/
abbrev Ent := Int × Int × Int
def thingI (e : Ent) : Int := if e.2.1 < 0 then 1 else 0
def cmpI (a b : Int) : Int := if a < b then -1 else if a > b then 1 else 0
def ordE (a b : Ent) : Int := if cmpI a.1 b.1 ≠ 0 then cmpI a.1 b.1 else if cmpI (thingI a) (thingI b) ≠ 0 then cmpI (thingI a) (thingI b) else if thingI a = 0 then cmpI a.2.1 b.2.1 else cmpI a.2.2 b.2.2
/-- none behind -/
def leE (a b : Ent) : Prop := a.1 < b.1 ∨ (a.1 = b.1 ∧ ((0 ≤ a.2.1 ∧ b.2.1 < 0) ∨ (0 ≤ a.2.1 ∧ 0 ≤ b.2.1 ∧ a.2.1 ≤ b.2.1) ∨ (a.2.1 < 0 ∧ b.2.1 < 0 ∧ a.2.2 ≤ b.2.2)))
theorem ordE_le (a b : Ent) : ordE a b ≤ 0 ↔ leE a b := by
  obtain ⟨a1, a2, a3⟩ := a
  obtain ⟨b1, b2, b3⟩ := b
  unfold ordE leE thingI cmpI
  simp only
  repeat' split
  all_goals omega
theorem leE_refl (a : Ent) : leE a a := by unfold leE; omega
theorem leE_trans {a b c : Ent} (h : leE a b) (k : leE b c) : leE a c := by unfold leE at *; omega
theorem leE_total (a b : Ent) : leE a b ∨ leE b a := by unfold leE; omega
theorem leE_low {a b : Ent} (h : leE a b) : a.1 ≤ b.1 := by unfold leE at h; omega
theorem ordE_lt (a b : Ent) : ordE a b < 0 ↔ ¬ leE b a := by
  obtain ⟨a1, a2, a3⟩ := a
  obtain ⟨b1, b2, b3⟩ := b
  unfold ordE leE thingI cmpI
  simp only
  repeat' split
  all_goals omega
/-- place i of a list of entries -/
def gt (l : List Ent) (i : Nat) : Ent := l.getD i (0, 0, 0)
theorem gt_some {l : List Ent} {i : Nat} (h : i < l.length) : l[i]? = some (gt l i) := by
  unfold gt; rw [List.getD_eq_getElem?_getD, List.getElem?_eq_getElem h]; rfl
theorem gt_eq {l : List Ent} {i : Nat} (h : i < l.length) : gt l i = l[i] := by
  have := gt_some h
  rw [List.getElem?_eq_getElem h] at this
  exact (Option.some.inj this).symm
def swapL (l : List Ent) (i k : Nat) : List Ent := (l.set i (gt l k)).set k (gt l i)
theorem swapL_length (l : List Ent) (i k : Nat) : (swapL l i k).length = l.length := by simp [swapL]
theorem gt_swapL {l : List Ent} {i k : Nat} (hi : i < l.length) (hk : k < l.length) (j : Nat) : gt (swapL l i k) j = if j = k then gt l i else if j = i then gt l k else gt l j := by
  unfold swapL
  by_cases h1 : j = k
  · subst h1
    rw [if_pos rfl]
    have := gt_some (l := (l.set i (gt l j)).set j (gt l i)) (i := j) (by simpa using hk)
    rw [List.getElem?_set_self (by simpa using hk)] at this
    exact (Option.some.inj this).symm
  · rw [if_neg h1]
    by_cases h2 : j = i
    · subst h2
      rw [if_pos rfl]
      have := gt_some (l := (l.set j (gt l k)).set k (gt l j)) (i := j) (by simpa using hi)
      rw [List.getElem?_set_ne (by omega), List.getElem?_set_self (by simpa using hi)] at this
      exact (Option.some.inj this).symm
    · rw [if_neg h2]
      unfold gt
      rw [List.getD_eq_getElem?_getD, List.getElem?_set_ne (by omega), List.getElem?_set_ne (by omega), List.getD_eq_getElem?_getD]
theorem swapL_perm {l : List Ent} {i k : Nat} (hi : i < l.length) (hk : k < l.length) : (swapL l i k).Perm l := by
  unfold swapL
  rw [gt_eq hi, gt_eq hk]
  exact List.set_set_perm hi hk
/-- none above is behind one below -/
def Heaped (l : List Ent) : Prop := ∀ j, 0 < j → j < l.length → leE (gt l ((j - 1) / 2)) (gt l j)
/-- .. but for what stands at i: it may be ahead of what is above it -/
def UpBut (l : List Ent) (i : Nat) : Prop := (∀ j, 0 < j → j < l.length → j ≠ i → leE (gt l ((j - 1) / 2)) (gt l j)) ∧ (∀ j, 0 < j → j < l.length → (j - 1) / 2 = i → 0 < i → leE (gt l ((i - 1) / 2)) (gt l j))
/-- .. it may be behind what is below it -/
def DownBut (l : List Ent) (i : Nat) : Prop := (∀ j, 0 < j → j < l.length → (j - 1) / 2 ≠ i → leE (gt l ((j - 1) / 2)) (gt l j)) ∧ (∀ j, 0 < j → j < l.length → (j - 1) / 2 = i → 0 < i → leE (gt l ((i - 1) / 2)) (gt l j))
theorem Heaped.root {l : List Ent} (h : Heaped l) : ∀ j, j < l.length → leE (gt l 0) (gt l j) := by
  intro j
  induction j using Nat.strongRecOn with
  | ind j ih =>
    intro hj
    by_cases h0 : j = 0
    · subst h0; exact leE_refl _
    · exact leE_trans (ih ((j - 1) / 2) (by omega) (by omega)) (h j (by omega) hj)
theorem Heaped.least {l : List Ent} (h : Heaped l) : ∀ x ∈ l, leE (gt l 0) x := by
  intro x hx
  obtain ⟨j, hj, rfl⟩ := List.mem_iff_getElem.1 hx
  rw [← gt_eq hj]
  exact h.root j hj
theorem UpBut.zero {l : List Ent} (h : UpBut l 0) : Heaped l := fun j h0 hj => h.1 j h0 hj (by omega)
theorem UpBut.done {l : List Ent} {i : Nat} (h : UpBut l i) (hle : leE (gt l ((i - 1) / 2)) (gt l i)) : Heaped l := by
  intro j h0 hj
  by_cases e : j = i
  · subst e; exact hle
  · exact h.1 j h0 hj e
theorem UpBut.step {l : List Ent} {i : Nat} (h : UpBut l i) (hi : i < l.length) (h0 : 0 < i) (hle : leE (gt l i) (gt l ((i - 1) / 2))) : UpBut (swapL l i ((i - 1) / 2)) ((i - 1) / 2) := by
  have ha : (i - 1) / 2 < l.length := by omega
  refine ⟨fun j hj0 hj hne => ?_, fun j hj0 hj hp ha0 => ?_⟩
  · rw [swapL_length] at hj
    rw [gt_swapL hi ha, gt_swapL hi ha]
    rw [if_neg (t := gt l i) hne]
    by_cases e : j = i
    · subst e
      rw [if_pos rfl, if_pos rfl]; exact hle
    · rw [if_neg (t := gt l ((i - 1) / 2)) e]
      by_cases e1 : (j - 1) / 2 = (i - 1) / 2
      · rw [if_pos e1]
        have := h.1 j hj0 hj e
        rw [e1] at this
        exact leE_trans hle this
      · rw [if_neg e1]
        by_cases e2 : (j - 1) / 2 = i
        · rw [if_pos e2]
          exact h.2 j hj0 hj e2 h0
        · rw [if_neg e2]
          exact h.1 j hj0 hj e
  · rw [swapL_length] at hj
    rw [gt_swapL hi ha, gt_swapL hi ha]
    rw [if_neg (by omega), if_neg (by omega), if_neg (by omega)]
    have h3 := h.1 ((i - 1) / 2) ha0 ha (by omega)
    by_cases e : j = i
    · rw [if_pos e]; exact h3
    · rw [if_neg e]
      have h4 := h.1 j hj0 hj e
      rw [hp] at h4
      exact leE_trans h3 h4
theorem UpBut.last {l : List Ent} (h : Heaped l) (x : Ent) : UpBut (l ++ [x]) l.length := by
  have hg : ∀ j, j < l.length → gt (l ++ [x]) j = gt l j := by
    intro j hj
    unfold gt
    rw [List.getD_eq_getElem?_getD, List.getD_eq_getElem?_getD, List.getElem?_append_left hj]
  refine ⟨fun j h0 hj hne => ?_, fun j h0 hj hp hi => ?_⟩
  · simp only [List.length_append, List.length_singleton] at hj
    rw [hg _ (by omega), hg _ (by omega)]
    exact h j h0 (by omega)
  · simp only [List.length_append, List.length_singleton] at hj
    omega
theorem DownBut.done {l : List Ent} {i : Nat} (h : DownBut l i) (h1 : 2 * i + 1 < l.length → leE (gt l i) (gt l (2 * i + 1))) (h2 : 2 * i + 2 < l.length → leE (gt l i) (gt l (2 * i + 2))) : Heaped l := by
  intro j h0 hj
  by_cases e : (j - 1) / 2 = i
  · rw [e]
    by_cases e1 : j = 2 * i + 1
    · subst e1; exact h1 hj
    · have e2 : j = 2 * i + 2 := by omega
      subst e2; exact h2 hj
  · exact h.1 j h0 hj e
theorem DownBut.step {l : List Ent} {i k : Nat} (h : DownBut l i) (hk : k < l.length) (hp : (k - 1) / 2 = i) (hk0 : 0 < k) (hki : leE (gt l k) (gt l i)) (hmin : ∀ j, 0 < j → j < l.length → (j - 1) / 2 = i → leE (gt l k) (gt l j)) : DownBut (swapL l i k) k := by
  have hi : i < l.length := by omega
  have hik : i < k := by omega
  refine ⟨fun j h0 hj hne => ?_, fun j h0 hj hpk hk1 => ?_⟩
  · rw [swapL_length] at hj
    rw [gt_swapL hi hk, gt_swapL hi hk, if_neg (t := gt l i) hne]
    by_cases e : (j - 1) / 2 = i
    · rw [if_pos e]
      by_cases e1 : j = k
      · rw [if_pos e1]; exact hki
      · rw [if_neg e1, if_neg (by omega)]
        exact hmin j h0 hj e
    · rw [if_neg e]
      by_cases e1 : j = k
      · exact absurd (e1 ▸ hp) e
      · rw [if_neg e1]
        by_cases e2 : j = i
        · rw [if_pos e2]
          subst e2
          exact h.2 k hk0 hk hp h0
        · rw [if_neg e2]
          exact h.1 j h0 hj e
  · rw [swapL_length] at hj
    rw [gt_swapL hi hk, gt_swapL hi hk, hp]
    rw [if_neg (by omega), if_pos rfl, if_neg (by omega), if_neg (by omega)]
    have := h.1 j h0 hj (by omega)
    rw [hpk] at this
    exact this
/-- the last one taken to the head, without it at the end -/
theorem DownBut.pop {l : List Ent} (h : Heaped l) (hn : 0 < l.length) : DownBut ((swapL l 0 (l.length - 1)).take (l.length - 1)) 0 := by
  have hl : l.length - 1 < l.length := by omega
  have hg : ∀ j, 0 < j → j < l.length - 1 → gt ((swapL l 0 (l.length - 1)).take (l.length - 1)) j = gt l j := by
    intro j h0 hj
    have : gt ((swapL l 0 (l.length - 1)).take (l.length - 1)) j = gt (swapL l 0 (l.length - 1)) j := by
      unfold gt; rw [List.getD_eq_getElem?_getD, List.getD_eq_getElem?_getD, List.getElem?_take_of_lt hj]
    rw [this, gt_swapL hn hl, if_neg (by omega), if_neg (by omega)]
  refine ⟨fun j h0 hj hne => ?_, fun j h0 hj hp hi => absurd hi (by omega)⟩
  rw [List.length_take, swapL_length] at hj
  have hj' : j < l.length - 1 := by omega
  rw [hg _ (by omega) (by omega), hg _ h0 hj']
  exact h j h0 (by omega)
theorem pop_perm {l : List Ent} (hn : 0 < l.length) : (gt l 0 :: (swapL l 0 (l.length - 1)).take (l.length - 1)).Perm l := by
  have hl : l.length - 1 < l.length := by omega
  have h1 : swapL l 0 (l.length - 1) = (swapL l 0 (l.length - 1)).take (l.length - 1) ++ [gt l 0] := by
    have h2 := List.take_append_drop (l.length - 1) (swapL l 0 (l.length - 1))
    have h3 : (swapL l 0 (l.length - 1)).drop (l.length - 1) = [gt l 0] := by
      have hs : l.length - 1 < (swapL l 0 (l.length - 1)).length := by rw [swapL_length]; exact hl
      rw [List.drop_eq_getElem_cons hs, ← gt_eq hs, gt_swapL hn hl, if_pos rfl]
      rw [List.drop_of_length_le (by rw [swapL_length]; omega)]
    rw [h3] at h2
    exact h2.symm
  have h4 := swapL_perm hn hl
  rw [h1] at h4
  exact (List.perm_append_comm (l₁ := [gt l 0])).trans h4
/-- the place of the first of i and those below it, as the program looks for it: k is looked at, out is the first till then -/
def firstL (l : List Ent) (i : Nat) : Nat :=
  let o1 := if 2 * i + 1 < l.length ∧ ordE (gt l (2 * i + 1)) (gt l i) < 0 then 2 * i + 1 else i
  if 2 * i + 2 < l.length ∧ ordE (gt l (2 * i + 2)) (gt l o1) < 0 then 2 * i + 2 else o1
theorem firstL_cases (l : List Ent) (i : Nat) (hi : i < l.length) : (firstL l i = i ∧ (2 * i + 1 < l.length → leE (gt l i) (gt l (2 * i + 1))) ∧ (2 * i + 2 < l.length → leE (gt l i) (gt l (2 * i + 2)))) ∨
    (firstL l i ≠ i ∧ i < firstL l i ∧ firstL l i < l.length ∧ 0 < firstL l i ∧ (firstL l i - 1) / 2 = i ∧ leE (gt l (firstL l i)) (gt l i) ∧ ∀ j, 0 < j → j < l.length → (j - 1) / 2 = i → leE (gt l (firstL l i)) (gt l j)) := by
  have T := fun a b => leE_total a b
  have cases2 : ∀ j, 0 < j → (j - 1) / 2 = i → j = 2 * i + 1 ∨ j = 2 * i + 2 := fun j h0 h => by omega
  unfold firstL
  by_cases c1 : 2 * i + 1 < l.length ∧ ordE (gt l (2 * i + 1)) (gt l i) < 0
  · simp only [if_pos c1]
    have t1 := (T (gt l i) (gt l (2 * i + 1))).resolve_left ((ordE_lt _ _).1 c1.2)
    by_cases c2 : 2 * i + 2 < l.length ∧ ordE (gt l (2 * i + 2)) (gt l (2 * i + 1)) < 0
    · simp only [if_pos c2]
      have t2 := (T (gt l (2 * i + 1)) (gt l (2 * i + 2))).resolve_left ((ordE_lt _ _).1 c2.2)
      refine .inr ⟨by omega, by omega, c2.1, by omega, by omega, leE_trans t2 t1, fun j h0 hj hp => ?_⟩
      rcases cases2 j h0 hp with rfl | rfl
      · exact t2
      · exact leE_refl _
    · simp only [if_neg c2]
      refine .inr ⟨by omega, by omega, c1.1, by omega, by omega, t1, fun j h0 hj hp => ?_⟩
      rcases cases2 j h0 hp with rfl | rfl
      · exact leE_refl _
      · exact Classical.byContradiction fun hh => c2 ⟨hj, (ordE_lt _ _).2 hh⟩
  · simp only [if_neg c1]
    have d1 : 2 * i + 1 < l.length → leE (gt l i) (gt l (2 * i + 1)) := fun hj => Classical.byContradiction fun hh => c1 ⟨hj, (ordE_lt _ _).2 hh⟩
    by_cases c2 : 2 * i + 2 < l.length ∧ ordE (gt l (2 * i + 2)) (gt l i) < 0
    · simp only [if_pos c2]
      have t2 := (T (gt l i) (gt l (2 * i + 2))).resolve_left ((ordE_lt _ _).1 c2.2)
      refine .inr ⟨by omega, by omega, c2.1, by omega, by omega, t2, fun j h0 hj hp => ?_⟩
      rcases cases2 j h0 hp with rfl | rfl
      · exact leE_trans t2 (d1 hj)
      · exact leE_refl _
    · simp only [if_neg c2]
      exact .inl ⟨trivial, d1, fun hj => Classical.byContradiction fun hh => c2 ⟨hj, (ordE_lt _ _).2 hh⟩⟩
end Go.Proofs.Ytncbnejldlfbdaa.PHeap
