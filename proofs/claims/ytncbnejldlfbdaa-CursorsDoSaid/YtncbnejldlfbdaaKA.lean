/- What the reference's Less, Put and Sort of hits and the law's may answer, as plain functions on lists; of fewer than 2^42 hits. -/
import Derived.Test.YtncbnejldlfbdaaPCursorsDox3
namespace Go.Proofs.Ytncbnejldlfbdaa.PCur
open Go.RowKit Go.Proofs.YtncbnejldlfbdaaW.PrintWords
open Go.Proofs.Ytncbnejldlfbdaa.PCursorsDo
set_option linter.unusedVariables false
set_option linter.unusedSimpArgs false
/-- none behind, of hits -/
def leH (a b : S31) : Prop := a.f1 < b.f1 ∨ (a.f1 = b.f1 ∧ a.f0 ≤ b.f0)
def ltH (a b : S31) : Prop := a.f1 < b.f1 ∨ (a.f1 = b.f1 ∧ a.f0 < b.f0)
instance (a b : S31) : Decidable (ltH a b) := by unfold ltH; infer_instance
theorem leH_total (a b : S31) : ltH a b ∨ leH b a := by unfold leH ltH; omega
theorem ltH_le {a b : S31} (h : ltH a b) : leH a b := by unfold leH ltH at *; omega
theorem leH_of_not {a b : S31} (h : ¬ ltH a b) : leH b a := (leH_total a b).resolve_left h
theorem leH_trans {a b c : S31} (h : leH a b) (k : leH b c) : leH a c := by unfold leH at *; omega
def insH (l : List S31) (h : S31) : List S31 :=
  match l with
  | [] => [h]
  | x :: l => if ltH h x then h :: x :: l else x :: insH l h
def sortH : List S31 → List S31 → List S31
  | acc, [] => acc
  | acc, x :: l => sortH (insH acc x) l
theorem insH_perm (l : List S31) (h : S31) : (insH l h).Perm (h :: l) := by
  induction l with
  | nil => exact List.Perm.refl _
  | cons x l ih =>
    unfold insH
    split
    · exact List.Perm.refl _
    · exact (ih.cons x).trans (List.Perm.swap _ _ _)
theorem insH_length (l : List S31) (h : S31) : (insH l h).length = l.length + 1 := by simpa using (insH_perm l h).length_eq
theorem insH_sorted {l : List S31} (hl : l.Pairwise leH) (h : S31) : (insH l h).Pairwise leH := by
  induction l with
  | nil => exact List.pairwise_singleton _ _
  | cons x l ih =>
    obtain ⟨h1, h2⟩ := List.pairwise_cons.1 hl
    unfold insH
    split
    · rename_i hlt
      refine List.pairwise_cons.2 ⟨fun y hy => ?_, hl⟩
      rcases List.mem_cons.1 hy with rfl | hy
      · exact ltH_le hlt
      · exact leH_trans (ltH_le hlt) (h1 y hy)
    · rename_i hlt
      refine List.pairwise_cons.2 ⟨fun y hy => ?_, ih h2⟩
      rcases List.mem_cons.1 ((insH_perm l h).mem_iff.1 hy) with rfl | hy
      · exact leH_of_not hlt
      · exact h1 y hy
theorem sortH_perm (acc l : List S31) : (sortH acc l).Perm (acc ++ l) := by
  induction l generalizing acc with
  | nil => simp [sortH]
  | cons x l ih =>
    unfold sortH
    refine (ih _).trans (((insH_perm acc x).append_right l).trans ?_)
    exact (List.perm_middle (a := x) (l₁ := acc) (l₂ := l)).symm
theorem sortH_sorted {acc : List S31} (h : acc.Pairwise leH) (l : List S31) : (sortH acc l).Pairwise leH := by
  induction l generalizing acc with
  | nil => exact h
  | cons x l ih => unfold sortH; exact ih (insH_sorted h x)
theorem rd31 {l : List S31} {i : Nat} (h : i < l.length) : rd_T31 l (i : Int) = l[i] := by
  unfold rd_T31
  rw [Int.toNat_natCast, List.getD_eq_getElem?_getD, List.getElem?_eq_getElem h]
  rfl
theorem wrap_succ {i : Nat} (h : i < 9223372036854775806) : wrap64 ((i : Int) + 1) = ((i + 1 : Nat) : Int) := by unfold wrap64; omega
theorem less_f (a b : S31) : waywiserref11_Less.f a.f0 a.f1 b.f0 b.f1 = some (decide (ltH a b)) := by
  unfold waywiserref11_Less.f ltH
  by_cases h1 : a.f1 < b.f1
  · simp [h1]
  · by_cases h2 : a.f1 = b.f1
    · simp [h2]
    · simp [h1, h2]
theorem put_done (l : List S31) (a b : Int) (hl : l.length < 4398046511104) : ∀ (d i k : Nat) (out : List S31), i + d = l.length → d < k → out.length ≤ i + 1 →
    waywiserref11_Put.l0 k l out true (i : Int) a b = some (out ++ l.drop i) := by
  intro d
  induction d with
  | zero =>
    intro i k out hi hk ho
    obtain ⟨k, rfl⟩ : ∃ m, k = m + 1 := ⟨k - 1, by omega⟩
    simp only [waywiserref11_Put.l0]
    rw [if_neg (by omega)]
    simp only [if_true]
    rw [List.drop_of_length_le (by omega), List.append_nil]
  | succ d ih =>
    intro i k out hi hk ho
    obtain ⟨k, rfl⟩ : ∃ m, k = m + 1 := ⟨k - 1, by omega⟩
    simp only [waywiserref11_Put.l0]
    rw [if_pos (by omega)]
    simp only [if_true]
    rw [if_pos (by omega), if_pos (by omega), wrap_succ (by omega), ih (i + 1) k _ (by omega) (by omega) (by simp; omega)]
    rw [rd31 (by omega : i < l.length), List.drop_eq_getElem_cons (by omega : i < l.length)]
    simp
    exact (List.drop_eq_getElem_cons (by omega : i < l.length)).symm
theorem put_loop (l : List S31) (h : S31) (hl : l.length < 4398046511104) : ∀ (d i k : Nat) (out : List S31), i + d = l.length → d < k → out.length = i →
    waywiserref11_Put.l0 k l out false (i : Int) h.f0 h.f1 = some (out ++ insH (l.drop i) h) := by
  intro d
  induction d with
  | zero =>
    intro i k out hi hk ho
    obtain ⟨k, rfl⟩ : ∃ m, k = m + 1 := ⟨k - 1, by omega⟩
    simp only [waywiserref11_Put.l0]
    rw [if_neg (by omega)]
    simp only [Bool.false_eq_true, if_false]
    rw [if_pos (by omega), List.drop_of_length_le (by omega)]
    rfl
  | succ d ih =>
    intro i k out hi hk ho
    obtain ⟨k, rfl⟩ : ∃ m, k = m + 1 := ⟨k - 1, by omega⟩
    simp only [waywiserref11_Put.l0]
    have hlt : i < l.length := by omega
    rw [if_pos (by omega)]
    simp only [Bool.false_eq_true, if_false]
    rw [if_pos (by omega), less_f, Option.bind_some, List.drop_eq_getElem_cons hlt, rd31 hlt]
    unfold insH
    by_cases hh : ltH h l[i]
    · rw [if_pos hh, decide_eq_true hh, if_pos rfl, if_pos (by omega), Option.bind_some, if_pos (by simp; omega), wrap_succ (by omega), put_done l h.f0 h.f1 hl d (i + 1) k _ (by omega) (by omega) (by simp; omega)]
      simp
      exact (List.drop_eq_getElem_cons hlt).symm
    · rw [if_neg hh, decide_eq_false hh]
      simp only [Bool.false_eq_true, if_false]
      rw [if_pos (by omega), wrap_succ (by omega), ih (i + 1) k _ (by omega) (by omega) (by simp; omega)]
      simp
theorem put_f (l : List S31) (h : S31) (hl : l.length < 4398046511104) (k : Nat) (hk : l.length < k) : waywiserref11_Put.f k l h.f0 h.f1 = some (insH l h) := by
  unfold waywiserref11_Put.f
  have := put_loop l h hl l.length 0 k [] (by omega) hk rfl
  simpa using this
theorem sort_loop (l : List S31) (hl : l.length < 4398046511104) : ∀ (d i k : Nat) (acc : List S31), i + d = l.length → l.length + 1 + d < k → acc.length = i →
    waywiserref11_Sort.l0 k l acc (i : Int) = some (sortH acc (l.drop i)) := by
  intro d
  induction d with
  | zero =>
    intro i k acc hi hk ho
    obtain ⟨k, rfl⟩ : ∃ m, k = m + 1 := ⟨k - 1, by omega⟩
    simp only [waywiserref11_Sort.l0]
    rw [if_neg (by omega), List.drop_of_length_le (by omega)]
    rfl
  | succ d ih =>
    intro i k acc hi hk ho
    obtain ⟨k, rfl⟩ : ∃ m, k = m + 1 := ⟨k - 1, by omega⟩
    have hlt : i < l.length := by omega
    simp only [waywiserref11_Sort.l0]
    rw [if_pos (by omega), if_pos (by omega), rd31 hlt, put_f acc l[i] (by omega) k (by omega), Option.bind_some, wrap_succ (by omega), ih (i + 1) k _ (by omega) (by omega) (by rw [insH_length]; omega)]
    rw [List.drop_eq_getElem_cons hlt]
    rfl
theorem sort_f (l : List S31) (hl : l.length < 4398046511104) : waywiserref11_Sort.f (2 * l.length + 2) l = some (sortH [] l) := by
  unfold waywiserref11_Sort.f
  have := sort_loop l hl l.length 0 (2 * l.length + 2) [] (by omega) (by omega) rfl
  simpa using this
/-- may of hits -/
def mayH (l : List S31) : Bool := decide (l.length ≤ 40) && l.all (fun x => decide (0 ≤ x.f1) && decide (x.f1 ≤ 1125899906842624))
theorem may_loop (l : List S31) (hl : l.length ≤ 40) : ∀ (d i k : Nat), i + d = l.length → d < k → waywiserlaw29_may.l0 k l (i : Int) = some ((l.drop i).all (fun x => decide (0 ≤ x.f1) && decide (x.f1 ≤ 1125899906842624))) := by
  intro d
  induction d with
  | zero =>
    intro i k hi hk
    obtain ⟨k, rfl⟩ : ∃ m, k = m + 1 := ⟨k - 1, by omega⟩
    simp only [waywiserlaw29_may.l0]
    rw [if_neg (by omega), List.drop_of_length_le (by omega)]
    rfl
  | succ d ih =>
    intro i k hi hk
    obtain ⟨k, rfl⟩ : ∃ m, k = m + 1 := ⟨k - 1, by omega⟩
    have hlt : i < l.length := by omega
    simp only [waywiserlaw29_may.l0]
    rw [if_pos (by omega), if_pos (by omega), rd31 hlt, List.drop_eq_getElem_cons hlt, List.all_cons]
    by_cases h1 : l[i].f1 < 0
    · rw [if_pos h1]; simp; omega
    · rw [if_neg h1]
      by_cases h2 : l[i].f1 > 1125899906842624
      · rw [if_pos h2]; simp; omega
      · rw [if_neg h2, wrap_succ (by omega), ih (i + 1) k (by omega) (by omega)]
        have e1 : decide (0 ≤ l[i].f1) = true := by simp; omega
        have e2 : decide (l[i].f1 ≤ 1125899906842624) = true := by simp; omega
        rw [e1, e2]
        simp
theorem may_f (l : List S31) : ∃ k, waywiserlaw29_may.f k l = some (mayH l) := by
  refine ⟨l.length + 1, ?_⟩
  unfold waywiserlaw29_may.f mayH
  by_cases h : (l.length : Int) > 40
  · rw [if_pos h]
    have e : decide (l.length ≤ 40) = false := by simp; omega
    rw [e]; rfl
  · rw [if_neg h]
    have e : decide (l.length ≤ 40) = true := by simp; omega
    have := may_loop l (by omega) l.length 0 (l.length + 1) (by omega) (by omega)
    rw [e]
    simpa using this
end Go.Proofs.Ytncbnejldlfbdaa.PCur
