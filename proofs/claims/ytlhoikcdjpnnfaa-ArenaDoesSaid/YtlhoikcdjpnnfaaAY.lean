/- The reference's functions on arenas answer what the plain ones do, where slots are fewer than 2^43. -/
import Derived.Test.YtlhoikcdjpnnfaaAX
import Derived.Test.YtlhoikcdjpnnfaaAR
namespace Go.Proofs.Ytlhoikcdjpnnfaa.PArena
open Go.RowKit Go.Proofs.YtlhoikcdjpnnfaaW.PrintWords Go.Proofs.YtlhoikcdjpnnfaaW.PrintLast Go.Proofs.YtlhoikcdjpnnfaaW.PrintMore
open Go.Proofs.Ytlhoikcdjpnnfaa.PRef
def one (p : Slot) : S51 := ⟨p.1, p.2⟩
def toS (sl : List Slot) : List S51 := sl.map one
theorem toS_length (sl : List Slot) : (toS sl).length = sl.length := by simp [toS]
theorem toS_set (sl : List Slot) (i : Nat) (p : Slot) : toS (sl.set i p) = (toS sl).set i (one p) := by simp [toS, List.map_set]
theorem toS_append (sl : List Slot) (p : Slot) : toS (sl ++ [p]) = toS sl ++ [one p] := by simp [toS]
theorem wrap_in (i : Int) (h0 : -9223372036854775808 ≤ i) (h : i ≤ 9223372036854775807) : wrap64 i = i := by
  unfold wrap64; omega
theorem toS_at (sl : List Slot) (i : Nat) (p : Slot) (h : sl[i]? = some p) : rd_T51 (toS sl) (i : Int) = one p := by
  unfold rd_T51 toS
  rw [Int.toNat_natCast, List.getD_eq_getElem?_getD, List.getElem?_map, h, Option.map_some, Option.getD_some]
theorem rget_f (sl : List Slot) (fr : List Int) (i : Int) : waywiserref13_Get.f (toS sl) fr i = some (getB sl i) := by
  unfold waywiserref13_Get.f
  rw [toS_length]
  by_cases h0 : i < 0
  · rw [if_pos h0]
    have : hasB sl i = false := by unfold hasB; rw [decide_eq_false (by omega)]; rfl
    simp [getB, this]
  · rw [if_neg h0]
    obtain ⟨n, rfl⟩ : ∃ n : Nat, i = (n : Int) := ⟨i.toNat, by omega⟩
    by_cases h1 : n < sl.length
    · rw [if_neg (by omega), if_pos (by omega), if_pos (by omega)]
      obtain ⟨p, hp⟩ : ∃ p, sl[n]? = some p := ⟨sl[n], List.getElem?_eq_getElem h1⟩
      rw [toS_at sl n p hp]
      have hb : hasB sl (n : Int) = p.1 := by simp [hasB, hp]
      obtain ⟨u, x⟩ := p
      cases u with
      | true => rw [if_pos (show (one (true, x)).f0 = true from rfl)]; simp [getB, hb, hp, one]
      | false => rw [if_neg (by simp [one])]; simp [getB, hb]
    · rw [if_pos (by omega)]
      have : hasB sl (n : Int) = false := by simp [hasB, List.getElem?_eq_none (Nat.le_of_not_lt h1)]
      simp [getB, this]
theorem rcut_f (sl : List Slot) (fr : List Int) (i : Int) (hs : sl.length < 8796093022208) (hf : fr.length < 8796093022208) : waywiserref13_Cut.f (toS sl) fr i = some (toS (cutS sl i), cutF sl fr i, hasB sl i) := by
  unfold waywiserref13_Cut.f
  rw [rget_f, Option.bind_some]
  cases hb : hasB sl i with
  | false =>
    rw [if_neg (by simp [getB, hb])]
    simp [cutS, cutF, hb]
  | true =>
    obtain ⟨n, x, rfl, hp⟩ := hasB_yes hb
    have hlt := get_of hp
    rw [if_pos (by simp [getB, hb]), if_pos (by rw [toS_length, List.length_nil]; omega), Option.bind_some, List.nil_append, if_pos (by omega), if_pos (by rw [toS_length]; omega), if_pos (by rw [List.length_nil]; omega), Option.bind_some, List.nil_append, if_pos (by omega)]
    rw [show cutS sl (n : Int) = sl.set n (false, 0) from by simp [cutS, hb], show cutF sl fr (n : Int) = fr ++ [(n : Int)] from by simp [cutF, hb], toS_set, Int.toNat_natCast]
    rfl
theorem rset_f (sl : List Slot) (fr : List Int) (i x : Int) (hs : sl.length < 8796093022208) : waywiserref13_Set.f (toS sl) fr i x = some (toS (setB sl i x), fr, hasB sl i) := by
  unfold waywiserref13_Set.f
  rw [rget_f, Option.bind_some]
  cases hb : hasB sl i with
  | false =>
    rw [if_neg (by simp [getB, hb])]
    simp [setB, hb]
  | true =>
    obtain ⟨n, y, rfl, hp⟩ := hasB_yes hb
    have hlt := get_of hp
    rw [if_pos (by simp [getB, hb]), if_pos (by rw [toS_length, List.length_nil]; omega), Option.bind_some, List.nil_append, if_pos (by omega), if_pos (by rw [toS_length]; omega)]
    rw [show setB sl (n : Int) x = sl.set n (true, x) from by simp [setB, hb], toS_set, Int.toNat_natCast, toS_at sl n _ hp]
    rfl
theorem rput_new (sl : List Slot) (x : Int) (hs : sl.length < 8796093022208) : waywiserref13_Put.f (toS sl) [] x = some (toS (sl ++ [(true, x)]), [], (sl.length : Int)) := by
  unfold waywiserref13_Put.f
  rw [if_pos (by rw [toS_length, List.length_nil]; omega), Option.bind_some, List.nil_append, if_pos (by simp), if_pos (by rw [toS_length]; omega), toS_length, toS_append]
  rfl
theorem rput_free (sl : List Slot) (fr : List Int) (m : Nat) (x : Int) (hs : sl.length < 8796093022208) (hf : fr.length < 8796093022208) (hm : m < sl.length) :
    waywiserref13_Put.f (toS sl) (fr ++ [(m : Int)]) x = some (toS (sl.set m (true, x)), fr, (m : Int)) := by
  have hlen : (fr ++ [(m : Int)]).length = fr.length + 1 := by simp
  have e1 : wrap64 (((fr ++ [(m : Int)]).length : Int) - 1) = (fr.length : Int) := by rw [wrap_in _ (by omega) (by omega)]; omega
  have e2 : rd (fr ++ [(m : Int)]) (fr.length : Int) = (m : Int) := by
    unfold rd
    rw [Int.toNat_natCast, List.getD_eq_getElem?_getD]
    simp
  have e3 : (fr ++ [(m : Int)]).take fr.length = fr := by simp
  unfold waywiserref13_Put.f
  rw [if_pos (by rw [toS_length, List.length_nil]; omega), Option.bind_some, List.nil_append, if_neg (by omega), e1, if_pos (by omega), if_pos (by omega), e2, if_pos (by omega), if_pos (by rw [toS_length]; omega), if_pos (by omega), Int.toNat_natCast, Int.toNat_natCast, e3, if_pos (by rw [List.length_nil]; omega), toS_set]
  rfl
theorem ints_l0 (l : List Int) (hl : l.length ≤ 8796093022208) (d : Nat) : ∀ (k i : Nat), i + d = l.length → d < k → waywiserref07_Ints.l0 k l l (i : Int) = some true := by
  induction d with
  | zero =>
    intro k i hi hk
    obtain ⟨k, rfl⟩ : ∃ m, k = m + 1 := ⟨k - 1, by omega⟩
    simp only [waywiserref07_Ints.l0]; rw [if_neg (by omega)]
  | succ d ih =>
    intro k i hi hk
    obtain ⟨k, rfl⟩ : ∃ m, k = m + 1 := ⟨k - 1, by omega⟩
    simp only [waywiserref07_Ints.l0]
    rw [if_pos (by omega), if_pos (by omega), if_pos (by omega), if_pos trivial, wrap_in _ (by omega) (by omega)]
    exact ih k (i + 1) (by omega) (by omega)
theorem ints_f (l : List Int) (hl : l.length ≤ 8796093022208) : waywiserref07_Ints.f (l.length + 1) l l = some true := by
  unfold waywiserref07_Ints.f
  rw [if_pos rfl]
  exact ints_l0 l hl l.length _ 0 (by omega) (by omega)
/-- in how many slots there is something -/
def cnt : List Slot → Nat
  | [] => 0
  | p :: l => (if p.1 = true then 1 else 0) + cnt l
theorem cnt_append (l m : List Slot) : cnt (l ++ m) = cnt l + cnt m := by
  induction l with
  | nil => simp [cnt]
  | cons p l ih => simp only [List.cons_append, cnt, ih]; omega
theorem cnt_set (l : List Slot) (i : Nat) (p q : Slot) (h : l[i]? = some q) : cnt (l.set i p) + (if q.1 = true then 1 else 0) = cnt l + (if p.1 = true then 1 else 0) := by
  induction l generalizing i with
  | nil => simp at h
  | cons r l ih =>
    cases i with
    | zero =>
      simp only [List.getElem?_cons_zero, Option.some.injEq] at h
      subst h
      simp only [List.set_cons_zero, cnt]; omega
    | succ i =>
      have := ih i (by simpa using h)
      simp only [List.set_cons_succ, cnt]; omega
theorem used_cnt (sl : List Slot) (n : Nat) (hn : n ≤ sl.length) : (usedL sl n).length = cnt (sl.take n) := by
  induction n with
  | zero => simp [usedL, cnt]
  | succ n ih =>
    have := ih (by omega)
    obtain ⟨p, hp⟩ : ∃ p, sl[n]? = some p := ⟨sl[n], List.getElem?_eq_getElem (by omega)⟩
    have hb : hasB sl (n : Int) = p.1 := by simp [hasB, hp]
    have ht : sl.take (n + 1) = sl.take n ++ [p] := by
      rw [List.take_succ_eq_append_getElem (by omega)]
      rw [List.getElem?_eq_getElem (by omega)] at hp
      rw [Option.some.inj hp]
    rw [ht, cnt_append]
    simp only [usedL, hb, cnt]
    cases p.1 <;> simp <;> omega
/-- a slot is free or there is something in it -/
def Full (sl : List Slot) (fr : List Int) : Prop := fr.length + cnt sl = sl.length
theorem Full.used {sl : List Slot} {fr : List Int} (h : Full sl fr) : fr.length + (usedL sl sl.length).length = sl.length := by
  rw [used_cnt sl _ (Nat.le_refl _), List.take_length]; exact h
theorem Full.nil : Full [] [] := rfl
theorem Full.put_new {sl : List Slot} (h : Full sl []) (x : Int) : Full (sl ++ [(true, x)]) [] := by
  unfold Full at *
  rw [cnt_append, List.length_append]
  simp [cnt] at *
  omega
theorem Full.put_free {sl : List Slot} {fr : List Int} {m : Nat} {y : Int} (h : Full sl (fr ++ [(m : Int)])) (hy : sl[m]? = some (false, y)) (x : Int) : Full (sl.set m (true, x)) fr := by
  unfold Full at *
  have := cnt_set sl m (true, x) _ hy
  rw [List.length_set]
  simp at *
  omega
theorem Full.cut {sl : List Slot} {fr : List Int} (h : Full sl fr) (i : Int) : Full (cutS sl i) (cutF sl fr i) := by
  unfold cutS cutF
  cases hb : hasB sl i with
  | false => simpa using h
  | true =>
    obtain ⟨n, x, rfl, hp⟩ := hasB_yes hb
    rw [if_pos rfl, if_pos rfl, Int.toNat_natCast]
    unfold Full at *
    have := cnt_set sl n (false, 0) _ hp
    rw [List.length_set, List.length_append]
    simp at *
    omega
theorem Full.set {sl : List Slot} {fr : List Int} (h : Full sl fr) (i x : Int) : Full (setB sl i x) fr := by
  unfold setB
  cases hb : hasB sl i with
  | false => simpa using h
  | true =>
    obtain ⟨n, y, rfl, hp⟩ := hasB_yes hb
    rw [if_pos rfl, Int.toNat_natCast]
    unfold Full at *
    have := cnt_set sl n (true, x) _ hp
    rw [List.length_set]
    simp at *
    omega
end Go.Proofs.Ytlhoikcdjpnnfaa.PArena
