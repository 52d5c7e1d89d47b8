/- What the functions of package check and of its reference answer is the plain sum, seal and opening, of bytes that are fewer than 2^47 - 8. -/
import Derived.Test.YtlikohaeiehocaaKM
import Derived.Test.YtlikohaeiehocaaKF
namespace Go.Proofs.Ytlikohaeiehocaa.PCheck
open Go.RowKit Go.Proofs.YtlikohaeiehocaaW.PrintWords Go.Proofs.YtlikohaeiehocaaW.PrintLast Go.Proofs.YtlikohaeiehocaaW.PrintMore
open Go.Proofs.Ytlikohaeiehocaa.MCheck

theorem ev_if {α : Type} {c : Prop} [Decidable c] {f g : Nat → Option α} {r : α} (h : c) (k : Ev f r) : Ev (fun n => if c then f n else g n) r := by simpa only [if_pos h] using k
theorem ev_else {α : Type} {c : Prop} [Decidable c] {f g : Nat → Option α} {r : α} (h : ¬ c) (k : Ev g r) : Ev (fun n => if c then f n else g n) r := by simpa only [if_neg h] using k
theorem rd_isB {l : List Int} (hl : isB l) (i : Nat) (hi : i < l.length) : 0 ≤ rd l (i : Int) ∧ rd l (i : Int) < 256 := by
  have e : rd l (i : Int) = l[i] := by
    unfold rd
    rw [Int.toNat_natCast, List.getD_eq_getElem?_getD, List.getElem?_eq_getElem hi, Option.getD_some]
  rw [e]
  exact hl _ (List.getElem_mem hi)

theorem more_l0 (h : Nat) (hh : h < 18446744073709551616) (l : List Int) (hl : isB l) (hn : l.length ≤ 140737488355320) (d : Nat) : ∀ (k i : Nat), i + d = l.length → d < k →
    check_More.l0 k ((sum h (l.take i) : Nat) : Int) l (l.length : Int) (i : Int) = some ((sum h l : Nat) : Int) := by
  induction d with
  | zero =>
    intro k i hi hk
    obtain ⟨k, rfl⟩ : ∃ m, k = m + 1 := ⟨k - 1, by omega⟩
    obtain rfl : i = l.length := by omega
    simp only [check_More.l0]; rw [if_neg (by omega), List.take_length]
  | succ d ih =>
    intro k i hi hk
    obtain ⟨k, rfl⟩ : ∃ m, k = m + 1 := ⟨k - 1, by omega⟩
    have hr := ih k (i + 1) (by omega) (by omega)
    rw [sum_take h l i (by omega)] at hr
    obtain ⟨b0, b1⟩ := rd_isB hl i (by omega)
    simp only [check_More.l0]
    rw [if_pos (by omega), if_pos (by omega), if_pos (by omega), wrap_in _ (by omega) (by omega), step_go _ (sum_lt h hh _) _ b0 b1]
    exact hr
theorem more_f (h : Nat) (hh : h < 18446744073709551616) (l : List Int) (hl : isB l) (hn : l.length ≤ 140737488355320) : Ev (fun k => check_More.f k (h : Int) l) ((sum h l : Nat) : Int) := by
  refine Ev.of (check_More.mono _ _) (k := l.length + 1) ?_
  unfold check_More.f
  exact more_l0 h hh l hl hn l.length _ 0 (by omega) (by omega)
theorem of_f (l : List Int) (hl : isB l) (hn : l.length ≤ 140737488355320) : Ev (fun k => check_Of.f k l) ((sum first l : Nat) : Int) := by
  unfold check_Of.f
  exact Ev.bind (more_f first (by decide) l hl hn) (Ev.now _)

theorem rmore_l0 (h : Nat) (hh : h < 18446744073709551616) (l : List Int) (hl : isB l) (hn : l.length ≤ 140737488355320) (d : Nat) : ∀ (k i : Nat), i + d = l.length → d < k →
    waywiserref02_More.l0 k ((sum h (l.take i) : Nat) : Int) l (i : Int) = some ((sum h l : Nat) : Int) := by
  induction d with
  | zero =>
    intro k i hi hk
    obtain ⟨k, rfl⟩ : ∃ m, k = m + 1 := ⟨k - 1, by omega⟩
    obtain rfl : i = l.length := by omega
    simp only [waywiserref02_More.l0]; rw [if_neg (by omega), List.take_length]
  | succ d ih =>
    intro k i hi hk
    obtain ⟨k, rfl⟩ : ∃ m, k = m + 1 := ⟨k - 1, by omega⟩
    have hr := ih k (i + 1) (by omega) (by omega)
    rw [sum_take h l i (by omega)] at hr
    obtain ⟨b0, b1⟩ := rd_isB hl i (by omega)
    have e : IntKind.u64.wrap (Go.bits .xor .u8 ((((sum h (l.take i) : Nat) : Int)) % 256) (rd l (i : Int))) = IntKind.u64.wrap (Go.bits .xor .u8 ((((sum h (l.take i) : Nat) : Int)) % 256) (rd l (i : Int))) := rfl
    simp only [waywiserref02_More.l0]
    rw [if_pos (by omega), if_pos (by omega), wrap_in _ (by omega) (by omega), step_ref _ (sum_lt h hh _) _ b0 b1]
    exact hr
theorem rmore_f (h : Nat) (hh : h < 18446744073709551616) (l : List Int) (hl : isB l) (hn : l.length ≤ 140737488355320) : Ev (fun k => waywiserref02_More.f k (h : Int) l) ((sum h l : Nat) : Int) := by
  refine Ev.of (waywiserref02_More.mono _ _) (k := l.length + 1) ?_
  unfold waywiserref02_More.f
  exact rmore_l0 h hh l hl hn l.length _ 0 (by omega) (by omega)
theorem rof_f (l : List Int) (hl : isB l) (hn : l.length ≤ 140737488355320) : Ev (fun k => waywiserref02_Of.f k l) ((sum first l : Nat) : Int) := by
  unfold waywiserref02_Of.f
  exact Ev.bind (rmore_f first (by decide) l hl hn) (Ev.now _)

theorem seal_l0 (d : Nat) : ∀ (k i : Nat) (pre : List Int) (h : Nat), i + d = 8 → d < k → pre.length + d ≤ 140737488355328 →
    check_Seal.l0 k pre (h : Int) (i : Int) = some (pre ++ by8 d h) := by
  induction d with
  | zero =>
    intro k i pre h hi hk hp
    obtain ⟨k, rfl⟩ : ∃ m, k = m + 1 := ⟨k - 1, by omega⟩
    simp only [check_Seal.l0]; rw [if_neg (by omega)]; simp [by8]
  | succ d ih =>
    intro k i pre h hi hk hp
    obtain ⟨k, rfl⟩ : ∃ m, k = m + 1 := ⟨k - 1, by omega⟩
    have hr := ih k (i + 1) (pre ++ [((h % 256 : Nat) : Int)]) (h / 256) (by omega) (by omega) (by simp; omega)
    simp only [check_Seal.l0]
    rw [if_pos (by omega), if_pos (by omega), wrap_in _ (by omega) (by omega)]
    rw [show ((h : Int) % 256) = ((h % 256 : Nat) : Int) from by omega, show ((h : Int) / 256) = ((h / 256 : Nat) : Int) from by omega]
    rw [List.append_assoc] at hr
    exact hr
theorem seal_f (l : List Int) (hl : isB l) (hn : l.length ≤ 140737488355320) : Ev (fun k => check_Seal.f k l) (sealed l) := by
  unfold check_Seal.f
  refine ev_if (by simp only [List.length_nil]; omega) (Ev.bind (of_f l hl hn) ?_)
  refine Ev.of (fun k => check_Seal.mono_l k _ _ _) (k := 9) ?_
  exact seal_l0 8 9 0 l _ (by omega) (by omega) (by omega)
theorem rseal_l0 (d : Nat) : ∀ (k i : Nat) (pre : List Int) (h : Nat), h < 18446744073709551616 → i + d = 8 → d < k → pre.length + d ≤ 140737488355328 →
    waywiserref02_Seal.l0 k pre (h : Int) (i : Int) = some (pre ++ by8 d h) := by
  induction d with
  | zero =>
    intro k i pre h hh hi hk hp
    obtain ⟨k, rfl⟩ : ∃ m, k = m + 1 := ⟨k - 1, by omega⟩
    simp only [waywiserref02_Seal.l0]; rw [if_neg (by omega)]; simp [by8]
  | succ d ih =>
    intro k i pre h hh hi hk hp
    obtain ⟨k, rfl⟩ : ∃ m, k = m + 1 := ⟨k - 1, by omega⟩
    have hr := ih k (i + 1) (pre ++ [((h % 256 : Nat) : Int)]) (h / 256) (by omega) (by omega) (by omega) (by simp; omega)
    simp only [waywiserref02_Seal.l0]
    rw [if_pos (by omega), if_pos (by omega), wrap_in _ (by omega) (by omega)]
    rw [show (Int.tmod (h : Int) 256) % 256 = ((h % 256 : Nat) : Int) from by rw [Int.tmod_eq_emod_of_nonneg (by omega)]; omega]
    rw [show IntKind.u64.wrap (Int.tdiv (h : Int) 256) = ((h / 256 : Nat) : Int) from by rw [IntKind.wrap_u64, Int.tdiv_eq_ediv_of_nonneg (by omega)]; omega]
    rw [List.append_assoc] at hr
    exact hr
theorem rseal_f (l : List Int) (hl : isB l) (hn : l.length ≤ 140737488355320) : Ev (fun k => waywiserref02_Seal.f k l) (sealed l) := by
  unfold waywiserref02_Seal.f
  refine ev_if (by simp only [List.length_nil]; omega) (Ev.bind (rof_f l hl hn) ?_)
  refine Ev.of (fun k => waywiserref02_Seal.mono_l k _ _ _) (k := 9) ?_
  exact rseal_l0 8 9 0 l _ (sum_lt _ (by decide) _) (by omega) (by omega) (by omega)

theorem same_l0 (l m : List Int) (hlen : l.length = m.length) (hn : l.length ≤ 140737488355328) (d : Nat) : ∀ (k i : Nat), i + d = l.length → l.take i = m.take i → d < k → waywiserref02_Same.l0 k l m (i : Int) = some (decide (l = m)) := by
  have get (x : List Int) (i : Nat) (hi : i < x.length) : rd x (i : Int) = x[i] := by
    unfold rd
    rw [Int.toNat_natCast, List.getD_eq_getElem?_getD, List.getElem?_eq_getElem hi, Option.getD_some]
  induction d with
  | zero =>
    intro k i hi ht hk
    obtain ⟨k, rfl⟩ : ∃ m, k = m + 1 := ⟨k - 1, by omega⟩
    simp only [waywiserref02_Same.l0]; rw [if_neg (by omega)]
    rw [List.take_of_length_le (by omega), List.take_of_length_le (by omega)] at ht
    rw [decide_eq_true ht]
  | succ d ih =>
    intro k i hi ht hk
    obtain ⟨k, rfl⟩ : ∃ m, k = m + 1 := ⟨k - 1, by omega⟩
    simp only [waywiserref02_Same.l0]
    rw [if_pos (by omega), if_pos (by omega), if_pos (by omega), get l i (by omega), get m i (by omega), wrap_in _ (by omega) (by omega)]
    by_cases h : l[i] = m[i]
    · rw [if_pos h]
      refine ih k (i + 1) (by omega) ?_ (by omega)
      rw [List.take_succ_eq_append_getElem (by omega), List.take_succ_eq_append_getElem (by omega), ht, h]
    · rw [if_neg h, decide_eq_false]
      intro e
      subst e
      exact h rfl
theorem same_f (l m : List Int) (hn : l.length ≤ 140737488355328) : Ev (fun k => waywiserref02_Same.f k l m) (decide (l = m)) := by
  refine Ev.of (waywiserref02_Same.mono l m) (k := l.length + 1) ?_
  unfold waywiserref02_Same.f
  by_cases h : l.length = m.length
  · rw [if_pos (by omega)]
    exact same_l0 l m h hn l.length _ 0 (by omega) rfl (by omega)
  · rw [if_neg (by omega), decide_eq_false]
    intro e
    exact h (by rw [e])

theorem open_f (l : List Int) (hl : isB l) (hn : l.length ≤ 140737488355328) : Ev (fun k => check_Open.f k l) (opened l) := by
  unfold check_Open.f opened
  rw [wrap_in _ (by omega) (by omega)]
  by_cases h : l.length < 8
  · rw [if_pos h]
    exact ev_if (by omega) (Ev.now _)
  · rw [if_neg h]
    refine ev_else (by omega) (ev_if (by omega) (ev_if (by omega) ?_))
    rw [show ((l.length : Int) - 8).toNat = l.length - 8 from by omega]
    have ht : (l.take (l.length - 8)).length ≤ 140737488355320 := by rw [List.length_take]; omega
    refine Ev.bind (seal_f _ (isB_take hl _) ht) ?_
    by_cases e : sealed (l.take (l.length - 8)) = l
    · rw [if_pos e]
      refine ev_if ((str_inj (sealed_isB (isB_take hl _)) hl).2 e) (ev_if (by simp only [List.length_nil]; omega) (Ev.now _))
    · rw [if_neg e]
      exact ev_else (fun x => e ((str_inj (sealed_isB (isB_take hl _)) hl).1 x)) (Ev.now _)
theorem ropen_f (l : List Int) (hl : isB l) (hn : l.length ≤ 140737488355328) : Ev (fun k => waywiserref02_Open.f k l) (opened l) := by
  unfold waywiserref02_Open.f opened
  rw [wrap_in _ (by omega) (by omega)]
  by_cases h : l.length < 8
  · rw [if_pos h]
    exact ev_if (by omega) (Ev.now _)
  · rw [if_neg h]
    refine ev_else (by omega) (ev_if (by omega) (ev_if (by omega) ?_))
    rw [show ((l.length : Int) - 8).toNat = l.length - 8 from by omega]
    have ht : (l.take (l.length - 8)).length ≤ 140737488355320 := by rw [List.length_take]; omega
    refine Ev.bind (rseal_f _ (isB_take hl _) ht) (Ev.bind (same_f _ _ (by rw [sealed_length]; omega)) ?_)
    by_cases e : sealed (l.take (l.length - 8)) = l
    · rw [if_pos e]
      exact ev_if (decide_eq_true e) (Ev.now _)
    · rw [if_neg e]
      exact ev_else (by simp [e]) (Ev.now _)
theorem lives_f : Ev (fun k => waywiserlaw02_lives.f k) true := by
  have b1 : isB [] := fun x hx => by simp at hx
  have b2 : isB [97] := fun x hx => by simp at hx; subst hx; decide
  unfold waywiserlaw02_lives.f
  refine Ev.bind (of_f [] b1 (by simp)) (ev_if (by decide +kernel) (Ev.bind (of_f [97] b2 (by simp)) (ev_if (by decide +kernel) (Ev.bind (seal_f [] b1 (by simp)) ?_))))
  exact Ev.now _
end Go.Proofs.Ytlikohaeiehocaa.PCheck
