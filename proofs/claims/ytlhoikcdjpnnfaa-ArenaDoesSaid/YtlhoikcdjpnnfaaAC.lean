/- What Get, Slots, gaps, Len and Set of an arena answer and leave, and what a nil arena answers; no condition but that slots are fewer than 2^62. -/
import Derived.Test.YtlhoikcdjpnnfaaAB
namespace Go.Proofs.Ytlhoikcdjpnnfaa.PArena
open Go.RowKit Go.Proofs.YtlhoikcdjpnnfaaW.PrintWords Go.Proofs.YtlhoikcdjpnnfaaW.PrintLast Go.Proofs.YtlhoikcdjpnnfaaW.PrintMore
set_option linter.unusedVariables false
set_option linter.unusedSimpArgs false
theorem set_same {α : Type} {l : List α} {i : Nat} {v : α} (h : l[i]? = some v) : l.set i v = l := by
  obtain ⟨hi, rfl⟩ := List.getElem?_eq_some_iff.1 h
  exact List.set_getElem_self hi
theorem hasB_yes {sl : List Slot} {i : Int} (h : hasB sl i = true) : ∃ (n : Nat) (x : Int), i = (n : Int) ∧ sl[n]? = some (true, x) := by
  unfold hasB at h
  rw [Bool.and_eq_true, decide_eq_true_iff] at h
  obtain ⟨h0, h1⟩ := h
  refine ⟨i.toNat, ?_⟩
  cases hp : sl[i.toNat]? with
  | none => rw [hp] at h1; simp at h1
  | some p =>
    rw [hp] at h1
    simp only [Option.map_some, Option.getD_some] at h1
    exact ⟨p.2, by omega, by rw [← h1]⟩
def getB (sl : List Slot) (i : Int) : Int × Bool := if hasB sl i = true then (((sl[i.toNat]?).map (·.2)).getD 0, true) else (0, false)
def setB (sl : List Slot) (i x : Int) : List Slot := if hasB sl i = true then sl.set i.toNat (true, x) else sl
set_option maxHeartbeats 4000000 in
theorem get_calls (g base : Nat) (sl : List Slot) (fr : List Int) (i : Int) (w : World) (h : Ar w base g sl fr) :
    Calls Try.prog 19 #[.pointer (some ⟨g, 0, none⟩), .int .i64 i] w fun e w' => e = .returned (.tuple #[.int .i64 (getB sl i).1, .bool (getB sl i).2]) ∧ w = w' := by
  have HA := Aside0.mk h
  have hc := fun (W : World) (hW : Ar W base g sl fr) => has_calls g base sl fr i W hW
  obtain ⟨vL, vF, hg, hbase, hL, hF⟩ := h
  have hc0 : w.cell? ⟨g, 0, none⟩ = some vL := blk_cell hg 0
  cases hb : hasB sl i with
  | true =>
    obtain ⟨n, x, rfl, hp⟩ := hasB_yes hb
    have h2 : n < sl.length := by
      have := (List.getElem?_eq_some_iff.1 hp).1
      exact this
    obtain ⟨gL, cap, cur, rfl, hbL, hgL, hcell, hfr⟩ := hL.at_ (by omega)
    have hx : w.cell? ⟨gL, n * 2 + 1, none⟩ = some (.int .i64 x) := (hcell _ (by omega)).trans (cells2_at sl n _ hp).2
    have hr : Aside0 (getB sl (n : Int) = (x, true)) := ⟨by simp [getB, hb, hp]⟩
    have HB := Aside0.mk hb
    have HC := Aside0.mk hc
    clear hcell hg hgL hL hF hp hfr hbL hb hc
    rw [hr.out]
    clear hr
    go_enter Try.func19, Try.ntmps19
    go_wp2_with ((go_at_call 30; (with_reducible refine (HC.out _ HA.out).mono ?_); rintro e w' ⟨rfl, rfl⟩; rw [HB.out]))
    go_ret2
    exact ⟨rfl, rfl⟩
  | false =>
    have hr : Aside0 (getB sl i = (0, false)) := ⟨by simp [getB, hb]⟩
    have HB := Aside0.mk hb
    have HC := Aside0.mk hc
    clear hg hL hF hb hc
    rw [hr.out]
    clear hr
    go_enter Try.func19, Try.ntmps19
    go_wp2_with ((go_at_call 30; (with_reducible refine (HC.out _ HA.out).mono ?_); rintro e w' ⟨rfl, rfl⟩; rw [HB.out]))
    go_ret2
    exact ⟨rfl, rfl⟩
theorem slots_calls (g base : Nat) (sl : List Slot) (fr : List Int) (w : World) (h : Ar w base g sl fr) :
    Calls Try.prog 26 #[.pointer (some ⟨g, 0, none⟩)] w fun e w' => e = .returned (.int .i64 (sl.length : Int)) ∧ w = w' := by
  obtain ⟨vL, vF, hg, hbase, hL, hF⟩ := h
  have hc0 : w.cell? ⟨g, 0, none⟩ = some vL := blk_cell hg 0
  obtain ⟨A, c, rfl, hnc⟩ := hL.form
  clear hg hL hF
  go_enter Try.func26, Try.ntmps26
  go_wp2
  go_ret
  exact ⟨rfl, rfl⟩
theorem gaps_calls (g base : Nat) (sl : List Slot) (fr : List Int) (w : World) (h : Ar w base g sl fr) :
    Calls Try.prog 31 #[.pointer (some ⟨g, 0, none⟩)] w fun e w' => ∃ A c, e = .returned (.slice A fr.length c) ∧ w = w' := by
  obtain ⟨vL, vF, hg, hbase, hL, hF⟩ := h
  have hc0 : w.cell? ⟨g, 1, none⟩ = some vF := blk_cell hg 1
  obtain ⟨A, c, rfl, hnc⟩ := hF.form
  clear hg hL hF
  go_enter Try.func31, Try.ntmps31
  go_wp2
  go_ret
  exact ⟨_, _, rfl, rfl⟩
theorem len_calls (g base : Nat) (sl : List Slot) (fr : List Int) (w : World) (h : Ar w base g sl fr) (hs : sl.length ≤ 4611686018427387904) (hf : fr.length ≤ 4611686018427387904) :
    Calls Try.prog 25 #[.pointer (some ⟨g, 0, none⟩)] w fun e w' => e = .returned (.int .i64 ((sl.length : Int) - (fr.length : Int))) ∧ w = w' := by
  have HA := Aside0.mk h
  clear h
  go_enter Try.func25, Try.ntmps25
  go_wp2_with (first | (go_at_call 26; (with_reducible refine (slots_calls g base sl fr _ HA.out).mono ?_); rintro e w' ⟨rfl, rfl⟩) | (go_at_call 31; (with_reducible refine (gaps_calls g base sl fr _ HA.out).mono ?_); rintro e w' ⟨A, c, rfl, rfl⟩))
  go_ret
  exact ⟨rfl, rfl⟩
set_option maxHeartbeats 4000000 in
theorem set_calls (g base : Nat) (sl : List Slot) (fr : List Int) (i x : Int) (w0 w : World) (h : Ar w base g sl fr) (hB : Below base w0 w) :
    Calls Try.prog 18 #[.pointer (some ⟨g, 0, none⟩), .int .i64 i, .int .i64 x] w fun e w' => e = .returned (.bool (hasB sl i)) ∧ Ar w' base g (setB sl i x) fr ∧ Below base w0 w' := by
  have HA := Aside0.mk h
  have HB0 := Aside0.mk hB
  have HC := Aside0.mk (fun (W : World) (hW : Ar W base g sl fr) => has_calls g base sl fr i W hW)
  obtain ⟨vL, vF, hg, hbase, hL, hF⟩ := h
  have hc0 : w.cell? ⟨g, 0, none⟩ = some vL := blk_cell hg 0
  cases hb : hasB sl i with
  | true =>
    obtain ⟨n, y, rfl, hp⟩ := hasB_yes hb
    have h2 : n < sl.length := (List.getElem?_eq_some_iff.1 hp).1
    obtain ⟨gL, cap, cur, rfl, hbL, hgL, hcell, hfr⟩ := hL.at_ (by omega)
    have hx : w.cell? ⟨gL, n * 2 + 1, none⟩ = some (.int .i64 y) := (hcell _ (by omega)).trans (cells2_at sl n _ hp).2
    have hz : w.frozen? ⟨gL, n * 2 + 1, none⟩ = false := hfr _
    -- what the store leaves
    have HA' : Aside0 (Ar (w.setCell ⟨gL, n * 2 + 1, none⟩ (.int .i64 x)) base g (setB sl (n : Int) x) fr) := by
      refine ⟨_, vF, blk_far hg (blk_ne hg hgL (by decide)) _, hbase, ?_, hF.far (fun k hk => hF.ne hgL (by decide) k hk) _⟩
      have e1 : setB sl (n : Int) x = sl.set n (true, x) := by simp [setB, hb]
      have e2 : cells2 (sl.set n (true, x)) = (cells2 sl).set (n * 2 + 1) (.int .i64 x) := by
        rw [cells2_set, set_same (cells2_at sl n _ hp).1]
      rw [e1, e2, List.length_set]
      exact hL.put _ _
    have HB' : Aside0 (Below base w0 (w.setCell ⟨gL, n * 2 + 1, none⟩ (.int .i64 x))) := ⟨hB.setCell hbL _⟩
    have HB := Aside0.mk hb
    clear hcell hg hgL hL hF hp hfr hbL hb hB
    go_enter Try.func18, Try.ntmps18
    go_wp2_with ((go_at_call 30; (with_reducible refine (HC.out _ HA.out).mono ?_); rintro e w' ⟨rfl, rfl⟩; rw [HB.out]))
    go_ret
    exact ⟨rfl, HA'.out, HB'.out⟩
  | false =>
    have hr : Aside0 (setB sl i x = sl) := ⟨by simp [setB, hb]⟩
    have HB := Aside0.mk hb
    clear hg hL hF hb hB
    rw [hr.out]
    clear hr
    go_enter Try.func18, Try.ntmps18
    go_wp2_with ((go_at_call 30; (with_reducible refine (HC.out _ HA.out).mono ?_); rintro e w' ⟨rfl, rfl⟩; rw [HB.out]))
    go_ret
    exact ⟨rfl, HA.out, HB0.out⟩
/-! a nil arena -/
theorem has_nil (i : Int) (w : World) : Calls Try.prog 30 #[.pointer none, .int .i64 i] w fun e w' => e = .returned (.bool false) ∧ w = w' := by
  go_enter Try.func30, Try.ntmps30
  go_wp2
  go_ret
  exact ⟨rfl, rfl⟩
theorem put_nil (x : Int) (w : World) : Calls Try.prog 16 #[.pointer none, .int .i64 x] w fun e w' => e = .returned (.int .i64 (-1)) ∧ w = w' := by
  go_enter Try.func16, Try.ntmps16
  go_wp2
  go_ret
  exact ⟨rfl, rfl⟩
theorem get_nil (i : Int) (w : World) : Calls Try.prog 19 #[.pointer none, .int .i64 i] w fun e w' => e = .returned (.tuple #[.int .i64 0, .bool false]) ∧ w = w' := by
  go_enter Try.func19, Try.ntmps19
  go_wp2_with ((go_at_call 30; (with_reducible refine (has_nil _ _).mono ?_); rintro e w' ⟨rfl, rfl⟩))
  go_ret2
  exact ⟨rfl, rfl⟩
theorem set_nil (i x : Int) (w : World) : Calls Try.prog 18 #[.pointer none, .int .i64 i, .int .i64 x] w fun e w' => e = .returned (.bool false) ∧ w = w' := by
  go_enter Try.func18, Try.ntmps18
  go_wp2_with ((go_at_call 30; (with_reducible refine (has_nil _ _).mono ?_); rintro e w' ⟨rfl, rfl⟩))
  go_ret
  exact ⟨rfl, rfl⟩
theorem cut_nil (i : Int) (w : World) : Calls Try.prog 17 #[.pointer none, .int .i64 i] w fun e w' => e = .returned (.bool false) ∧ w = w' := by
  go_enter Try.func17, Try.ntmps17
  go_wp2_with ((go_at_call 30; (with_reducible refine (has_nil _ _).mono ?_); rintro e w' ⟨rfl, rfl⟩))
  go_ret
  exact ⟨rfl, rfl⟩
theorem slots_nil (w : World) : Calls Try.prog 26 #[.pointer none] w fun e w' => e = .returned (.int .i64 0) ∧ w = w' := by
  go_enter Try.func26, Try.ntmps26
  go_wp2
  go_ret
  exact ⟨rfl, rfl⟩
theorem gaps_nil (w : World) : Calls Try.prog 31 #[.pointer none] w fun e w' => e = .returned (.slice none 0 0) ∧ w = w' := by
  go_enter Try.func31, Try.ntmps31
  go_wp2
  go_ret
  exact ⟨rfl, rfl⟩
theorem len_nil (w : World) : Calls Try.prog 25 #[.pointer none] w fun e w' => e = .returned (.int .i64 0) ∧ w = w' := by
  go_enter Try.func25, Try.ntmps25
  go_wp2_with (first | (go_at_call 26; (with_reducible refine (slots_nil _).mono ?_); rintro e w' ⟨rfl, rfl⟩) | (go_at_call 31; (with_reducible refine (gaps_nil _).mono ?_); rintro e w' ⟨rfl, rfl⟩))
  go_ret
  exact ⟨rfl, rfl⟩
theorem used_nil (w : World) : Calls Try.prog 28 #[.pointer none] w fun e w' => e = .returned (.slice none 0 0) ∧ w = w' := by
  go_enter Try.func28, Try.ntmps28
  go_wp2_with ((go_at_call 26; (with_reducible refine (slots_nil _).mono ?_); rintro e w' ⟨rfl, rfl⟩))
  refine wp_loop_rounds 1 ?_
  rw [rounds_succ]
  go_wp2
  go_ret
  exact ⟨rfl, rfl⟩
/-! a new one -/
theorem new_calls (w : World) : Calls Try.prog 15 #[] w fun e w' => ∃ g, e = .returned (.pointer (some ⟨g, 0, none⟩)) ∧ Ar w' w.heap.size g [] [] ∧ Below w.heap.size w w' := by
  have hu59 := Try.underlying59
  have hb := below_alloc (Below.refl w.heap.size w) (.cells #[.slice none 0 0, .slice none 0 0] 59)
  have HN : Aside0 (Ar (w.alloc (.cells #[.slice none 0 0, .slice none 0 0] 59)) w.heap.size w.heap.size [] []) := ⟨_, _, heap_alloc_new w _, Nat.le_refl _, Row.nil _ _ _ _, Row.nil _ _ _ _⟩
  have HB := Aside0.mk hb
  clear hb
  go_enter Try.func15, Try.ntmps15
  go_wp2
  go_ret
  exact ⟨_, rfl, HN.out, HB.out⟩
end Go.Proofs.Ytlhoikcdjpnnfaa.PArena
