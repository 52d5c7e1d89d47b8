/- What the order of items by their numbers answers, called directly or as a closure; no condition. -/
import Derived.Test.YtncbnejldlfbdaaJC
namespace Go.Proofs.Ytncbnejldlfbdaa.PIdx
open Go.RowKit Go.Proofs.YtncbnejldlfbdaaW.PrintWords Go.Proofs.YtncbnejldlfbdaaW.PrintLast Go.Proofs.YtncbnejldlfbdaaW.PrintMore
open Go.Proofs.Ytncbnejldlfbdaa.PIndexFresh
set_option linter.unusedVariables false
set_option linter.unusedSimpArgs false
abbrev itval (t : It) : Value := .agg #[.int .u64 t.x.f0, .int .i64 t.x.f1.f0, .slice t.A t.x.f1.f1.length t.c, .string t.x.f1.f2]
def cmpN (a b : Int) : Int := if a < b then -1 else if b < a then 1 else 0
theorem cmpN_neg (a b : Int) : cmpN a b < 0 ↔ a < b := by unfold cmpN; split <;> (try split) <;> omega
set_option maxHeartbeats 1000000 in
theorem nan_calls (a : Int) (w : World) : Calls Try.prog 62 #[.int .u64 a] w fun e w' => e = .returned (.bool false) ∧ w' = w := by
  go_enter Try.func62, Try.ntmps62
  go_wp2
  go_ret
  exact ⟨by simp, rfl⟩
set_option maxHeartbeats 1000000 in
theorem comp_calls (a b : Int) (w : World) : Calls Try.prog 50 #[.int .u64 a, .int .u64 b] w fun e w' => e = .returned (.int .i64 (cmpN a b)) ∧ w' = w := by
  go_enter Try.func50, Try.ntmps50
  unfold cmpN
  by_cases h1 : a < b
  · have d1 : decide (a < b) = true := decide_eq_true h1
    go_wp2_with ((go_at_call 62; (with_reducible refine (nan_calls _ _).mono ?_); rintro e w' ⟨rfl, rfl⟩))
    go_ret
    exact ⟨by simp [h1], rfl⟩
  · have d1 : decide (a < b) = false := decide_eq_false h1
    by_cases h2 : b < a
    · have d2 : decide (b < a) = true := decide_eq_true h2
      go_wp2_with ((go_at_call 62; (with_reducible refine (nan_calls _ _).mono ?_); rintro e w' ⟨rfl, rfl⟩))
      go_ret
      exact ⟨by simp [h1, h2], rfl⟩
    · have d2 : decide (b < a) = false := decide_eq_false h2
      go_wp2_with ((go_at_call 62; (with_reducible refine (nan_calls _ _).mono ?_); rintro e w' ⟨rfl, rfl⟩))
      go_ret
      exact ⟨by simp [h1, h2], rfl⟩
set_option maxHeartbeats 2000000 in
theorem byid_calls (s t : It) (w : World) : Calls Try.prog 49 #[itval s, itval t] w fun e w' => e = .returned (.int .i64 (cmpN (ky s) (ky t))) ∧ Below w.heap.size w w' := by
  have hu65 := Try.underlying65
  obtain ⟨⟨i, ⟨k, l, b⟩⟩, A, c⟩ := s
  obtain ⟨⟨i2, ⟨k2, l2, b2⟩⟩, A2, c2⟩ := t
  unfold itval ky
  simp only
  go_enter Try.func49, Try.ntmps49
  go_wp2_with ((go_at_call 50; (with_reducible refine (comp_calls _ _ _).mono ?_); rintro e w' ⟨rfl, rfl⟩))
  go_ret
  exact ⟨rfl, below_alloc (below_alloc (Below.refl _ _) _) _⟩
end Go.Proofs.Ytncbnejldlfbdaa.PIdx
