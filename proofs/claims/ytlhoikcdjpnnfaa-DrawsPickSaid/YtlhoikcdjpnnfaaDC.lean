/- What draws.New and the laws' lives answer, and what a nil source answers; no condition but that a list is shorter than 2^44. -/
import Derived.Test.YtlhoikcdjpnnfaaDB
namespace Go.Proofs.Ytlhoikcdjpnnfaa.PDraws
open Go.RowKit Go.Proofs.YtlhoikcdjpnnfaaW.PrintWords Go.Proofs.YtlhoikcdjpnnfaaW.PrintLast Go.Proofs.YtlhoikcdjpnnfaaW.PrintMore
set_option linter.unusedVariables false
set_option linter.unusedSimpArgs false
attribute [local go_sem] max2_int min2_int max_two min_two max_three min_three max_four min_four

theorem clone_some (l0 : List Int) (hn : l0.length < 17592186044416) : slices_Clone_int_int.f l0 = some l0 := by
  unfold slices_Clone_int_int.f
  simp only [Option.bind_some, List.length_nil, Nat.zero_add, List.nil_append]
  rw [if_pos hn]
set_option maxHeartbeats 8000000 in
set_option maxRecDepth 100000 in
/-- draws.New: its state leads to a copy that was made just ahead of it. -/
theorem new_calls (A0 : Option Addr) (c0 : Nat) (l0 : List Int) (w : World) (hr0 : Kd.C (Kd.int .i64) w A0 l0.length l0) (hc0 : l0.length ≤ c0) (hn : l0.length < 17592186044416) :
    Calls Try.prog 8 #[.slice A0 l0.length c0] w fun e w' => ∃ (g : Nat) (w1 : World), e = .returned (.pointer (some ⟨g, 0, none⟩)) ∧ Below w.heap.size w w1 ∧ IsS56 w1 w' g l0 0 ∧ Below w1.heap.size w1 w' := by
  have hu56 := Try.underlying56
  have HR0 := Aside0.mk hr0
  have HC0 := Aside0.mk hc0
  have HN := Aside0.mk (clone_some l0 hn)
  clear hr0 hc0 hn
  go_enter Try.func8, Try.ntmps8
  go_wp2_with ((go_at_call 29; (with_reducible refine (slices_Clone_int_int.calls A0 c0 l0 l0 _ HR0.out HC0.out HN.out).mono ?_); rintro e w1 ⟨v, rfl, ho, hb⟩; obtain ⟨Ao, co, eo⟩ := Kd.R_slice ho; subst eo; have HO := Aside0.mk (Kd.R_reads' ho).2.2; have HB := Aside0.mk hb; clear ho hb))
  go_ret
  exact ⟨_, w1, rfl, HB.out, IsS56.new w1 w1 Ao co l0 0 (Below.refl _ _) HO.out, below_alloc (Below.refl _ _) _⟩
theorem pick_nil (n : Int) (w : World) : Calls Try.prog 11 #[.pointer none, .int .i64 n] w fun e w' => e = .returned (.int .i64 0) ∧ w = w' := by
  go_enter Try.func11, Try.ntmps11
  go_wp2
  go_ret
  exact ⟨rfl, rfl⟩
theorem used_nil (w : World) : Calls Try.prog 12 #[.pointer none] w fun e w' => e = .returned (.int .i64 0) ∧ w = w' := by
  go_enter Try.func12, Try.ntmps12
  go_wp2
  go_ret
  exact ⟨rfl, rfl⟩
theorem two_reads (w : World) : Kd.C (Kd.int .i64) (w.alloc (.cells #[.int .i64 7, .int .i64 (-1)] 3)) (some ⟨w.heap.size, 0, none⟩) [7, -1].length [7, -1] := by
  refine Kd.C_of_reads (d := (0 : Int)) (h1 := fun _ => rfl) ⟨rfl, by simp, fun _ => ⟨_, rfl, fun j hj => ?_⟩⟩
  have e := heap_alloc_new w (.cells #[.int .i64 7, .int .i64 (-1)] 3)
  have hj2 : j < 2 := hj
  rcases (by omega : j = 0 ∨ j = 1) with rfl | rfl
  · exact (blk_cell e 0).trans rfl
  · exact (blk_cell e 1).trans rfl
theorem two_new (w : World) : Calls Try.prog 8 #[.slice (some ⟨w.heap.size, 0, none⟩) 2 2] (w.alloc (.cells #[.int .i64 7, .int .i64 (-1)] 3)) fun e w' => ∃ (g : Nat) (w1 : World), e = .returned (.pointer (some ⟨g, 0, none⟩)) ∧ Below (w.alloc (.cells #[.int .i64 7, .int .i64 (-1)] 3)).heap.size (w.alloc (.cells #[.int .i64 7, .int .i64 (-1)] 3)) w1 ∧ IsS56 w1 w' g [7, -1] 0 ∧ Below w1.heap.size w1 w' :=
  new_calls _ 2 [7, -1] _ (two_reads w) (by decide) (by decide)
set_option maxHeartbeats 8000000 in
set_option maxRecDepth 100000 in
theorem lives_calls (w : World) : Calls Try.prog 13 #[] w fun e w' => e = .returned (.bool true) ∧ Below w.heap.size w w' := by
  have P1 : Aside0 (draws_Source_Pick.f [7, -1] 0 3 = some (1, 1)) := ⟨by decide +kernel⟩
  have P2 : Aside0 (draws_Source_Pick.f [7, -1] 1 3 = some (2, 2)) := ⟨by decide +kernel⟩
  have P3 : Aside0 (draws_Source_Pick.f [7, -1] 2 3 = some (1, 3)) := ⟨by decide +kernel⟩
  have P4 : Aside0 (draws_Source_Used.f [7, -1] 3 = some (3, 3)) := ⟨by decide +kernel⟩
  go_enter Try.func13, Try.ntmps13
  go_wp2_with (first | (go_at_call 8; (with_reducible refine (two_new w).mono ?_); rintro e w2 ⟨g, w1, rfl, hb0, hi, hb⟩; have HB0 := Aside0.mk (below_step (below_alloc (Below.refl w.heap.size w) _) hb0); have HI := Aside0.mk hi; have HB := Aside0.mk hb; clear hb0 hi hb; have tok0 : Aside0 True := ⟨trivial⟩)| (go_at_call 11; have tk := tok0; (with_reducible refine (draws_Source_Pick.calls g [7, -1] 0 3 1 1 w1 _ HI.out HB.out P1.out).mono ?_); rintro e w3 ⟨rfl, hi, hb, _⟩; clear HI HB tk tok0; have HI := Aside0.mk hi; have HB := Aside0.mk hb; clear hi hb; have tok1 : Aside0 True := ⟨trivial⟩)| (go_at_call 11; have tk := tok1; (with_reducible refine (draws_Source_Pick.calls g [7, -1] 1 3 2 2 w1 _ HI.out HB.out P2.out).mono ?_); rintro e w4 ⟨rfl, hi, hb, _⟩; clear HI HB tk tok1; have HI := Aside0.mk hi; have HB := Aside0.mk hb; clear hi hb; have tok2 : Aside0 True := ⟨trivial⟩)| (go_at_call 11; have tk := tok2; (with_reducible refine (draws_Source_Pick.calls g [7, -1] 2 3 1 3 w1 _ HI.out HB.out P3.out).mono ?_); rintro e w5 ⟨rfl, hi, hb, _⟩; clear HI HB tk tok2; have HI := Aside0.mk hi; have HB := Aside0.mk hb; clear hi hb)| (go_at_call 12; (with_reducible refine (draws_Source_Used.calls g [7, -1] 3 3 3 w1 _ HI.out HB.out P4.out).mono ?_); rintro e w6 ⟨rfl, hi, hb, _⟩; clear HI HB; have HI := Aside0.mk hi; have HB := Aside0.mk hb; clear hi hb))
  go_ret
  exact ⟨rfl, below_step HB0.out HB.out⟩

end Go.Proofs.Ytlhoikcdjpnnfaa.PDraws
