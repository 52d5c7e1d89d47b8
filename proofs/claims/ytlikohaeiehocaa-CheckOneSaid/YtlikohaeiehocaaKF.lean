/- What the reference's Open answers; no condition. -/
import Derived.Test.YtlikohaeiehocaaKC
namespace Go.Proofs.Ytlikohaeiehocaa.PCheck
open Go.RowKit Go.Proofs.YtlikohaeiehocaaW.PrintWords Go.Proofs.YtlikohaeiehocaaW.PrintLast Go.Proofs.YtlikohaeiehocaaW.PrintMore
set_option linter.unusedVariables false
set_option linter.unusedSimpArgs false
attribute [local go_sem] max2_int min2_int max_two min_two max_three min_three max_four min_four
/-! ### waywiserref02_Open: function 7 -/
def waywiserref02_Open.f (k : Nat) (l0 : List Int) : Option (List Int × Bool) := if (l0.length : Int) < 8 then (some (([] : List Int), false)) else (if 0 ≤ (wrap64 ((l0.length : Int) - 8)) then (if (wrap64 ((l0.length : Int) - 8)) ≤ (l0.length : Int) then ((waywiserref02_Seal.f k (l0.take ((wrap64 ((l0.length : Int) - 8)) : Int).toNat)).bind fun t133 => ((waywiserref02_Same.f k t133 l0).bind fun t136 => (if t136 = true then (some ((l0.take ((wrap64 ((l0.length : Int) - 8)) : Int).toNat), true)) else (some (([] : List Int), false))))) else (none)) else (none))
theorem waywiserref02_Open.mono : ∀ a0 k, LeO (waywiserref02_Open.f k a0) (waywiserref02_Open.f (k + 1) a0) := by
  intro a0 k
  unfold waywiserref02_Open.f
  repeat' first
      | (with_reducible exact waywiserref02_Same.mono _ _ _)
      | (with_reducible exact waywiserref02_Seal.mono _ _)
      | (with_reducible exact LeO.refl _)
      | (with_reducible exact LeO.none _)
      | (with_reducible refine LeO.ite ?_ ?_)
      | (with_reducible refine LeO.bind ?_ (fun _ => ?_))
      | exact waywiserref02_Same.mono _ _ _
      | exact waywiserref02_Seal.mono _ _
      | exact LeO.none _
      | refine LeO.ite ?_ ?_
      | refine LeO.bind ?_ (fun _ => ?_)

/-! ### the reference's Open, over a slice that is read -/
set_option maxHeartbeats 8000000 in
set_option maxRecDepth 100000 in
theorem ref_open (k : Nat) (A0 : Option Addr) (c0 : Nat) (l0 : List Int) (r1 : List Int) (r2 : Bool) (w : World) (hr0 : Kd.C (Kd.int .u8) w A0 l0.length l0) (hc0 : l0.length ≤ c0) (h : waywiserref02_Open.f k l0 = some (r1, r2)) :
    Calls Try.prog 7 #[.slice A0 l0.length c0] w fun e w' => ∃ (A : Option Addr) (c : Nat), e = .returned (.tuple #[.slice A r1.length c, .bool r2]) ∧ Kd.C (Kd.int .u8) w' A r1.length r1 ∧ r1.length ≤ c ∧ Below w.heap.size w w' := by
  have HR0 := Aside0.mk hr0
  have HC0 := Aside0.mk hc0
  clear hr0 hc0
  have HB := Aside0.mk (Below.refl w.heap.size w)
  have H : (if (l0.length : Int) < 8 then (some (([] : List Int), false)) else (if 0 ≤ (wrap64 ((l0.length : Int) - 8)) then (if (wrap64 ((l0.length : Int) - 8)) ≤ (l0.length : Int) then ((waywiserref02_Seal.f k (l0.take ((wrap64 ((l0.length : Int) - 8)) : Int).toNat)).bind fun t133 => ((waywiserref02_Same.f k t133 l0).bind fun t136 => (if t136 = true then (some ((l0.take ((wrap64 ((l0.length : Int) - 8)) : Int).toNat), true)) else (some (([] : List Int), false))))) else (none)) else (none))) = some (r1, r2) := h
  clear h
  by_cases c2 : (l0.length : Int) < 8
  · rw [if_pos c2] at H
    have c2b0 : decide ((l0.length : Int) < 8) = true := decide_eq_true c2
    have c2b1 : decide (l0.length < 8) = true := decide_eq_true (by omega)
    clear c2
    simp only [Option.some.injEq, Prod.mk.injEq] at H
    obtain ⟨rfl, rfl⟩ := H
    go_enter Try.func7, Try.ntmps7
    go_wp2
    go_ret2
    exact ⟨_, _, rfl, ⟨rfl, by simp, fun h => absurd h (Nat.lt_irrefl 0)⟩, Nat.le_refl _, by repeat (first | (with_reducible first | exact HB.out | apply below_alloc | apply pw_below_drewN | apply below_drew1) | exact HB.out)⟩
  · rw [if_neg c2] at H
    have c2b0 : decide ((l0.length : Int) < 8) = false := decide_eq_false c2
    have c2b1 : decide (l0.length < 8) = false := decide_eq_false (by omega)
    clear c2
    obtain ⟨ji4, hji4⟩ : ∃ j_ : Int, (wrap64 ((l0.length : Int) - 8)) = j_ := ⟨_, rfl⟩
    rw [hji4] at H
    have hji4w : (IntKind.i64.wrap ((l0.length : Int) - 8)) = ji4 := (i64_w _).trans hji4
    by_cases c5 : 0 ≤ (ji4)
    · rw [if_pos c5] at H
      have c5b1 : decide (0 ≤ (ji4)) = true := decide_eq_true c5
      clear c5
      by_cases c6 : (ji4) ≤ (l0.length : Int)
      · rw [if_pos c6] at H
        have c6b1 : decide ((ji4) ≤ (l0.length : Int)) = true := decide_eq_true c6
        clear c6
        obtain ⟨y129, hy129⟩ : ∃ y_ : List Int, y_ = (l0.take ((ji4) : Int).toNat) := ⟨_, rfl⟩
        rw [← hy129] at H
        have Ny129 := Aside0.mk hy129
        clear hy129
        replace H := Option.bind_eq_some_iff.mp H
        obtain ⟨t133, A70, H⟩ := H
        have A7 := Aside0.mk A70
        clear A70
        replace H := Option.bind_eq_some_iff.mp H
        obtain ⟨t136, A80, H⟩ := H
        have A8 := Aside0.mk A80
        clear A80
        cases t136 with
        | true =>
          rw [if_pos rfl] at H
          simp only [Option.some.injEq, Prod.mk.injEq] at H
          obtain ⟨rfl, rfl⟩ := H
          obtain ⟨i012, hi012, _, hsz12, _⟩ := info_parts info5
          have hcut12 := cut_to (P := Try.prog) 23 5 .i64 Try.underlying23 hi012 A0 l0.length c0 (ji4) (of_decide_eq_true (by first | (with_reducible assumption) | assumption)) (of_decide_eq_true (by first | (with_reducible assumption) | assumption)) HC0.out
          have hy12 : y129.length = ((ji4) : Int).toNat := (by rw [Ny129.out, List.length_take]; have h_ : ((ji4) : Int) ≤ (l0.length : Int) := of_decide_eq_true (by first | (with_reducible assumption) | assumption); omega)
          have hr12 := Kd.C_take (m := ((ji4) : Int).toNat) HR0.out (by have h_ : ((ji4) : Int) ≤ (l0.length : Int) := of_decide_eq_true (by first | (with_reducible assumption) | assumption); omega)
          rw [← Ny129.out] at hr12
          rw [← hy12] at hcut12
          have HR132 := Aside0.mk hr12
          have HC132 := Aside0.mk (show y129.length ≤ c0 from by have := HC0.out; have h_ : ((ji4) : Int) ≤ (l0.length : Int) := of_decide_eq_true (by first | (with_reducible assumption) | assumption); omega)
          clear hr12 hy12 hi012 hsz12
          go_enter Try.func7, Try.ntmps7
          go_wp2_with (first
            | (go_at_call 14; (with_reducible refine (waywiserref02_Seal.calls k _ _ y129 t133 _ HR132.out HC132.out A7.out).mono ?_); rintro e w13 ⟨v134, rfl, ho0, hb⟩; obtain ⟨Ao, co, eo⟩ := Kd.R_slice ho0; subst eo; have n0_ := Aside0.mk ho0; have n1_ := Aside0.mk (hb); clear HB; have HS := n0_; have HB := n1_; clear n0_ n1_ ho0 hb)
            | (go_at_call 12; (with_reducible refine (waywiserref02_Same.calls k _ _ t133 _ _ l0 true _ (Kd.R_reads' HS.out).2.2 (Kd.R_reads' HS.out).2.1 (Kd.C_below HR0.out HB.out) HC0.out A8.out).mono ?_); rintro e w' ⟨rfl, ⟨nd, rfl⟩⟩; have n1_ : Aside0 (Below w.heap.size w (w13.drewN nd)) := ⟨by repeat (first | (with_reducible first | exact HB.out | apply below_alloc | apply pw_below_drewN | apply below_drew1) | exact HB.out)⟩; clear HB; have HB := n1_; clear n1_))
          go_ret2
          exact ⟨A0, c0, rfl, Kd.C_below HR132.out HB.out, HC132.out, HB.out⟩
        | false =>
          rw [if_neg (by decide)] at H
          simp only [Option.some.injEq, Prod.mk.injEq] at H
          obtain ⟨rfl, rfl⟩ := H
          obtain ⟨i012, hi012, _, hsz12, _⟩ := info_parts info5
          have hcut12 := cut_to (P := Try.prog) 23 5 .i64 Try.underlying23 hi012 A0 l0.length c0 (ji4) (of_decide_eq_true (by first | (with_reducible assumption) | assumption)) (of_decide_eq_true (by first | (with_reducible assumption) | assumption)) HC0.out
          have hy12 : y129.length = ((ji4) : Int).toNat := (by rw [Ny129.out, List.length_take]; have h_ : ((ji4) : Int) ≤ (l0.length : Int) := of_decide_eq_true (by first | (with_reducible assumption) | assumption); omega)
          have hr12 := Kd.C_take (m := ((ji4) : Int).toNat) HR0.out (by have h_ : ((ji4) : Int) ≤ (l0.length : Int) := of_decide_eq_true (by first | (with_reducible assumption) | assumption); omega)
          rw [← Ny129.out] at hr12
          rw [← hy12] at hcut12
          have HR132 := Aside0.mk hr12
          have HC132 := Aside0.mk (show y129.length ≤ c0 from by have := HC0.out; have h_ : ((ji4) : Int) ≤ (l0.length : Int) := of_decide_eq_true (by first | (with_reducible assumption) | assumption); omega)
          clear hr12 hy12 hi012 hsz12
          go_enter Try.func7, Try.ntmps7
          go_wp2_with (first
            | (go_at_call 14; (with_reducible refine (waywiserref02_Seal.calls k _ _ y129 t133 _ HR132.out HC132.out A7.out).mono ?_); rintro e w13 ⟨v134, rfl, ho0, hb⟩; obtain ⟨Ao, co, eo⟩ := Kd.R_slice ho0; subst eo; have n0_ := Aside0.mk ho0; have n1_ := Aside0.mk (hb); clear HB; have HS := n0_; have HB := n1_; clear n0_ n1_ ho0 hb)
            | (go_at_call 12; (with_reducible refine (waywiserref02_Same.calls k _ _ t133 _ _ l0 false _ (Kd.R_reads' HS.out).2.2 (Kd.R_reads' HS.out).2.1 (Kd.C_below HR0.out HB.out) HC0.out A8.out).mono ?_); rintro e w' ⟨rfl, ⟨nd, rfl⟩⟩; have n1_ : Aside0 (Below w.heap.size w (w13.drewN nd)) := ⟨by repeat (first | (with_reducible first | exact HB.out | apply below_alloc | apply pw_below_drewN | apply below_drew1) | exact HB.out)⟩; clear HB; have HB := n1_; clear n1_))
          go_ret2
          exact ⟨none, 0, rfl, ⟨rfl, by simp, fun h => absurd h (Nat.lt_irrefl 0)⟩, Nat.le_refl _, HB.out⟩
      · rw [if_neg c6] at H
        exact absurd H (by simp)
    · rw [if_neg c5] at H
      exact absurd H (by simp)

end Go.Proofs.Ytlikohaeiehocaa.PCheck
