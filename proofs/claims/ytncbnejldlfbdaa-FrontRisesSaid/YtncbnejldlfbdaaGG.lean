/- What Forward of the reference and may of the law's package tell of a graph; of rows that are no longer than a slice can be. -/
import Derived.Test.YtncbnejldlfbdaaGA
namespace Go.Proofs.Ytncbnejldlfbdaa.PHeap
open Go.RowKit Go.Proofs.YtncbnejldlfbdaaW.PrintWords Go.Proofs.YtncbnejldlfbdaaW.PrintLast Go.Proofs.YtncbnejldlfbdaaW.PrintMore
set_option linter.unusedVariables false
set_option linter.unusedSimpArgs false
def ForwAt (bs : List (List Ent)) (j : Nat) : Prop := ∀ k, k < (gb bs j).length → (gt (gb bs j) k).2.1 < 0 ∨ (j : Int) < (gt (gb bs j) k).2.1
def AllForw (b : Bool) (bs : List (List Ent)) : Prop := b = true → ∀ j, j < bs.length → ForwAt bs j
/-- a call that answers a bool of which P holds, and leaves the world -/
def RetB (P : Bool → Prop) (w : World) (e : Ending) (w' : World) : Prop := ∃ b : Bool, e = .returned (.bool b) ∧ Aside0 (P b) ∧ w = w'
theorem next64 {k : Nat} (h : k < 9223372036854775807) : Value.int .i64 (wrap64 ((k : Int) + 1)) = .int .i64 ((k + 1 : Nat) : Int) := by
  have : wrap64 ((k : Int) + 1) = ((k + 1 : Nat) : Int) := by unfold wrap64; omega
  rw [this]
set_option maxHeartbeats 4000000 in
set_option maxRecDepth 1000000 in
theorem forward_calls (A : Option Addr) (c1 : Nat) (bs : List (List Ent)) (w : World) (h : Behind w A bs) (hl : bs.length ≤ 9223372036854775807) :
    Calls Try.prog 39 #[.slice A bs.length c1] w (RetB (fun b => AllForw b bs) w) := by
  have H := Aside0.mk h
  have HL := Aside0.mk hl
  have hu98 := Try.underlying98
  clear h hl
  go_enter Try.func39, Try.ntmps39
  go_wp2
  go_loop [3] (fun v3 => ∃ i : Nat, v3 = .int .i64 (i : Int) ∧ Aside0 (i ≤ bs.length) ∧ Aside0 (∀ j, j < i → ForwAt bs j)) (fun v3 => bs.length - (intOf v3).toNat)
  case atStart => exact ⟨0, rfl, ⟨Nat.zero_le _⟩, ⟨fun j hj => absurd hj (by omega)⟩⟩
  case round =>
    obtain ⟨i, rfl, HI, HA⟩ := hrel
    by_cases hi : i < bs.length
    · obtain ⟨ad, B, c, rfl, hc, he, hlc, hcm⟩ := H.out i hi
      have HIB : Aside0 (i < 9223372036854775807) := ⟨by have := HL.out; omega⟩
      have d1 : decide (i < bs.length) = true := decide_eq_true hi
      obtain ⟨es, hes⟩ : ∃ es, gb bs i = es := ⟨_, rfl⟩
      rw [hes] at hc he hlc
      have HE := Aside0.mk he
      have HS := Aside0.mk hes
      have HNB : Aside0 (es.length ≤ 9223372036854775807) := ⟨by simp only [maxLen] at hcm; omega⟩
      clear he hes hcm hlc
      go_wp2
      go_loop [4] (fun v4 => ∃ k : Nat, v4 = .int .i64 (k : Int) ∧ Aside0 (k ≤ es.length) ∧ Aside0 (∀ j, j < k → (gt es j).2.1 < 0 ∨ (i : Int) < (gt es j).2.1)) (fun v4 => es.length - (intOf v4).toNat)
      case atStart => exact ⟨0, rfl, ⟨Nat.zero_le _⟩, ⟨fun j hj => absurd hj (by omega)⟩⟩
      case round =>
        obtain ⟨k, rfl, HK, HP⟩ := hrel
        by_cases hk : k < es.length
        · obtain ⟨bd, rfl, x0, x1, x2⟩ := HE.out k hk
          have HKB : Aside0 (k < 9223372036854775807) := ⟨by have := HNB.out; omega⟩
          have d2 : decide (k < es.length) = true := decide_eq_true hk
          rw [add_field _ _ 1 (by omega)] at x1
          clear x0 x2
          obtain ⟨v, hv⟩ : ∃ v, (gt es k).2.1 = v := ⟨_, rfl⟩
          rw [hv] at x1
          have HV := Aside0.mk hv
          clear hv
          by_cases hn : v < 0
          · go_wp2
            go_round
            case rel => exact ⟨k + 1, next64 HKB.out, ⟨by omega⟩, ⟨fun j hj => by
              by_cases e : j = k
              · subst e; rw [HV.out]; exact .inl hn
              · exact HP.out j (by omega)⟩⟩
            case measure => rw [next64 HKB.out]; simp [intOf]; omega
          · by_cases hn2 : v ≤ (i : Int)
            · go_wp2
              go_ret
              exact ⟨false, rfl, ⟨fun h => by cases h⟩, rfl⟩
            · go_wp2
              go_round
              case rel => exact ⟨k + 1, next64 HKB.out, ⟨by omega⟩, ⟨fun j hj => by
                by_cases e : j = k
                · subst e; rw [HV.out]; exact .inr (by omega)
                · exact HP.out j (by omega)⟩⟩
              case measure => rw [next64 HKB.out]; simp [intOf]; omega
        · have hk2 := HK.out
          have d2 : decide (k < es.length) = false := decide_eq_false hk
          have HF : Aside0 (ForwAt bs i) := ⟨fun j hj => by rw [HS.out] at hj ⊢; exact HP.out j (by omega)⟩
          clear hk2
          go_wp2
          go_round
          case rel => exact ⟨i + 1, next64 HIB.out, ⟨by omega⟩, ⟨fun j hj => by
            by_cases e : j = i
            · subst e; exact HF.out
            · exact HA.out j (by omega)⟩⟩
          case measure => rw [next64 HIB.out]; simp [intOf]; omega
    · have hi2 := HI.out
      have d1 : decide (i < bs.length) = false := decide_eq_false hi
      go_wp2
      go_ret
      exact ⟨true, rfl, ⟨fun _ j hj => HA.out j (by omega)⟩, rfl⟩
end Go.Proofs.Ytncbnejldlfbdaa.PHeap
