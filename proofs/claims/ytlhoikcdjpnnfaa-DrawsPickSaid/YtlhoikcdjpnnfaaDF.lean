/- What draws.Mod and its reference answer is one plain number, and what is picked is the list's own, in the order of the list; no condition. -/
import Derived.Test.YtlhoikcdjpnnfaaDA
import Derived.WalkKit
import Derived.ProofKit
import Derived.OpenShut
import Derived.ShutString
import Derived.ChangeOld
import Derived.Below
import Derived.SizedLaws
import Derived.Carry
import Derived.JoinedCond
namespace Go.Proofs.Ytlhoikcdjpnnfaa.PDraws
open Go.RowKit Go.Proofs.YtlhoikcdjpnnfaaW.PrintWords Go.Proofs.YtlhoikcdjpnnfaaW.PrintLast Go.Proofs.YtlhoikcdjpnnfaaW.PrintMore

theorem wrap_in (i : Int) (h0 : -9223372036854775808 ≤ i) (h : i ≤ 9223372036854775807) : wrap64 i = i := by
  unfold wrap64; omega
theorem ev_if {α : Type} {c : Prop} [Decidable c] {f g : Nat → Option α} {r : α} (h : c) (k : Ev f r) : Ev (fun n => if c then f n else g n) r := by simpa only [if_pos h] using k
theorem ev_else {α : Type} {c : Prop} [Decidable c] {f g : Nat → Option α} {r : α} (h : ¬ c) (k : Ev g r) : Ev (fun n => if c then f n else g n) r := by simpa only [if_neg h] using k
def inI (a : Int) : Prop := -9223372036854775808 ≤ a ∧ a ≤ 9223372036854775807
/-- a number but for a multiple -/
def md (a n : Int) : Int := if n < 1 then 0 else if Int.tmod a n < 0 then Int.tmod a n + n else Int.tmod a n
theorem md_range (a n : Int) (h : 1 ≤ n) : 0 ≤ md a n ∧ md a n < n := by
  have h1 := Int.tmod_lt_of_pos a (show 0 < n by omega)
  have h2 := Int.lt_tmod_of_pos a (show 0 < n by omega)
  unfold md
  rw [if_neg (by omega)]
  split <;> omega
theorem tmod_side (a n : Int) : (0 ≤ a → 0 ≤ Int.tmod a n ∧ Int.tmod a n ≤ a) ∧ (a ≤ 0 → a ≤ Int.tmod a n ∧ Int.tmod a n ≤ 0) := by
  have key (b : Int) (hb : 0 ≤ b) : 0 ≤ Int.tmod b n ∧ Int.tmod b n ≤ b := by
    refine ⟨Int.tmod_nonneg n hb, ?_⟩
    obtain ⟨m, rfl⟩ : ∃ m : Nat, b = (m : Int) := ⟨b.toNat, by omega⟩
    cases n with
    | ofNat k =>
      show ((m % k : Nat) : Int) ≤ _
      have := Nat.mod_le m k
      omega
    | negSucc k =>
      show ((m % (k + 1) : Nat) : Int) ≤ _
      have := Nat.mod_le m (k + 1)
      omega
  refine ⟨key a, fun h => ?_⟩
  have := key (-a) (by omega)
  rw [Int.neg_tmod] at this
  omega
theorem mod_f (a n : Int) (hn : inI n) : draws_Mod.f a n = some (md a n) := by
  unfold draws_Mod.f md inI at *
  by_cases h : n < 1
  · rw [if_pos h, if_pos h]
  · have h1 := Int.tmod_lt_of_pos a (show 0 < n by omega)
    have h2 := Int.lt_tmod_of_pos a (show 0 < n by omega)
    rw [if_neg h, if_neg h, if_neg (by omega)]
    split
    · rw [wrap_in _ (by omega) (by omega)]
    · rfl
theorem rmod_f (a n : Int) (ha : inI a) (hn : inI n) : waywiserref16_Mod.f a n = some (md a n) := by
  unfold waywiserref16_Mod.f md inI at *
  by_cases h : n < 1
  · rw [if_pos (by omega), if_pos h]
  · have h1 := Int.tmod_lt_of_pos a (show 0 < n by omega)
    have h2 := Int.lt_tmod_of_pos a (show 0 < n by omega)
    have hs := tmod_side a n
    have hd := Int.natAbs_tdiv_le_natAbs a n
    have he := Int.tmod_def a n
    have hm : Int.tdiv a n * n = a - Int.tmod a n := by rw [Int.mul_comm]; omega
    have e1 : wrap64 (a - wrap64 (wrap64 (Int.tdiv a n) * n)) = Int.tmod a n := by
      by_cases h0 : a = -9223372036854775808 ∧ Int.tdiv a n = 9223372036854775808
      · exfalso
        obtain ⟨h01, h02⟩ := h0
        rw [h02] at hm
        have := hs.2 (by omega)
        omega
      rw [wrap_in (Int.tdiv a n) (by omega) (by omega), hm]
      have e2 : wrap64 (a - Int.tmod a n) = a - Int.tmod a n := by
        refine wrap_in _ ?_ ?_ <;> omega
      rw [e2, show a - (a - Int.tmod a n) = Int.tmod a n from by omega, wrap_in _ (by omega) (by omega)]
    rw [e1, if_neg (by omega), if_neg (by omega), if_neg h]
    split
    · rw [wrap_in _ (by omega) (by omega)]
    · rfl
/-- the number at a place of a list that goes round -/
def at_ (l : List Int) (u : Nat) : Int := if l.length = 0 then 0 else rd l ((u % l.length : Nat) : Int)
theorem tmod_nat (u : Nat) (l : List Int) : Int.tmod (u : Int) (l.length : Int) = ((u % l.length : Nat) : Int) := rfl
theorem at_inI (l : List Int) (hl : ∀ x ∈ l, inI x) (u : Nat) : inI (at_ l u) := by
  unfold at_
  by_cases h : l.length = 0
  · rw [if_pos h]; unfold inI; omega
  · rw [if_neg h]
    have hlt : u % l.length < l.length := Nat.mod_lt _ (by omega)
    unfold rd
    rw [Int.toNat_natCast, List.getD_eq_getElem?_getD, List.getElem?_eq_getElem hlt, Option.getD_some]
    exact hl _ (List.getElem_mem hlt)
theorem at_f (l : List Int) (u : Nat) : waywiserref16_At.f l (u : Int) = some (at_ l u) := by
  unfold waywiserref16_At.f at_
  rw [tmod_nat]
  by_cases h : l.length = 0
  · rw [if_pos (by omega), if_pos h]
  · have hlt : u % l.length < l.length := Nat.mod_lt _ (by omega)
    rw [if_neg (by omega), if_neg h, if_pos (by omega), if_pos (by omega)]
theorem pick_f (l : List Int) (u : Nat) (n : Int) (hn : inI n) : draws_Source_Pick.f l (u : Int) n = some (md (at_ l u) n, if n < 1 then (u : Int) else wrap64 ((u : Int) + 1)) := by
  unfold draws_Source_Pick.f
  rw [tmod_nat]
  by_cases h : n < 1
  · rw [if_pos h, if_pos h]
    unfold md
    rw [if_pos h]
  · rw [if_neg h, if_neg h]
    unfold at_
    by_cases h0 : l.length = 0
    · rw [if_neg (by omega), if_pos h0, mod_f _ _ hn]
      rfl
    · have hlt : u % l.length < l.length := Nat.mod_lt _ (by omega)
      rw [if_pos (by omega), if_neg (by omega), if_pos (by omega), if_pos (by omega), if_neg h0, mod_f _ _ hn]
      rfl
theorem inI_of {x : Int} (h : (Lit.int .i64 x).wf = true) : inI x := by
  have h2 : -9223372036854775808 ≤ x ∧ x ≤ 9223372036854775807 := by simpa [Lit.wf, IntKind.min, IntKind.max, IntKind.signed, IntKind.bits] using h
  exact h2
end Go.Proofs.Ytlhoikcdjpnnfaa.PDraws
