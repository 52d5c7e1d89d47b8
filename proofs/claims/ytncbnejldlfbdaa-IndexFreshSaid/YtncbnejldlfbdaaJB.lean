/- What slices.swapRangeCmpFunc leaves of a row of items; no condition. -/
import Derived.Test.YtncbnejldlfbdaaJA
import Derived.BigRegion
import Derived.Handy
namespace Go.Proofs.Ytncbnejldlfbdaa.PIdx
open Go.RowKit Go.Proofs.YtncbnejldlfbdaaW.PrintWords Go.Proofs.YtncbnejldlfbdaaW.PrintLast Go.Proofs.YtncbnejldlfbdaaW.PrintMore
open Go.Proofs.Ytncbnejldlfbdaa.PIndexFresh
open Go.Proofs.Ytncbnejldlfbdaa.PHeap (Row)
set_option linter.unusedVariables false
set_option linter.unusedSimpArgs false
theorem swap_split (U V Z : List It) (x y : It) : (U ++ x :: (V ++ y :: Z))[U.length]? = some x ∧ (U ++ x :: (V ++ y :: Z))[U.length + 1 + V.length]? = some y ∧ ((U ++ x :: (V ++ y :: Z)).set U.length y).set (U.length + 1 + V.length) x = U ++ y :: (V ++ x :: Z) := by
  refine ⟨by simp, ?_, ?_⟩
  · rw [List.getElem?_append_right (by omega), show U.length + 1 + V.length - U.length = V.length + 1 from by omega, List.getElem?_cons_succ, List.getElem?_append_right (by omega)]
    simp
  · rw [List.set_append_right _ _ (by omega), Nat.sub_self, List.set_cons_zero, List.set_append_right _ _ (by omega), show U.length + 1 + V.length - U.length = V.length + 1 from by omega, List.set_cons_succ, List.set_append_right _ _ (by omega), Nat.sub_self, List.set_cons_zero]
/-- the cells of two places of a row, and what an exchange of them leaves -/
structure Two (W0 w : World) (base g cap : Nat) (l l' : List It) (p q : Nat) (x y : It) : Prop where
  hp : l[p]? = some x
  hq : l[q]? = some y
  res : RowAt W0 (set4 (set4 w g p y) g q x).drew base g cap l'
theorem Two.mk' {W0 w : World} {base g cap : Nat} {U V Z : List It} {x y : It} (h : RowAt W0 w base g cap (U ++ x :: (V ++ y :: Z))) : Two W0 w base g cap (U ++ x :: (V ++ y :: Z)) (U ++ y :: (V ++ x :: Z)) U.length (U.length + 1 + V.length) x y := by
  obtain ⟨h1, h2, h3⟩ := swap_split U V Z x y
  refine ⟨h1, h2, ?_⟩
  rw [← h3]
  exact ((h.put _ _).put _ _).drew
set_option maxHeartbeats 40000000 in
set_option maxRecDepth 1000000 in
theorem swapr_calls (base g cap : Nat) (P X M Y S : List It) (a b n len : Nat) (fv : Value) (w : World) (h : RowAt w w base g cap (P ++ X ++ M ++ Y ++ S)) (ha : a = P.length) (hb : b = P.length + X.length + M.length) (hx : n = X.length) (hy : n = Y.length) (hlen : len = (P ++ X ++ M ++ Y ++ S).length) :
    Calls Try.prog 73 #[.slice (some ⟨g, 0, none⟩) len cap, .int .i64 (a : Int), .int .i64 (b : Int), .int .i64 (n : Int), fv] w fun e w' => e = .returned (.tuple #[]) ∧ Aside0 (RowAt w w' base g cap (P ++ Y ++ M ++ X ++ S)) := by
  have hu54 := Try.underlying54
  have hu65 := Try.underlying65
  have HC := Aside0.mk h.cap_le
  have HR := Aside0.mk h
  have HLN : Aside0 (len = P.length + X.length + M.length + Y.length + S.length ∧ a = P.length ∧ b = P.length + X.length + M.length ∧ n = X.length ∧ n = Y.length) := ⟨by rw [hlen]; simp; omega⟩
  have HLC : Aside0 (len ≤ cap ∧ len < 9223372036854775808) := ⟨by have := h.cap_le; have e : maxLen = 9223372036854775807 := rfl; rw [hlen]; omega⟩
  clear h ha hb hx hy hlen
  go_enter Try.func73, Try.ntmps73
  go_wp2
  go_loopw [10] (fun v10 wr => ∃ (i : Nat) (X1 X2 Y1 Y2 : List It), v10 = .int .i64 (i : Int) ∧ Aside0 (X = X1 ++ X2 ∧ Y = Y1 ++ Y2 ∧ X1.length = i ∧ Y1.length = i) ∧ Aside0 (RowAt w wr base g cap (P ++ Y1 ++ X2 ++ M ++ X1 ++ Y2 ++ S))) (fun v10 _ => n - (intOf v10).toNat)
  case atStart => exact ⟨0, [], X, [], Y, rfl, ⟨rfl, rfl, rfl, rfl⟩, ⟨by simpa using HR.out⟩⟩
  case round =>
    clear HR
    obtain ⟨i, X1, X2, Y1, Y2, rfl, HE, HR⟩ := hrel
    have hib : i ≤ n := by have := HE.out; have := HLN.out; have h3 := congrArg List.length HE.out.1; simp at h3; omega
    by_cases hi : i < n
    · have HXY : Aside0 (∃ x X3 y Y3, X2 = x :: X3 ∧ Y2 = y :: Y3) := ⟨by
        have h3 := congrArg List.length HE.out.1
        have h4 := congrArg List.length HE.out.2.1
        have := HLN.out
        have := HE.out
        simp at h3 h4
        cases hX : X2 with
        | nil => subst hX; simp at h3; omega
        | cons x X3 =>
          cases hY : Y2 with
          | nil => subst hY; simp at h4; omega
          | cons y Y3 => exact ⟨x, X3, y, Y3, rfl, rfl⟩⟩
      obtain ⟨x, X3, y, Y3, rfl, rfl⟩ := HXY.out
      clear HXY
      have HT : Aside0 (Two w wr base g cap (P ++ Y1 ++ x :: (X3 ++ M ++ X1 ++ y :: (Y3 ++ S))) (P ++ Y1 ++ y :: (X3 ++ M ++ X1 ++ x :: (Y3 ++ S))) (P ++ Y1).length ((P ++ Y1).length + 1 + (X3 ++ M ++ X1).length) x y) := ⟨Two.mk' (by have := HR.out; simpa using this)⟩
      have HPQ : Aside0 ((P ++ Y1).length = a + i ∧ (P ++ Y1).length + 1 + (X3 ++ M ++ X1).length = b + i ∧ a + i < b + i ∧ b + i < len) := ⟨by
        have h3 := congrArg List.length HE.out.1
        have h4 := congrArg List.length HE.out.2.1
        have := HLN.out
        have := HE.out
        simp at h3 h4 ⊢
        omega⟩
      rw [HPQ.out.2.1, HPQ.out.1] at HT
      have HRR : Aside0 (RowAt w wr base g cap (P ++ Y1 ++ x :: (X3 ++ M ++ X1 ++ y :: (Y3 ++ S)))) := ⟨by have := HR.out; simpa using this⟩
      obtain ⟨p, hp⟩ : ∃ p, p = a + i := ⟨_, rfl⟩
      obtain ⟨q, hq⟩ : ∃ q, q = b + i := ⟨_, rfl⟩
      rw [← hp, ← hq] at HT
      obtain ⟨a0, a1, a2, a3⟩ := HRR.out.at_ HT.out.hp
      obtain ⟨b0, b1, b2, b3⟩ := HRR.out.at_ HT.out.hq
      have z0 := HRR.out.fr (by simp; omega)
      have s1 : IntKind.i64.wrap ((a : Int) + (i : Int)) = (p : Int) := by rw [hp]; have := HPQ.out; have := HLC.out; exact (IntWalk.i64_in _ (by omega)).trans (by omega)
      have s2 : IntKind.i64.wrap ((b : Int) + (i : Int)) = (q : Int) := by rw [hq]; have := HPQ.out; have := HLC.out; exact (IntWalk.i64_in _ (by omega)).trans (by omega)
      have k1 : p < len := by have := HPQ.out; omega
      have k2 : q < len := by have := HPQ.out; omega
      have hpq : p < q := by have := HPQ.out; omega
      have d1 : decide (i < n) = true := decide_eq_true hi
      have n0 : ¬ q = p := by omega
      have n0' : ¬ p = q := by omega
      have n1 : ∀ j, j < 4 → ¬ q * 4 = p * 4 + j := by omega
      have n2 : ¬ q * 4 + 1 = p * 4 := by omega
      have n3 : ¬ q * 4 + 2 = p * 4 := by omega
      have n4 : ¬ q * 4 + 3 = p * 4 := by omega
      have n5 : ¬ q * 4 = p * 4 + 1 := by omega
      have n6 : ¬ q * 4 = p * 4 + 2 := by omega
      have n7 : ¬ q * 4 = p * 4 + 3 := by omega
      have n8 : ¬ q * 4 + 1 = p * 4 + 2 := by omega
      have n9 : ¬ q * 4 + 1 = p * 4 + 3 := by omega
      have m1 : ¬ q * 4 + 2 = p * 4 + 1 := by omega
      have m2 : ¬ q * 4 + 2 = p * 4 + 3 := by omega
      have m3 : ¬ q * 4 + 3 = p * 4 + 1 := by omega
      have m4 : ¬ q * 4 + 3 = p * 4 + 2 := by omega
      have HI := Aside0.mk hi
      clear n1 hi hp hq hpq hib
      go_upto_region 3 with (fail)
      go_region
      have hib : (i : Int) + 1 ≤ 9223372036854775807 := by have := HI.out; have := HPQ.out; have := HLC.out; omega
      go_wp2
      go_roundw
      case rel => exact ⟨i + 1, X1 ++ [x], X3, Y1 ++ [y], Y3, by go_num, ⟨by rw [HE.out.1]; simp, by rw [HE.out.2.1]; simp, by simp [HE.out.2.2.1], by simp [HE.out.2.2.2]⟩, ⟨by have := HT.out.res; simp only [set4] at this; simpa using this⟩⟩
      case measure => simp [intOf]; have := HI.out; omega
    · have d1 : decide (i < n) = false := decide_eq_false hi
      have hin : i = n := by omega
      have HE2 : Aside0 (X2 = [] ∧ Y2 = []) := ⟨by
        have h3 := congrArg List.length HE.out.1
        have h4 := congrArg List.length HE.out.2.1
        have := HLN.out
        have := HE.out
        simp at h3 h4
        exact ⟨List.eq_nil_of_length_eq_zero (by omega), List.eq_nil_of_length_eq_zero (by omega)⟩⟩
      go_wp2
      go_returns
      refine ⟨rfl, ⟨?_⟩⟩
      have := HR.out
      rw [HE.out.1, HE.out.2.1]
      rw [HE2.out.1, HE2.out.2] at this ⊢
      simpa using this
end Go.Proofs.Ytncbnejldlfbdaa.PIdx
