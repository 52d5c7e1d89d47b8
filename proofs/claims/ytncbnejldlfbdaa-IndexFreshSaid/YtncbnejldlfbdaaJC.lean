/- What slices.rotateCmpFunc leaves of a row of items; no condition. -/
import Derived.Test.YtncbnejldlfbdaaJB
namespace Go.Proofs.Ytncbnejldlfbdaa.PIdx
open Go.RowKit Go.Proofs.YtncbnejldlfbdaaW.PrintWords Go.Proofs.YtncbnejldlfbdaaW.PrintLast Go.Proofs.YtncbnejldlfbdaaW.PrintMore
open Go.Proofs.Ytncbnejldlfbdaa.PIndexFresh
open Go.Proofs.Ytncbnejldlfbdaa.PHeap (Row)
set_option linter.unusedVariables false
set_option linter.unusedSimpArgs false
theorem swapr_int (base g cap : Nat) (P X M Y S : List It) (a b n : Int) (len : Nat) (fv : Value) (w : World) (h : RowAt w w base g cap (P ++ X ++ M ++ Y ++ S)) (ha : a = (P.length : Int)) (hb : b = ((P.length + X.length + M.length : Nat) : Int)) (hx : n = (X.length : Int)) (hy : X.length = Y.length) (hlen : len = P.length + X.length + M.length + Y.length + S.length) :
    Calls Try.prog 73 #[.slice (some ⟨g, 0, none⟩) len cap, .int .i64 a, .int .i64 b, .int .i64 n, fv] w fun e w' => e = .returned (.tuple #[]) ∧ Aside0 (RowAt w w' base g cap (P ++ Y ++ M ++ X ++ S)) := by
  subst ha hb hx
  exact swapr_calls base g cap P X M Y S _ _ _ len fv w h rfl rfl rfl hy (by rw [hlen]; simp; omega)
theorem RowAt.chain {W0 w w1 : World} {base g cap : Nat} {l l' : List It} (h : RowAt W0 w base g cap l) (k : RowAt w w1 base g cap l') : RowAt W0 w1 base g cap l' := ⟨k.row, k.hb, h.hK.trans k.hK⟩
theorem RowAt.start {W0 w : World} {base g cap : Nat} {l : List It} (h : RowAt W0 w base g cap l) : RowAt w w base g cap l := ⟨h.row, h.hb, grown_of_below (Below.refl _ w) _⟩
set_option maxHeartbeats 8000000 in
set_option maxRecDepth 1000000 in
theorem rotate_calls (base g cap : Nat) (P A B S : List It) (a m b : Int) (len : Nat) (fv : Value) (w : World) (h : RowAt w w base g cap (P ++ A ++ B ++ S)) (ha : a = (P.length : Int)) (hm : m = ((P.length + A.length : Nat) : Int)) (hb : b = ((P.length + A.length + B.length : Nat) : Int)) (hlen : len = P.length + A.length + B.length + S.length) (hA : 0 < A.length) (hB : 0 < B.length) :
    Calls Try.prog 72 #[.slice (some ⟨g, 0, none⟩) len cap, .int .i64 a, .int .i64 m, .int .i64 b, fv] w fun e w' => e = .returned (.tuple #[]) ∧ Aside0 (RowAt w w' base g cap (P ++ B ++ A ++ S)) := by
  have HR := Aside0.mk h
  have HLC : Aside0 (len ≤ cap ∧ len < 9223372036854775808) := ⟨by have := h.cap_le; have e : maxLen = 9223372036854775807 := rfl; simp at this; omega⟩
  obtain ⟨mn, rfl⟩ : ∃ mn : Nat, m = (mn : Int) := ⟨_, hm⟩
  obtain ⟨an, rfl⟩ : ∃ mn : Nat, a = (mn : Int) := ⟨_, ha⟩
  obtain ⟨bn, rfl⟩ : ∃ mn : Nat, b = (mn : Int) := ⟨_, hb⟩
  have HLN : Aside0 (an = P.length ∧ mn = P.length + A.length ∧ bn = P.length + A.length + B.length ∧ len = P.length + A.length + B.length + S.length ∧ 0 < A.length ∧ 0 < B.length) := ⟨by omega⟩
  have c1 : (an : Int) ≤ mn := by omega
  have c2 : (mn : Int) ≤ bn := by omega
  have c3 : (bn : Int) < 9223372036854775808 := by have := HLC.out; omega
  have c4 : (0 : Int) ≤ an := by omega
  clear h ha hm hb hlen hA hB
  go_enter Try.func72, Try.ntmps72
  go_wp2
  clear c1 c2 c4
  go_loopw [10, 11] (fun v10 v11 wr => ∃ (i j : Nat) (P1 A1 B1 S1 : List It), v10 = .int .i64 (i : Int) ∧ v11 = .int .i64 (j : Int) ∧ Aside0 (A1.length = i ∧ B1.length = j ∧ 0 < i ∧ 0 < j ∧ P1.length + i = mn ∧ mn + j ≤ len ∧ P1.length + A1.length + B1.length + S1.length = len) ∧ Aside0 (RowAt w wr base g cap (P1 ++ A1 ++ B1 ++ S1)) ∧ Aside0 (P1 ++ B1 ++ A1 ++ S1 = P ++ B ++ A ++ S)) (fun v10 v11 _ => (intOf v10).toNat + (intOf v11).toNat)
  case atStart => exact ⟨A.length, B.length, P, A, B, S, by have := HLN.out; congr 1; omega, by have := HLN.out; congr 1; omega, ⟨by have := HLN.out; omega⟩, HR, ⟨rfl⟩⟩
  case round =>
    clear HR
    obtain ⟨i, j, P1, A1, B1, S1, rfl, rfl, HE, HR, HQ⟩ := hrel
    have e1 : (i : Int) ≤ mn := by have := HE.out; omega
    have e2 : (mn : Int) + j < 9223372036854775808 := by have := HE.out; have := HLC.out; omega
    have e3 : (0 : Int) ≤ i := by omega
    have e4 : (0 : Int) ≤ j := by omega
    have HEP : Aside0 (P1.length + i = mn) := ⟨HE.out.2.2.2.2.1⟩
    by_cases hij : i = j
    · subst hij
      have R0 : Aside0 (RowAt wr wr base g cap (P1 ++ A1 ++ [] ++ B1 ++ S1)) := ⟨by have := HR.out.start; simpa using this⟩
      go_wp2_with ((go_at_call 73; (with_reducible refine (swapr_int base g cap P1 A1 [] B1 S1 _ _ _ len fv wr R0.out (by have := HE.out; have := HLN.out; (try simp only [List.length_take, List.length_drop, List.length_nil]); omega) (by have := HE.out; have := HLN.out; (try simp only [List.length_take, List.length_drop, List.length_nil]); omega) (by have := HE.out; have := HLN.out; (try simp only [List.length_take, List.length_drop, List.length_nil]); omega) (by have := HE.out; have := HLN.out; (try simp only [List.length_take, List.length_drop, List.length_nil]); omega) (by have := HE.out; have := HLN.out; (try simp only [List.length_take, List.length_drop, List.length_nil]); omega)).mono ?_); rintro e w1 ⟨rfl, h1⟩; have R1 := h1; clear h1))
      go_returns
      exact ⟨rfl, ⟨by rw [← HQ.out]; have := HR.out.chain R1.out; simpa using this⟩⟩
    · have d0 : ((i : Int) == (j : Int)) = false := beq_eq_false_iff_ne.2 (by omega)
      have d1 : ((i : Int) != (j : Int)) = true := bne_iff_ne.2 (by omega)
      have d2 : ¬ (i : Int) = (j : Int) := by omega
      by_cases hgt : j < i
      · have d3 : decide (j < i) = true := decide_eq_true hgt
        have R0 : Aside0 (RowAt wr wr base g cap (P1 ++ A1.take j ++ A1.drop j ++ B1 ++ S1)) := ⟨by rw [show P1 ++ A1.take j ++ A1.drop j = P1 ++ A1 from by rw [List.append_assoc, List.take_append_drop]]; exact HR.out.start⟩
        go_wp2_with ((go_at_call 73; (with_reducible refine (swapr_int base g cap P1 (A1.take j) (A1.drop j) B1 S1 _ _ _ len fv wr R0.out (by have := HE.out; have := HLN.out; (try simp only [List.length_take, List.length_drop, List.length_nil]); omega) (by have := HE.out; have := HLN.out; (try simp only [List.length_take, List.length_drop, List.length_nil]); omega) (by have := HE.out; have := HLN.out; (try simp only [List.length_take, List.length_drop, List.length_nil]); omega) (by have := HE.out; have := HLN.out; (try simp only [List.length_take, List.length_drop, List.length_nil]); omega) (by have := HE.out; have := HLN.out; (try simp only [List.length_take, List.length_drop, List.length_nil]); omega)).mono ?_); rintro e w1 ⟨rfl, h1⟩; have R1 := h1; clear h1))
        go_roundw
        case rel => exact ⟨i - j, j, P1 ++ B1, A1.drop j, A1.take j, S1, by congr 1; omega, rfl, ⟨by have := HE.out; simp; omega⟩, ⟨by have := HR.out.chain R1.out; simpa using this⟩, ⟨by rw [← HQ.out]; rw [List.append_assoc (P1 ++ B1), List.take_append_drop]⟩⟩
        case measure => simp [intOf]; have := HE.out; omega
      · have d3 : decide (j < i) = false := decide_eq_false hgt
        have hlt : i < j := by omega
        have R0 : Aside0 (RowAt wr wr base g cap (P1 ++ A1 ++ B1.take (j - i) ++ B1.drop (j - i) ++ S1)) := ⟨by rw [show P1 ++ A1 ++ B1.take (j - i) ++ B1.drop (j - i) = P1 ++ A1 ++ B1 from by rw [List.append_assoc, List.take_append_drop]]; exact HR.out.start⟩
        go_wp2_with ((go_at_call 73; (with_reducible refine (swapr_int base g cap P1 A1 (B1.take (j - i)) (B1.drop (j - i)) S1 _ _ _ len fv wr R0.out (by have := HE.out; have := HLN.out; (try simp only [List.length_take, List.length_drop, List.length_nil]); omega) (by have := HE.out; have := HLN.out; (try simp only [List.length_take, List.length_drop, List.length_nil]); omega) (by have := HE.out; have := HLN.out; (try simp only [List.length_take, List.length_drop, List.length_nil]); omega) (by have := HE.out; have := HLN.out; (try simp only [List.length_take, List.length_drop, List.length_nil]); omega) (by have := HE.out; have := HLN.out; (try simp only [List.length_take, List.length_drop, List.length_nil]); omega)).mono ?_); rintro e w1 ⟨rfl, h1⟩; have R1 := h1; clear h1))
        go_roundw
        case rel => exact ⟨i, j - i, P1, B1.drop (j - i), B1.take (j - i), A1 ++ S1, rfl, by congr 1; omega, ⟨by have := HE.out; simp; omega⟩, ⟨by have := HR.out.chain R1.out; simpa using this⟩, ⟨by rw [← HQ.out]; rw [List.append_assoc P1, List.take_append_drop]; simp⟩⟩
        case measure => simp [intOf]; have := HE.out; omega
end Go.Proofs.Ytncbnejldlfbdaa.PIdx
