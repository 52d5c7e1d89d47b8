/- What slices.stableCmpFunc leaves: a row sorted, those of one number as they stood; no condition. -/
import Derived.Test.YtncbnejldlfbdaaJI
namespace Go.Proofs.Ytncbnejldlfbdaa.PIdx
open Go.RowKit Go.Proofs.YtncbnejldlfbdaaW.PrintWords Go.Proofs.YtncbnejldlfbdaaW.PrintLast Go.Proofs.YtncbnejldlfbdaaW.PrintMore
open Go.Proofs.Ytncbnejldlfbdaa.PIndexFresh
open Go.Proofs.Ytncbnejldlfbdaa.PHeap (Row)
set_option linter.unusedVariables false
set_option linter.unusedSimpArgs false
/-- each block of C items is sorted -/
def Bl (C : Nat) (l : List It) : Prop := ∀ q, ((l.drop (q * C)).take C).Pairwise leI
theorem Bl.head {C : Nat} {l : List It} (h : Bl C l) : (l.take C).Pairwise leI := by simpa using h 0
theorem Bl.tail {C : Nat} {l : List It} (h : Bl C l) : Bl C (l.drop C) := fun q => by
  have := h (q + 1)
  rw [List.drop_drop]
  rwa [show C + q * C = (q + 1) * C from by rw [Nat.succ_mul]; omega]
theorem Bl.nil (C : Nat) : Bl C [] := fun q => by simp
theorem Bl.app {C k : Nat} {D M : List It} (h : Bl C D) (hD : D.length = k * C) (hM : M.Pairwise leI) : Bl C (D ++ M) := fun q => by
  rw [List.drop_append]
  by_cases hq : q < k
  · have h1 : (q + 1) * C ≤ k * C := Nat.mul_le_mul_right _ hq
    rw [Nat.succ_mul] at h1
    rw [List.take_append_of_le_length (by rw [List.length_drop]; omega)]
    exact h q
  · have h1 : k * C ≤ q * C := Nat.mul_le_mul_right _ (by omega)
    rw [List.drop_of_length_le (by omega), List.nil_append]
    exact (hM.sublist (List.drop_sublist _ _)).sublist (List.take_sublist _ _)
/-- the first two blocks of a row -/
structure Two2 (T : List It) (C : Nat) : Prop where
  e : T = T.take C ++ (T.drop C).take C ++ T.drop (2 * C)
  l1 : 2 * C ≤ T.length → (T.take C).length = C
  l2 : 2 * C ≤ T.length → ((T.drop C).take C).length = C
  l3 : (T.drop (2 * C)).length = T.length - 2 * C
theorem two2 (T : List It) (C : Nat) : Two2 T C := by
  refine ⟨?_, fun h => by simp; omega, fun h => by simp; omega, by simp⟩
  have h1 := List.take_append_drop C (T.drop C)
  rw [List.drop_drop, show C + C = 2 * C from by omega] at h1
  rw [List.append_assoc, h1, List.take_append_drop]
set_option maxHeartbeats 40000000 in
set_option maxRecDepth 1000000 in
theorem stable_calls (base g cap : Nat) (l0 : List It) (len : Nat) (w : World) (h : RowAt w w base g cap l0) (hlen : len = l0.length) (hbig : len < 1152921504606846976) :
    Calls Try.prog 61 #[.slice (some ⟨g, 0, none⟩) len cap, .int .i64 (len : Int), FV] w fun e w' => e = .returned (.tuple #[]) ∧ ∃ Y, Aside0 (RowAt w w' base g cap Y) ∧ Aside0 (Y.Pairwise leI ∧ Stb l0 Y ∧ Y.length = l0.length) := by
  have hu54 := Try.underlying54
  have hu65 := Try.underlying65
  have HR := Aside0.mk h
  have HLN : Aside0 (len = l0.length ∧ len < 1152921504606846976) := ⟨hlen, hbig⟩
  clear h hlen hbig
  go_enter Try.func61, Try.ntmps61
  go_wp2
  go_loopw [7, 8] (fun v7 v8 wq => ∃ (an bn : Nat) (D T : List It), v7 = .int .i64 (an : Int) ∧ v8 = .int .i64 (bn : Int) ∧ Aside0 (an = D.length ∧ bn = an + 20 ∧ D.length + T.length = len ∧ ∃ k, D.length = k * 20) ∧ Aside0 (RowAt w wq base g cap (D ++ T)) ∧ Aside0 (Bl 20 D ∧ Stb l0 (D ++ T))) (fun v7 v8 _ => len - (intOf v7).toNat)
  case atStart => exact ⟨0, 20, [], l0, rfl, rfl, ⟨rfl, rfl, by have := HLN.out; simp; omega, 0, rfl⟩, HR, ⟨Bl.nil _, Stb.refl _⟩⟩
  case round =>
    clear HR
    obtain ⟨an, bn, D, T, rfl, rfl, HD, HR, HB⟩ := hrel
    by_cases hbn : bn ≤ len
    · have d1 : decide (bn ≤ len) = true := decide_eq_true hbn
      have d2 : decide ((bn : Int) ≤ (len : Int)) = true := decide_eq_true (by omega)
      have HT : Aside0 ((T.take 20).length = 20 ∧ (T.drop 20).length + 20 = T.length) := ⟨by have := HD.out; simp; omega⟩
      have HR0 : Aside0 (RowAt wr wr base g cap (D ++ T.take 20 ++ T.drop 20)) := ⟨by
        have h1 := HR.out.start
        rw [List.append_assoc, List.take_append_drop]
        exact h1⟩
      have c1 : (bn : Int) + 20 < 9223372036854775808 := by have := HLN.out; omega
      go_wp2_with ((go_at_call 69; (with_reducible refine (insert_calls base g cap D (T.take 20) (T.drop 20) _ _ len wr HR0.out (by have := HD.out; omega) (by have := HD.out; have := HT.out; omega) (by have := HD.out; have := HT.out; omega) (by have := HLN.out; omega)).mono ?_); rintro e w1 ⟨rfl, Y, h1, h2⟩; have R1 := h1; have T1 := h2; clear h1 h2))
      go_roundw
      case rel => exact ⟨bn, bn + 20, D ++ Y, T.drop 20, rfl, by go_num, ⟨by have := HD.out; have := HT.out; have := T1.out.2.2; simp at *; omega, rfl, by have := HD.out; have := HT.out; have := T1.out.2.2; simp at *; omega, by
          obtain ⟨k, hk⟩ := HD.out.2.2.2
          exact ⟨k + 1, by have := HD.out; have := HT.out; have := T1.out.2.2; simp at *; omega⟩⟩, ⟨HR.out.chain R1.out⟩, ⟨by obtain ⟨k, hk⟩ := HD.out.2.2.2; exact HB.out.1.app hk T1.out.1, by
          have h1 := HB.out.2
          rw [← List.take_append_drop 20 T, ← List.append_assoc] at h1
          exact h1.trans (Stb.mid D (T.drop 20) T1.out.2.1)⟩⟩
      case measure => simp [intOf]; have := HD.out; omega
    · have d1 : decide (bn ≤ len) = false := decide_eq_false hbn
      have d2 : decide ((bn : Int) ≤ (len : Int)) = false := decide_eq_false (by omega)
      have HR0 : Aside0 (RowAt wr wr base g cap (D ++ T ++ [])) := ⟨by
        have h1 := HR.out.start
        rw [List.append_nil]
        exact h1⟩
      have hex : ∃ l1 : List It, True := ⟨[], trivial⟩
      go_wp2_with ((go_at_call 69; (with_reducible refine (insert_calls base g cap D T [] _ _ len wr HR0.out (by have := HD.out; omega) (by have := HD.out; omega) (by have := HD.out; simp; omega) (by have := HLN.out; omega)).mono ?_); rintro e w1 ⟨rfl, Y, h1, h2⟩; have R1 := h1; have T1 := h2; clear h1 h2))
      have HR1 : Aside0 (RowAt w w1 base g cap (D ++ Y)) := ⟨by have := HR.out.chain R1.out; rwa [List.append_nil] at this⟩
      have HB1 : Aside0 (Bl 20 (D ++ Y) ∧ Stb l0 (D ++ Y) ∧ (D ++ Y).length = len) := ⟨by obtain ⟨k, hk⟩ := HD.out.2.2.2; exact HB.out.1.app hk T1.out.1, HB.out.2.trans ((Stb.refl D).app T1.out.2.1), by have := HD.out; have := T1.out.2.2; simp at *; omega⟩
      generalize D ++ Y = l1 at HR1 HB1
      clear HR HB R1 T1 HR0 d1 d2 hbn HD hex
      go_loopw [6] (fun v6 wq => ∃ (bs : Nat) (l : List It), v6 = .int .i64 (bs : Int) ∧ Aside0 (20 ≤ bs ∧ bs < 2305843009213693952) ∧ Aside0 (RowAt w wq base g cap l) ∧ Aside0 (Bl bs l ∧ Stb l0 l ∧ l.length = len)) (fun v6 _ => len - (intOf v6).toNat)
      case atStart => exact ⟨20, l1, rfl, ⟨by omega⟩, HR1, HB1⟩
      case round =>
        clear HR1 HB1
        obtain ⟨bs, l, rfl, HS, HR, HB⟩ := hrel
        by_cases hbs : bs < len
        · have d1 : decide (bs < len) = true := decide_eq_true hbs
          have d2 : decide ((bs : Int) < (len : Int)) = true := decide_eq_true (by omega)
          obtain ⟨tb, htb⟩ : ∃ tb : Nat, 2 * bs = tb := ⟨_, rfl⟩
          have HTB : Aside0 (2 * bs = tb ∧ bs < len) := ⟨htb, hbs⟩
          have w1 : IntKind.i64.wrap (2 * (bs : Int)) = (tb : Int) := by rw [show 2 * (bs : Int) = (tb : Int) from by omega]; exact IntWalk.i64_in _ (by have := HS.out; omega)
          have w2 : wrap64 (2 * (bs : Int)) = (tb : Int) := by unfold wrap64; have := HS.out; omega
          have w3 : IntKind.i64.wrap ((bs : Int) * 2) = (tb : Int) := by rw [show (bs : Int) * 2 = (tb : Int) from by omega]; exact IntWalk.i64_in _ (by have := HS.out; omega)
          have w4 : wrap64 ((bs : Int) * 2) = (tb : Int) := by unfold wrap64; have := HS.out; omega
          clear htb hbs
          go_wp2
          go_loopw [7, 8] (fun v7 v8 wq => ∃ (an bn : Nat) (D T : List It), v7 = .int .i64 (an : Int) ∧ v8 = .int .i64 (bn : Int) ∧ Aside0 (an = D.length ∧ bn = an + tb ∧ D.length + T.length = len ∧ ∃ k, D.length = k * tb) ∧ Aside0 (RowAt w wq base g cap (D ++ T)) ∧ Aside0 (Bl tb D ∧ Bl bs T ∧ Stb l0 (D ++ T))) (fun v7 v8 _ => len - (intOf v7).toNat)
          case atStart => exact ⟨0, tb, [], l, rfl, rfl, ⟨rfl, by omega, by have := HB.out.2.2; simp; omega, 0, by simp⟩, HR, ⟨Bl.nil _, HB.out.1, HB.out.2.1⟩⟩
          case round =>
            clear HR HB
            obtain ⟨an, bn, D, T, rfl, rfl, HD, HR, HB⟩ := hrel
            obtain ⟨mm, hmm⟩ : ∃ mm : Nat, an + bs = mm := ⟨_, rfl⟩
            have HMM := Aside0.mk hmm
            have v1 : IntKind.i64.wrap ((an : Int) + (bs : Int)) = (mm : Int) := by rw [show (an : Int) + (bs : Int) = (mm : Int) from by omega]; exact IntWalk.i64_in _ (by have := HD.out; have := HS.out; have := HLN.out; omega)
            have v2 : wrap64 ((an : Int) + (bs : Int)) = (mm : Int) := by unfold wrap64; have := HD.out; have := HS.out; have := HLN.out; omega
            by_cases hbn : bn ≤ len
            · have d1 : decide (bn ≤ len) = true := decide_eq_true hbn
              have d2 : decide ((bn : Int) ≤ (len : Int)) = true := decide_eq_true (by omega)
              have HT : Aside0 ((T.take bs).length = bs ∧ ((T.drop bs).take bs).length = bs ∧ (T.drop tb).length + tb = T.length) := ⟨by
                have h2 := two2 T bs
                have h3 := HTB.out.1
                have h4 := HD.out
                rw [← h3]
                exact ⟨h2.l1 (by omega), h2.l2 (by omega), by rw [h2.l3]; omega⟩⟩
              have HE : Aside0 (T = T.take bs ++ (T.drop bs).take bs ++ T.drop tb) := ⟨by rw [← HTB.out.1]; exact (two2 T bs).e⟩
              have HR0 : Aside0 (RowAt wr wr base g cap (D ++ T.take bs ++ (T.drop bs).take bs ++ T.drop tb)) := ⟨by
                have h1 := HR.out.start
                have h2 := HE.out
                rw [h2] at h1
                simpa only [List.append_assoc] using h1⟩
              obtain ⟨b2, hb2⟩ : ∃ b2 : Nat, bn + tb = b2 := ⟨_, rfl⟩
              have HB2 := Aside0.mk hb2
              have c1 : IntKind.i64.wrap ((bn : Int) + (tb : Int)) = (b2 : Int) := by rw [show (bn : Int) + (tb : Int) = (b2 : Int) from by omega]; exact IntWalk.i64_in _ (by have := HTB.out; have := HS.out; have := HLN.out; omega)
              have c2 : wrap64 ((bn : Int) + (tb : Int)) = (b2 : Int) := by unfold wrap64; have := HTB.out; have := HS.out; have := HLN.out; omega
              clear hmm hb2
              go_wp2_with ((go_at_call 70; (with_reducible refine (symmerge_calls base g cap D (T.take bs) ((T.drop bs).take bs) (T.drop tb) _ _ _ len wr HR0.out HB.out.2.1.head HB.out.2.1.tail.head (by have := HD.out; omega) (by have := HD.out; have := HT.out; have := HMM.out; omega) (by have := HD.out; have := HT.out; have := HTB.out; omega) (by have := HD.out; have := HT.out; have := HTB.out; omega) (by have := HLN.out; omega) (by have := HT.out; have := HS.out; omega) (by have := HT.out; have := HS.out; omega)).mono ?_); rintro e w1 ⟨rfl, Y, h1, h2⟩; have R1 := h1; have T1 := h2; clear h1 h2))
              go_roundw
              case rel => exact ⟨bn, b2, D ++ Y, T.drop tb, rfl, rfl, ⟨by have := HD.out; have := HT.out; have := HTB.out; have := T1.out.2.2; rw [List.length_append]; omega, HB2.out.symm, by have := HD.out; have := HT.out; have := HTB.out; have := T1.out.2.2; rw [List.length_append]; omega, by
                  obtain ⟨k, hk⟩ := HD.out.2.2.2
                  exact ⟨k + 1, by have := HD.out; have := HT.out; have := HTB.out; have := T1.out.2.2; rw [List.length_append, Nat.succ_mul]; omega⟩⟩, ⟨HR.out.chain R1.out⟩, ⟨by obtain ⟨k, hk⟩ := HD.out.2.2.2; exact HB.out.1.app hk T1.out.1, by
                  have h1 := HB.out.2.1.tail.tail
                  rw [List.drop_drop, show bs + bs = tb from by have := HTB.out; omega] at h1
                  exact h1, by
                  have h1 := HB.out.2.2
                  rw [HE.out, ← List.append_assoc] at h1
                  exact h1.trans (Stb.mid D (T.drop tb) T1.out.2.1)⟩⟩
              case measure => simp [intOf]; have := HD.out; have := HTB.out; have := HS.out; omega
            · have d1 : decide (bn ≤ len) = false := decide_eq_false hbn
              have d2 : decide ((bn : Int) ≤ (len : Int)) = false := decide_eq_false (by omega)
              by_cases hml : mm < len
              · have e1 : decide (mm < len) = true := decide_eq_true hml
                have e2 : decide ((mm : Int) < (len : Int)) = true := decide_eq_true (by omega)
                have HT : Aside0 ((T.take bs).length = bs ∧ (T.drop bs).length + bs = T.length ∧ bs < T.length ∧ T.length < tb) := ⟨by have := HD.out; simp; omega⟩
                have HR0 : Aside0 (RowAt wr wr base g cap (D ++ T.take bs ++ T.drop bs ++ [])) := ⟨by
                  have h1 := HR.out.start
                  rw [List.append_nil, List.append_assoc, List.take_append_drop]
                  exact h1⟩
                have HSO : Aside0 ((T.drop bs).Pairwise leI) := ⟨by
                  have h1 := HB.out.2.1.tail.head
                  rwa [List.take_of_length_le (by have := HT.out; have := HTB.out; omega)] at h1⟩
                clear hmm hbn hml
                go_wp2_with ((go_at_call 70; (with_reducible refine (symmerge_calls base g cap D (T.take bs) (T.drop bs) [] _ _ _ len wr HR0.out HB.out.2.1.head HSO.out (by have := HD.out; omega) (by have := HD.out; have := HT.out; have := HMM.out; omega) (by have := HD.out; have := HT.out; have := HTB.out; omega) (by have := HD.out; have := HT.out; have := HTB.out; simp; omega) (by have := HLN.out; omega) (by have := HT.out; have := HS.out; omega) (by have := HT.out; have := HS.out; omega)).mono ?_); rintro e w1 ⟨rfl, Y, h1, h2⟩; have R1 := h1; have T1 := h2; clear h1 h2))
                go_roundw
                case rel => exact ⟨tb, D ++ Y, rfl, ⟨by have := HTB.out; have := HS.out; have := HLN.out; omega⟩, ⟨by have := HR.out.chain R1.out; rwa [List.append_nil] at this⟩, ⟨by obtain ⟨k, hk⟩ := HD.out.2.2.2; exact HB.out.1.app hk T1.out.1, by
                    have h1 := HB.out.2.2
                    rw [← List.take_append_drop bs T] at h1
                    exact h1.trans ((Stb.refl D).app T1.out.2.1), by have := HD.out; have := HT.out; have := T1.out.2.2; rw [List.length_append]; omega⟩⟩
                case measure => simp [intOf]; have := HTB.out; have := HS.out; omega
              · have e1 : decide (mm < len) = false := decide_eq_false hml
                have e2 : decide ((mm : Int) < (len : Int)) = false := decide_eq_false (by omega)
                have HSO : Aside0 (T.Pairwise leI) := ⟨by
                  have h1 := HB.out.2.1.head
                  rwa [List.take_of_length_le (by have := HD.out; omega)] at h1⟩
                clear hmm hbn hml
                go_wp2
                go_roundw
                case rel => exact ⟨tb, D ++ T, rfl, ⟨by have := HTB.out; have := HS.out; have := HLN.out; omega⟩, HR, ⟨by obtain ⟨k, hk⟩ := HD.out.2.2.2; exact HB.out.1.app hk HSO.out, HB.out.2.2, by have := HD.out; rw [List.length_append]; omega⟩⟩
                case measure => simp [intOf]; have := HTB.out; have := HS.out; omega
        · have d1 : decide (bs < len) = false := decide_eq_false hbs
          have d2 : decide ((bs : Int) < (len : Int)) = false := decide_eq_false (by omega)
          go_wp2
          go_returns
          exact ⟨rfl, l, HR, ⟨by have h1 := HB.out.1.head; rwa [List.take_of_length_le (by have := HB.out.2.2; omega)] at h1, HB.out.2.1, by have := HB.out.2.2; have := HLN.out; omega⟩⟩
end Go.Proofs.Ytncbnejldlfbdaa.PIdx
