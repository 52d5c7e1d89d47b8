/- What slices.insertionSortCmpFunc leaves of a row of items: sorted, those of one number as they stood; no condition. -/
import Derived.Test.YtncbnejldlfbdaaJD
import Derived.Deep.RegionHeld3
namespace Go.Proofs.Ytncbnejldlfbdaa.PIdx
open Go.RowKit Go.Proofs.YtncbnejldlfbdaaW.PrintWords Go.Proofs.YtncbnejldlfbdaaW.PrintLast Go.Proofs.YtncbnejldlfbdaaW.PrintMore
open Go.Proofs.Ytncbnejldlfbdaa.PIndexFresh
open Go.Proofs.Ytncbnejldlfbdaa.PHeap (Row)
set_option linter.unusedVariables false
set_option linter.unusedSimpArgs false
theorem RowAt.below {W0 w w1 : World} {base g cap : Nat} {l : List It} (h : RowAt W0 w base g cap l) (hb : Below w.heap.size w w1) : RowAt W0 w1 base g cap l := ⟨h.row.below hb, h.hb, h.hK.trans (grown_of_below hb _)⟩
/-- an exchange that stores the farther place first -/
theorem Two.down {W0 w : World} {base g cap : Nat} {U V Z : List It} {x y : It} (h : RowAt W0 w base g cap (U ++ x :: (V ++ y :: Z))) : RowAt W0 (set4 (set4 w g (U.length + 1 + V.length) x) g U.length y).drew base g cap (U ++ y :: (V ++ x :: Z)) := by
  obtain ⟨h1, h2, h3⟩ := swap_split U V Z x y
  rw [← h3, List.set_comm _ _ (by omega)]
  exact ((h.put _ _).put _ _).drew
theorem sorted_put {U V : List It} {z : It} (h : (U ++ V).Pairwise leI) (h1 : ∀ u ∈ U, leI u z) (h2 : ∀ v ∈ V, leI z v) : (U ++ z :: V).Pairwise leI := by
  obtain ⟨a, b, c⟩ := List.pairwise_append.1 h
  refine List.pairwise_append.2 ⟨a, List.pairwise_cons.2 ⟨h2, b⟩, fun u hu v hv => ?_⟩
  rcases List.mem_cons.1 hv with rfl | hv
  · exact h1 u hu
  · exact c u hu v hv
theorem stb_put {X U V : List It} {z : It} (h : Stb X (U ++ V)) (h2 : ∀ v ∈ V, ky z < ky v) : Stb (X ++ [z]) (U ++ z :: V) := by
  refine (h.app (Stb.refl [z])).trans ?_
  rw [List.append_assoc]
  exact (Stb.refl U).app (Stb.turn (fun a ha b hb => by
    simp only [List.mem_singleton] at hb
    subst hb
    have := h2 a ha
    omega))
abbrev FV : Value := .func (.func 49) #[] #[]
set_option maxHeartbeats 40000000 in
set_option maxRecDepth 1000000 in
theorem insert_calls (base g cap : Nat) (P X S : List It) (a b : Int) (len : Nat) (w : World) (h : RowAt w w base g cap (P ++ X ++ S)) (ha : a = (P.length : Int)) (hb : b = ((P.length + X.length : Nat) : Int)) (hlen : len = P.length + X.length + S.length) (hbig : len < 4611686018427387904) :
    Calls Try.prog 69 #[.slice (some ⟨g, 0, none⟩) len cap, .int .i64 a, .int .i64 b, FV] w fun e w' => e = .returned (.tuple #[]) ∧ ∃ Y, Aside0 (RowAt w w' base g cap (P ++ Y ++ S)) ∧ Aside0 (Y.Pairwise leI ∧ Stb X Y ∧ Y.length = X.length) := by
  have hu54 := Try.underlying54
  have hu65 := Try.underlying65
  have HR := Aside0.mk h
  have HLC : Aside0 (len < 4611686018427387904) := ⟨hbig⟩
  obtain ⟨an, rfl⟩ : ∃ mn : Nat, a = (mn : Int) := ⟨_, ha⟩
  obtain ⟨bn, rfl⟩ : ∃ mn : Nat, b = (mn : Int) := ⟨_, hb⟩
  have HLN : Aside0 (an = P.length ∧ bn = P.length + X.length ∧ len = P.length + X.length + S.length ∧ len < 4611686018427387904) := ⟨by have := HLC.out; omega⟩
  have c1 : (an : Int) + 1 < 9223372036854775808 := by have := HLN.out; omega
  clear h ha hb hlen hbig
  go_enter Try.func69, Try.ntmps69
  go_wp2
  clear c1
  go_loopw [8] (fun v8 wr => ∃ (i : Nat) (X1 X2 Y1 : List It), v8 = .int .i64 (i : Int) ∧ Aside0 (X = X1 ++ X2 ∧ Y1.length = X1.length ∧ (X2 ≠ [] → i = P.length + X1.length) ∧ P.length + X1.length ≤ i ∧ i ≤ len + 1) ∧ Aside0 (Y1.Pairwise leI ∧ Stb X1 Y1) ∧ Aside0 (RowAt w wr base g cap (P ++ Y1 ++ X2 ++ S))) (fun v8 _ => len + 1 - (intOf v8).toNat)
  case atStart =>
    refine ⟨an + 1, X.take 1, X.drop 1, X.take 1, by go_num, ⟨(List.take_append_drop 1 X).symm, rfl, fun hX => ?_, ?_, by have := HLN.out; omega⟩, ⟨?_, Stb.refl _⟩, ⟨?_⟩⟩
    · have : 0 < (X.drop 1).length := List.length_pos_iff.2 hX
      have h9 := HLN.out
      simp at this ⊢
      omega
    · have h9 := HLN.out
      simp; omega
    · cases X with
      | nil => exact List.Pairwise.nil
      | cons x X => exact List.pairwise_singleton _ _
    · have := HR.out
      rwa [show P ++ X.take 1 ++ X.drop 1 ++ S = P ++ X ++ S from by rw [List.append_assoc P, List.take_append_drop]]
  case round =>
    clear HR
    obtain ⟨i, X1, X2, Y1, rfl, HE, HY, HR⟩ := hrel
    cases X2 with
    | nil =>
      have d1 : decide (i < bn) = false := decide_eq_false (by have := HE.out; have h9 := HLN.out; have h3 := congrArg List.length HE.out.1; simp at h3; omega)
      go_wp2
      go_returns
      refine ⟨rfl, Y1, ⟨by simpa using HR.out⟩, ⟨HY.out.1, ?_, ?_⟩⟩
      · have := HY.out.2
        rwa [show X = X1 from by simpa using HE.out.1]
      · rw [show X = X1 from by simpa using HE.out.1]
        exact HE.out.2.1
    | cons z X2 =>
      have HI : Aside0 (i = P.length + X1.length ∧ i < bn ∧ Y1.length = X1.length ∧ bn ≤ len) := ⟨by have := HE.out; have h9 := HLN.out; have h3 := congrArg List.length HE.out.1; have h4 := HE.out.2.2.1 (by simp); simp at h3; omega⟩
      have d1 : decide (i < bn) = true := decide_eq_true HI.out.2.1
      go_wp2
      clear d1
      go_loopw [9] (fun v9 wq => ∃ (q : Nat) (U V : List It), v9 = .int .i64 (q : Int) ∧ Aside0 (q = P.length + U.length) ∧ Aside0 (Y1 = U ++ V ∧ ∀ v ∈ V, ky z < ky v) ∧ Aside0 (RowAt w wq base g cap (P ++ U ++ z :: (V ++ X2 ++ S)))) (fun v9 _ => (intOf v9).toNat)
      case atStart => exact ⟨i, Y1, [], rfl, ⟨by have := HI.out; omega⟩, ⟨by simp, by simp⟩, ⟨by simpa using HR.out⟩⟩
      case round =>
        clear HR
        obtain ⟨q, U, V, rfl, HQU, HV, HR⟩ := hrel
        have HIB : Aside0 ((i : Int) + 1 < 9223372036854775808) := ⟨by have := HI.out; have := HLN.out; omega⟩
        have HEND : Aside0 (∀ U V, Y1 = U ++ V → (∀ v ∈ V, ky z < ky v) → (∀ u ∈ U, leI u z) → (U ++ z :: V).Pairwise leI ∧ Stb (X1 ++ [z]) (U ++ z :: V) ∧ (U ++ z :: V).length = (X1 ++ [z]).length) := ⟨fun U V e h1 h2 => by
          have h3 := HY.out
          have h4 := congrArg List.length e
          have h5 := HI.out
          rw [e] at h3
          refine ⟨sorted_put h3.1 h2 (fun v hv => by have := h1 v hv; unfold leI; omega), stb_put h3.2 h1, ?_⟩
          simp at h4 ⊢
          omega⟩
        have HX : Aside0 (X = X1 ++ [z] ++ X2) := ⟨by have := HE.out.1; simpa using this⟩
        rcases List.eq_nil_or_concat U with rfl | ⟨U1, u, rfl⟩
        · obtain rfl : q = an := by have := HLN.out; have := HQU.out; simp at this; omega
          have d2 : decide (q < q) = false := decide_eq_false (by omega)
          go_upto_region 4 with (fail)
          go_region
          have hib := HIB.out
          go_wp2
          go_roundw
          case rel => exact ⟨i + 1, X1 ++ [z], X2, z :: V, by go_num, ⟨HX.out, (HEND.out [] V HV.out.1 HV.out.2 (by simp)).2.2, fun _ => by have := HI.out; simp; omega, by have := HI.out; simp; omega, by have := HI.out; omega⟩, ⟨(HEND.out [] V HV.out.1 HV.out.2 (by simp)).1, (HEND.out [] V HV.out.1 HV.out.2 (by simp)).2.1⟩, ⟨by have := HR.out.drew; simpa using this⟩⟩
          case measure => simp [intOf]; have := HI.out; omega
        · simp only [List.concat_eq_append] at HV HR HQU
          have HT : Aside0 (RowAt w wr base g cap ((P ++ U1) ++ u :: ([] ++ z :: (V ++ X2 ++ S)))) := ⟨by have := HR.out; simpa using this⟩
          obtain ⟨s1, s2, s3⟩ := swap_split (P ++ U1) [] (V ++ X2 ++ S) u z
          obtain ⟨p, hp⟩ : ∃ p, (P ++ U1).length = p := ⟨_, rfl⟩
          have hq : p + 1 = q := by have := HQU.out; simp at this hp; omega
          have HPQ : Aside0 (p + 1 = q ∧ p = P.length + U1.length ∧ an < q ∧ q < len ∧ p < len) := ⟨by have h1 := HI.out; have h2 := HLN.out; have h3 := congrArg List.length HV.out.1; simp at h3 hp ⊢; omega⟩
          have HS : Aside0 (∀ W, RowAt w W base g cap ((P ++ U1) ++ u :: ([] ++ z :: (V ++ X2 ++ S))) → RowAt w (set4 (set4 W g q u) g p z).drew base g cap ((P ++ U1) ++ z :: ([] ++ u :: (V ++ X2 ++ S)))) := ⟨fun W hW => by have := Two.down hW; simpa [hp, hq] using this⟩
          rw [hp] at s1 s2
          simp only [List.length_nil, Nat.add_zero, hq] at s2
          obtain ⟨a0, a1, a2, a3⟩ := HT.out.at_ s1
          obtain ⟨b0, b1, b2, b3⟩ := HT.out.at_ s2
          have HS1 := Aside0.mk s1
          have HS2 := Aside0.mk s2
          clear s1 s2 s3
          have d2 : decide (an < q) = true := decide_eq_true HPQ.out.2.2.1
          have w1 : IntKind.i64.wrap ((q : Int) - 1) = (p : Int) := by have := HLN.out; have := HPQ.out; exact (IntWalk.i64_in _ (by omega)).trans (by omega)
          have k1 : p < len := HPQ.out.2.2.2.2
          have k2 : q < len := HPQ.out.2.2.2.1
          have HQP := Aside0.mk hq
          clear hp hq
          by_cases hlt : ky z < ky u
          · have d3 : decide (cmpN (ky z) (ky u) < 0) = true := decide_eq_true ((cmpN_neg _ _).2 hlt)
            have HLT := Aside0.mk hlt
            clear hlt
            go_upto_region 4 with (fail)
            go_region_held3 (fun w' => ((w'.cell? ⟨g, p * 4, none⟩ = some (.int .u64 u.x.f0) ∧ w'.cell? ⟨g, p * 4 + 1, none⟩ = some (.int .i64 u.x.f1.f0)) ∧ w'.cell? ⟨g, p * 4 + 2, none⟩ = some (.slice u.A u.x.f1.f1.length u.c) ∧ w'.cell? ⟨g, p * 4 + 3, none⟩ = some (.string u.x.f1.f2)) ∧ (w'.cell? ⟨g, q * 4, none⟩ = some (.int .u64 z.x.f0) ∧ w'.cell? ⟨g, q * 4 + 1, none⟩ = some (.int .i64 z.x.f1.f0)) ∧ w'.cell? ⟨g, q * 4 + 2, none⟩ = some (.slice z.A z.x.f1.f1.length z.c) ∧ w'.cell? ⟨g, q * 4 + 3, none⟩ = some (.string z.x.f1.f2)) (first | go_keep | exact ⟨⟨⟨i0, i1⟩, i2, i3⟩, ⟨j0, j1⟩, j2, j3⟩) (first | (go_at_call 49; (with_reducible refine (byid_calls z u _).mono ?_); rintro e w5 ⟨rfl, hb⟩; have RX : Aside0 (RowAt w w5 base g cap ((P ++ U1) ++ u :: ([] ++ z :: (V ++ X2 ++ S)))) := ⟨HT.out.drew.below hb⟩; clear hb; obtain ⟨i0, i1, i2, i3⟩ := RX.out.at_ HS1.out; obtain ⟨j0, j1, j2, j3⟩ := RX.out.at_ HS2.out))
            clear a0 a1 a2 a3 b0 b1 b2 b3
            have z0 := RX.out.fr (by simp; omega)
            have n1 : ¬ q = p := by have := HQP.out; omega
            have n2 : ¬ p = q := by omega
            have n_00 : ¬ p * 4 = q * 4 := by have := HQP.out; omega
            have m_00 : ¬ q * 4 = p * 4 := by have := HQP.out; omega
            have n_01 : ¬ p * 4 = q * 4 + 1 := by have := HQP.out; omega
            have m_01 : ¬ q * 4 + 1 = p * 4 := by have := HQP.out; omega
            have n_02 : ¬ p * 4 = q * 4 + 2 := by have := HQP.out; omega
            have m_02 : ¬ q * 4 + 2 = p * 4 := by have := HQP.out; omega
            have n_03 : ¬ p * 4 = q * 4 + 3 := by have := HQP.out; omega
            have m_03 : ¬ q * 4 + 3 = p * 4 := by have := HQP.out; omega
            have n_10 : ¬ p * 4 + 1 = q * 4 := by have := HQP.out; omega
            have m_10 : ¬ q * 4 = p * 4 + 1 := by have := HQP.out; omega
            have n_11 : ¬ p * 4 + 1 = q * 4 + 1 := by have := HQP.out; omega
            have m_11 : ¬ q * 4 + 1 = p * 4 + 1 := by have := HQP.out; omega
            have n_12 : ¬ p * 4 + 1 = q * 4 + 2 := by have := HQP.out; omega
            have m_12 : ¬ q * 4 + 2 = p * 4 + 1 := by have := HQP.out; omega
            have n_13 : ¬ p * 4 + 1 = q * 4 + 3 := by have := HQP.out; omega
            have m_13 : ¬ q * 4 + 3 = p * 4 + 1 := by have := HQP.out; omega
            have n_20 : ¬ p * 4 + 2 = q * 4 := by have := HQP.out; omega
            have m_20 : ¬ q * 4 = p * 4 + 2 := by have := HQP.out; omega
            have n_21 : ¬ p * 4 + 2 = q * 4 + 1 := by have := HQP.out; omega
            have m_21 : ¬ q * 4 + 1 = p * 4 + 2 := by have := HQP.out; omega
            have n_22 : ¬ p * 4 + 2 = q * 4 + 2 := by have := HQP.out; omega
            have m_22 : ¬ q * 4 + 2 = p * 4 + 2 := by have := HQP.out; omega
            have n_23 : ¬ p * 4 + 2 = q * 4 + 3 := by have := HQP.out; omega
            have m_23 : ¬ q * 4 + 3 = p * 4 + 2 := by have := HQP.out; omega
            have n_30 : ¬ p * 4 + 3 = q * 4 := by have := HQP.out; omega
            have m_30 : ¬ q * 4 = p * 4 + 3 := by have := HQP.out; omega
            have n_31 : ¬ p * 4 + 3 = q * 4 + 1 := by have := HQP.out; omega
            have m_31 : ¬ q * 4 + 1 = p * 4 + 3 := by have := HQP.out; omega
            have n_32 : ¬ p * 4 + 3 = q * 4 + 2 := by have := HQP.out; omega
            have m_32 : ¬ q * 4 + 2 = p * 4 + 3 := by have := HQP.out; omega
            have n_33 : ¬ p * 4 + 3 = q * 4 + 3 := by have := HQP.out; omega
            have m_33 : ¬ q * 4 + 3 = p * 4 + 3 := by have := HQP.out; omega
            go_upto_region 6 with (fail)
            go_region
            go_wp2
            go_roundw
            case rel => exact ⟨p, U1, u :: V, by go_num, ⟨HPQ.out.2.1⟩, ⟨by rw [HV.out.1]; simp, fun v hv => by rcases List.mem_cons.1 hv with rfl | hv; exact HLT.out; exact HV.out.2 v hv⟩, ⟨by have := HS.out _ RX.out; simp only [set4] at this; simpa using this⟩⟩
            case measure => simp [intOf]; have := HPQ.out; have := HQP.out; omega
          · have d3 : decide (cmpN (ky z) (ky u) < 0) = false := decide_eq_false (fun h => hlt ((cmpN_neg _ _).1 h))
            have HLT := Aside0.mk hlt
            clear hlt
            go_upto_region 4 with (fail)
            go_region_held3 (fun w' => ((w'.cell? ⟨g, p * 4, none⟩ = some (.int .u64 u.x.f0) ∧ w'.cell? ⟨g, p * 4 + 1, none⟩ = some (.int .i64 u.x.f1.f0)) ∧ w'.cell? ⟨g, p * 4 + 2, none⟩ = some (.slice u.A u.x.f1.f1.length u.c) ∧ w'.cell? ⟨g, p * 4 + 3, none⟩ = some (.string u.x.f1.f2)) ∧ (w'.cell? ⟨g, q * 4, none⟩ = some (.int .u64 z.x.f0) ∧ w'.cell? ⟨g, q * 4 + 1, none⟩ = some (.int .i64 z.x.f1.f0)) ∧ w'.cell? ⟨g, q * 4 + 2, none⟩ = some (.slice z.A z.x.f1.f1.length z.c) ∧ w'.cell? ⟨g, q * 4 + 3, none⟩ = some (.string z.x.f1.f2)) (first | go_keep | exact ⟨⟨⟨i0, i1⟩, i2, i3⟩, ⟨j0, j1⟩, j2, j3⟩) (first | (go_at_call 49; (with_reducible refine (byid_calls z u _).mono ?_); rintro e w5 ⟨rfl, hb⟩; have RX : Aside0 (RowAt w w5 base g cap ((P ++ U1) ++ u :: ([] ++ z :: (V ++ X2 ++ S)))) := ⟨HT.out.drew.below hb⟩; clear hb; obtain ⟨i0, i1, i2, i3⟩ := RX.out.at_ HS1.out; obtain ⟨j0, j1, j2, j3⟩ := RX.out.at_ HS2.out))
            have hib := HIB.out
            go_wp2
            have HLE : Aside0 (∀ x ∈ U1 ++ [u], leI x z) := ⟨fun x hx => by
              have h1 := HY.out.1
              rw [HV.out.1] at h1
              have h2 := (List.pairwise_append.1 (List.pairwise_append.1 h1).1).2.2
              have h3 := HLT.out
              unfold leI at h2 ⊢
              rcases List.mem_append.1 hx with hx | hx
              · have := h2 x hx u (by simp); omega
              · simp only [List.mem_singleton] at hx; subst hx; omega⟩
            go_roundw
            case rel => exact ⟨i + 1, X1 ++ [z], X2, (U1 ++ [u]) ++ z :: V, by go_num, ⟨HX.out, (HEND.out _ V HV.out.1 HV.out.2 HLE.out).2.2, fun _ => by have := HI.out; simp; omega, by have := HI.out; simp; omega, by have := HI.out; omega⟩, ⟨(HEND.out _ V HV.out.1 HV.out.2 HLE.out).1, (HEND.out _ V HV.out.1 HV.out.2 HLE.out).2.1⟩, ⟨by have := RX.out; simpa using this⟩⟩
            case measure => simp [intOf]; have := HI.out; omega
end Go.Proofs.Ytncbnejldlfbdaa.PIdx
