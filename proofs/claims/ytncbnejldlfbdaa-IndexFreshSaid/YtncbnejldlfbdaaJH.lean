/- What slices.symMergeCmpFunc leaves where the second row is one item; no condition. -/
import Derived.Test.YtncbnejldlfbdaaJG
namespace Go.Proofs.Ytncbnejldlfbdaa.PIdx
open Go.RowKit Go.Proofs.YtncbnejldlfbdaaW.PrintWords Go.Proofs.YtncbnejldlfbdaaW.PrintLast Go.Proofs.YtncbnejldlfbdaaW.PrintMore
open Go.Proofs.Ytncbnejldlfbdaa.PIndexFresh
open Go.Proofs.Ytncbnejldlfbdaa.PHeap (Row)
set_option linter.unusedVariables false
set_option linter.unusedSimpArgs false
theorem at_L {P L Z : List It} {q : Nat} (h : q < L.length) : (P ++ (L ++ Z))[P.length + q]? = some (gi L q) := by
  rw [List.getElem?_append_right (by omega), show P.length + q - P.length = q from by omega, List.getElem?_append_left h, gi_some h]
set_option maxHeartbeats 40000000 in
set_option maxRecDepth 1000000 in
theorem sym_b (base g cap : Nat) (P L S : List It) (y : It) (a m b : Int) (len : Nat) (w : World) (h : RowAt w w base g cap (P ++ (L ++ y :: S))) (hL : L.Pairwise leI) (ha : a = (P.length : Int)) (hm : m = ((P.length + L.length : Nat) : Int)) (hb : b = ((P.length + L.length + 1 : Nat) : Int)) (hlen : len = P.length + L.length + 1 + S.length) (hbig : len < 4611686018427387904) (hl2 : 2 ≤ L.length) :
    Calls Try.prog 70 #[.slice (some ⟨g, 0, none⟩) len cap, .int .i64 a, .int .i64 m, .int .i64 b, FV] w (Merged w base g cap P L [y] S) := by
  have hu54 := Try.underlying54
  have hu65 := Try.underlying65
  have HR := Aside0.mk h
  have HSL := Aside0.mk hL
  obtain ⟨an, rfl⟩ : ∃ mn : Nat, a = (mn : Int) := ⟨_, ha⟩
  obtain ⟨mn, rfl⟩ : ∃ mn : Nat, m = (mn : Int) := ⟨_, hm⟩
  obtain ⟨bn, rfl⟩ : ∃ mn : Nat, b = (mn : Int) := ⟨_, hb⟩
  have HLN : Aside0 (an = P.length ∧ mn = P.length + L.length ∧ bn = P.length + L.length + 1 ∧ len = P.length + L.length + 1 + S.length ∧ len < 4611686018427387904 ∧ 2 ≤ L.length) := ⟨by omega⟩
  obtain ⟨df, hdf⟩ : ∃ df : Nat, mn - an = df := ⟨_, rfl⟩
  have d0 : (mn : Int) - (an : Int) = (df : Int) := by omega
  have d0b : (df : Int) < 9223372036854775808 := by omega
  have d0n : ¬ (df : Int) = 1 := by omega
  have d0e : ((df : Int) == 1) = false := beq_eq_false_iff_ne.2 d0n
  have d0m : ¬ df = 1 := by omega
  have s0 : IntKind.i64.wrap ((mn : Int) - (an : Int)) = (df : Int) := by rw [d0]; exact IntWalk.i64_in _ (by omega)
  have t0 : (bn : Int) - (mn : Int) = 1 := by omega
  have s1 : IntKind.i64.wrap ((bn : Int) - (mn : Int)) = 1 := by rw [t0]; rfl
  clear h hL ha hm hb hlen hbig hl2 hdf
  go_enter Try.func70, Try.ntmps70
  go_wp2
  clear d0 s0 d0b d0n d0e d0m t0 s1
  go_loopw [14, 15] (fun v14 v15 wr => ∃ (i j : Nat), v14 = .int .i64 (i : Int) ∧ v15 = .int .i64 (j : Int) ∧ Aside0 (an ≤ i ∧ i ≤ j ∧ j ≤ mn) ∧ Aside0 ((∀ q, q < i - an → ky (gi L q) ≤ ky y) ∧ (∀ q, j - an ≤ q → q < L.length → ky y < ky (gi L q))) ∧ Aside0 (RowAt w wr base g cap (P ++ (L ++ y :: S)))) (fun v14 v15 _ => (intOf v15).toNat - (intOf v14).toNat)
  case atStart => exact ⟨an, mn, rfl, rfl, ⟨by have := HLN.out; omega⟩, ⟨fun q hq => by omega, fun q h1 h2 => by have := HLN.out; omega⟩, HR⟩
  case round =>
    clear HR
    obtain ⟨i, j, rfl, rfl, HI, HK, HR⟩ := hrel
    by_cases hij : i < j
    · have d1 : decide (i < j) = true := decide_eq_true hij
      have e1 : (i : Int) + (j : Int) < 9223372036854775808 := by have := HI.out; have := HLN.out; omega
      have e2 : (0 : Int) ≤ (i : Int) + (j : Int) := by omega
      go_upto_region 17 with (fail)
      obtain ⟨h, hh⟩ : ∃ h : Nat, (i + j) / 2 = h := ⟨_, rfl⟩
      have eh : ((i : Int) + (j : Int)) / 2 = (h : Int) := by omega
      have HH : Aside0 (i ≤ h ∧ h < j) := ⟨by omega⟩
      rw [eh]
      clear eh e1 e2 d1 hij hh
      obtain ⟨q, hq⟩ : ∃ q, h - an = q := ⟨_, rfl⟩
      have HQ : Aside0 (h = P.length + q ∧ q < L.length) := ⟨by have := HH.out; have := HI.out; have := HLN.out; omega⟩
      have HS1 : Aside0 ((P ++ (L ++ y :: S))[h]? = some (gi L q)) := ⟨by rw [HQ.out.1]; exact at_L HQ.out.2⟩
      have HS2 : Aside0 ((P ++ (L ++ y :: S))[mn]? = some y) := ⟨by rw [HLN.out.2.1, ← List.append_assoc, show P.length + L.length = (P ++ L).length from by simp]; simp⟩
      obtain ⟨a0, a1, a2, a3⟩ := HR.out.at_ HS1.out
      obtain ⟨b0, b1, b2, b3⟩ := HR.out.at_ HS2.out
      have k1 : h < len := by have := HQ.out; have := HLN.out; omega
      have k2 : mn < len := by have := HLN.out; omega
      clear hq
      by_cases hlt : ky y < ky (gi L q)
      · have d3 : decide (cmpN (ky y) (ky (gi L q)) < 0) = true := decide_eq_true ((cmpN_neg _ _).2 hlt)
        have HLT := Aside0.mk hlt
        clear hlt
        go_region_held3 (fun w' => ((w'.cell? ⟨g, h * 4, none⟩ = some (.int .u64 (gi L q).x.f0) ∧ w'.cell? ⟨g, h * 4 + 1, none⟩ = some (.int .i64 (gi L q).x.f1.f0)) ∧ w'.cell? ⟨g, h * 4 + 2, none⟩ = some (.slice (gi L q).A (gi L q).x.f1.f1.length (gi L q).c) ∧ w'.cell? ⟨g, h * 4 + 3, none⟩ = some (.string (gi L q).x.f1.f2)) ∧ (w'.cell? ⟨g, mn * 4, none⟩ = some (.int .u64 y.x.f0) ∧ w'.cell? ⟨g, mn * 4 + 1, none⟩ = some (.int .i64 y.x.f1.f0)) ∧ w'.cell? ⟨g, mn * 4 + 2, none⟩ = some (.slice y.A y.x.f1.f1.length y.c) ∧ w'.cell? ⟨g, mn * 4 + 3, none⟩ = some (.string y.x.f1.f2)) (first | go_keep | exact ⟨⟨⟨i0, i1⟩, i2, i3⟩, ⟨j0, j1⟩, j2, j3⟩) (first | (go_at_call 49; (with_reducible refine (byid_calls y (gi L q) _).mono ?_); rintro e w5 ⟨rfl, hb⟩; have RX : Aside0 (RowAt w w5 base g cap (P ++ (L ++ y :: S))) := ⟨HR.out.drew.below hb⟩; clear hb; obtain ⟨i0, i1, i2, i3⟩ := RX.out.at_ HS1.out; obtain ⟨j0, j1, j2, j3⟩ := RX.out.at_ HS2.out))
        go_wp2
        go_roundw
        case rel => exact ⟨i, h, rfl, rfl, ⟨by have := HH.out; have := HI.out; omega⟩, ⟨HK.out.1, fun t ht h2 => by have := sorted_gi HSL.out (i := q) (j := t) (by have := HQ.out; have := HLN.out; omega) h2; have := HLT.out; omega⟩, RX⟩
        case measure => simp [intOf]; have := HH.out; omega
      · have d3 : decide (cmpN (ky y) (ky (gi L q)) < 0) = false := decide_eq_false (fun h => hlt ((cmpN_neg _ _).1 h))
        have HLT := Aside0.mk hlt
        clear hlt
        go_region_held3 (fun w' => ((w'.cell? ⟨g, h * 4, none⟩ = some (.int .u64 (gi L q).x.f0) ∧ w'.cell? ⟨g, h * 4 + 1, none⟩ = some (.int .i64 (gi L q).x.f1.f0)) ∧ w'.cell? ⟨g, h * 4 + 2, none⟩ = some (.slice (gi L q).A (gi L q).x.f1.f1.length (gi L q).c) ∧ w'.cell? ⟨g, h * 4 + 3, none⟩ = some (.string (gi L q).x.f1.f2)) ∧ (w'.cell? ⟨g, mn * 4, none⟩ = some (.int .u64 y.x.f0) ∧ w'.cell? ⟨g, mn * 4 + 1, none⟩ = some (.int .i64 y.x.f1.f0)) ∧ w'.cell? ⟨g, mn * 4 + 2, none⟩ = some (.slice y.A y.x.f1.f1.length y.c) ∧ w'.cell? ⟨g, mn * 4 + 3, none⟩ = some (.string y.x.f1.f2)) (first | go_keep | exact ⟨⟨⟨i0, i1⟩, i2, i3⟩, ⟨j0, j1⟩, j2, j3⟩) (first | (go_at_call 49; (with_reducible refine (byid_calls y (gi L q) _).mono ?_); rintro e w5 ⟨rfl, hb⟩; have RX : Aside0 (RowAt w w5 base g cap (P ++ (L ++ y :: S))) := ⟨HR.out.drew.below hb⟩; clear hb; obtain ⟨i0, i1, i2, i3⟩ := RX.out.at_ HS1.out; obtain ⟨j0, j1, j2, j3⟩ := RX.out.at_ HS2.out))
        have hb1 : (h : Int) + 1 < 9223372036854775808 := by have := HLN.out; omega
        go_wp2
        go_roundw
        case rel => exact ⟨h + 1, j, by go_num, rfl, ⟨by have := HH.out; have := HI.out; omega⟩, ⟨fun t ht => by have := sorted_gi HSL.out (i := t) (j := q) (by have := HQ.out; have := HLN.out; omega) HQ.out.2; have := HLT.out; omega, HK.out.2⟩, RX⟩
        case measure => simp [intOf]; have := HH.out; omega
    · have d1 : decide (i < j) = false := decide_eq_false hij
      obtain rfl : i = j := by have := HI.out; omega
      clear hij
      go_wp2
      go_loopw [17] (fun v17 wq => ∃ (t d : Nat), v17 = .int .i64 (t : Int) ∧ Aside0 (t = an + d ∧ i ≤ t ∧ d ≤ L.length) ∧ Aside0 (RowAt w wq base g cap (P ++ (L.take d ++ y :: (L.drop d ++ S))))) (fun v17 _ => (intOf v17).toNat)
      case atStart => exact ⟨mn, L.length, rfl, ⟨by have := HLN.out; have := HI.out; omega⟩, ⟨by simpa using HR.out⟩⟩
      case round =>
        clear HR
        obtain ⟨q, d, rfl, HT, HR⟩ := hrel
        by_cases htc : i < q
        · have d2 : decide (i < q) = true := decide_eq_true htc
          obtain ⟨d, rfl⟩ : ∃ k, d = k + 1 := ⟨d - 1, by have := HT.out; have := HI.out; omega⟩
          have HD : Aside0 (d < L.length ∧ i < q) := ⟨by have := HT.out; omega⟩
          have HW : Aside0 (RowAt w wr base g cap ((P ++ L.take d) ++ gi L d :: ([] ++ y :: (L.drop (d + 1) ++ S)))) := ⟨by
            have h1 := HR.out
            rw [List.take_succ_eq_append_getElem HD.out.1, ← gi_eq HD.out.1] at h1
            simpa using h1⟩
          obtain ⟨x1, x2, _⟩ := swap_split (P ++ L.take d) [] (L.drop (d + 1) ++ S) (gi L d) y
          have HM := Aside0.mk (Two.down HW.out)
          obtain ⟨t, ht⟩ : ∃ t, an + d = t := ⟨_, rfl⟩
          have hq : t + 1 = q := by have := HT.out; omega
          have HPL : (P ++ L.take d).length = t := by have := HT.out; have := HD.out; have := HLN.out; simp; omega
          rw [HPL] at HM x1 x2
          simp only [List.length_nil, Nat.add_zero, hq] at HM x2
          obtain ⟨a0, a1, a2, a3⟩ := HW.out.at_ x1
          obtain ⟨b0, b1, b2, b3⟩ := HW.out.at_ x2
          have z0 := HW.out.fr (by simp; omega)
          have w1 : IntKind.i64.wrap ((q : Int) - 1) = (t : Int) := by have := HT.out; have := HLN.out; exact (IntWalk.i64_in _ (by omega)).trans (by omega)
          have k1 : t < len := by have := HT.out; have := HLN.out; omega
          have k2 : q < len := by have := HT.out; have := HLN.out; omega
          have n1 : ¬ q = t := by omega
          have n2 : ¬ t = q := by omega
          have HTQ := Aside0.mk hq
          have HTD := Aside0.mk ht
          clear hq htc x1 x2 HPL ht
          have n_00 : ¬ t * 4 = q * 4 := by have := HTQ.out; omega
          have m_00 : ¬ q * 4 = t * 4 := by have := HTQ.out; omega
          have n_01 : ¬ t * 4 = q * 4 + 1 := by have := HTQ.out; omega
          have m_01 : ¬ q * 4 + 1 = t * 4 := by have := HTQ.out; omega
          have n_02 : ¬ t * 4 = q * 4 + 2 := by have := HTQ.out; omega
          have m_02 : ¬ q * 4 + 2 = t * 4 := by have := HTQ.out; omega
          have n_03 : ¬ t * 4 = q * 4 + 3 := by have := HTQ.out; omega
          have m_03 : ¬ q * 4 + 3 = t * 4 := by have := HTQ.out; omega
          have n_10 : ¬ t * 4 + 1 = q * 4 := by have := HTQ.out; omega
          have m_10 : ¬ q * 4 = t * 4 + 1 := by have := HTQ.out; omega
          have n_11 : ¬ t * 4 + 1 = q * 4 + 1 := by have := HTQ.out; omega
          have m_11 : ¬ q * 4 + 1 = t * 4 + 1 := by have := HTQ.out; omega
          have n_12 : ¬ t * 4 + 1 = q * 4 + 2 := by have := HTQ.out; omega
          have m_12 : ¬ q * 4 + 2 = t * 4 + 1 := by have := HTQ.out; omega
          have n_13 : ¬ t * 4 + 1 = q * 4 + 3 := by have := HTQ.out; omega
          have m_13 : ¬ q * 4 + 3 = t * 4 + 1 := by have := HTQ.out; omega
          have n_20 : ¬ t * 4 + 2 = q * 4 := by have := HTQ.out; omega
          have m_20 : ¬ q * 4 = t * 4 + 2 := by have := HTQ.out; omega
          have n_21 : ¬ t * 4 + 2 = q * 4 + 1 := by have := HTQ.out; omega
          have m_21 : ¬ q * 4 + 1 = t * 4 + 2 := by have := HTQ.out; omega
          have n_22 : ¬ t * 4 + 2 = q * 4 + 2 := by have := HTQ.out; omega
          have m_22 : ¬ q * 4 + 2 = t * 4 + 2 := by have := HTQ.out; omega
          have n_23 : ¬ t * 4 + 2 = q * 4 + 3 := by have := HTQ.out; omega
          have m_23 : ¬ q * 4 + 3 = t * 4 + 2 := by have := HTQ.out; omega
          have n_30 : ¬ t * 4 + 3 = q * 4 := by have := HTQ.out; omega
          have m_30 : ¬ q * 4 = t * 4 + 3 := by have := HTQ.out; omega
          have n_31 : ¬ t * 4 + 3 = q * 4 + 1 := by have := HTQ.out; omega
          have m_31 : ¬ q * 4 + 1 = t * 4 + 3 := by have := HTQ.out; omega
          have n_32 : ¬ t * 4 + 3 = q * 4 + 2 := by have := HTQ.out; omega
          have m_32 : ¬ q * 4 + 2 = t * 4 + 3 := by have := HTQ.out; omega
          have n_33 : ¬ t * 4 + 3 = q * 4 + 3 := by have := HTQ.out; omega
          have m_33 : ¬ q * 4 + 3 = t * 4 + 3 := by have := HTQ.out; omega
          go_upto_region 23 with (fail)
          go_region
          go_wp2
          go_roundw
          case rel => exact ⟨t, d, by have := HTQ.out; go_num, ⟨by have := HTQ.out; have := HT.out; have := HD.out; have := HTD.out; omega⟩, ⟨by
            have h1 := HM.out
            simp only [set4] at h1
            rw [List.drop_eq_getElem_cons HD.out.1, ← gi_eq HD.out.1]
            simpa using h1⟩⟩
          case measure => simp [intOf]; have := HTQ.out; omega
        · have d2 : decide (i < q) = false := decide_eq_false htc
          have hd : d = i - an := by have := HT.out; omega
          go_wp2
          go_returns
          have ho := one_right HSL.out (y := y) (k := d) HT.out.2.2 (by rw [hd]; exact HK.out.1) (by rw [hd]; exact HK.out.2)
          exact ⟨rfl, L.take d ++ y :: L.drop d, ⟨by have := HR.out; simpa using this⟩, ⟨ho.1, ho.2, by have := HT.out; simp; omega⟩⟩
end Go.Proofs.Ytncbnejldlfbdaa.PIdx
