/- What slices.symMergeCmpFunc leaves where the first row is one item; no condition. -/
import Derived.Test.YtncbnejldlfbdaaJF
namespace Go.Proofs.Ytncbnejldlfbdaa.PIdx
open Go.RowKit Go.Proofs.YtncbnejldlfbdaaW.PrintWords Go.Proofs.YtncbnejldlfbdaaW.PrintLast Go.Proofs.YtncbnejldlfbdaaW.PrintMore
open Go.Proofs.Ytncbnejldlfbdaa.PIndexFresh
open Go.Proofs.Ytncbnejldlfbdaa.PHeap (Row)
set_option linter.unusedVariables false
set_option linter.unusedSimpArgs false
def Merged (w : World) (base g cap : Nat) (P L R S : List It) (e : Ending) (w' : World) : Prop :=
  e = .returned (.tuple #[]) ∧ ∃ M, Aside0 (RowAt w w' base g cap (P ++ M ++ S)) ∧ Aside0 (M.Pairwise leI ∧ Stb (L ++ R) M ∧ M.length = L.length + R.length)
theorem at_R {P R S : List It} {x : It} {q : Nat} (h : q < R.length) : (P ++ x :: (R ++ S))[P.length + 1 + q]? = some (gi R q) := by
  rw [List.getElem?_append_right (by omega), show P.length + 1 + q - P.length = q + 1 from by omega, List.getElem?_cons_succ, List.getElem?_append_left h, gi_some h]
set_option maxHeartbeats 40000000 in
set_option maxRecDepth 1000000 in
theorem sym_a (base g cap : Nat) (P R S : List It) (x : It) (a m b : Int) (len : Nat) (w : World) (h : RowAt w w base g cap (P ++ x :: (R ++ S))) (hR : R.Pairwise leI) (ha : a = (P.length : Int)) (hm : m = ((P.length + 1 : Nat) : Int)) (hb : b = ((P.length + 1 + R.length : Nat) : Int)) (hlen : len = P.length + 1 + R.length + S.length) (hbig : len < 4611686018427387904) :
    Calls Try.prog 70 #[.slice (some ⟨g, 0, none⟩) len cap, .int .i64 a, .int .i64 m, .int .i64 b, FV] w (Merged w base g cap P [x] R S) := by
  have hu54 := Try.underlying54
  have hu65 := Try.underlying65
  have HR := Aside0.mk h
  have HSR := Aside0.mk hR
  obtain ⟨an, rfl⟩ : ∃ mn : Nat, a = (mn : Int) := ⟨_, ha⟩
  obtain ⟨mn, rfl⟩ : ∃ mn : Nat, m = (mn : Int) := ⟨_, hm⟩
  obtain ⟨bn, rfl⟩ : ∃ mn : Nat, b = (mn : Int) := ⟨_, hb⟩
  have HLN : Aside0 (an = P.length ∧ mn = P.length + 1 ∧ bn = P.length + 1 + R.length ∧ len = P.length + 1 + R.length + S.length ∧ len < 4611686018427387904) := ⟨by omega⟩
  have d0 : (mn : Int) - (an : Int) = 1 := by omega
  have s0 : IntKind.i64.wrap ((mn : Int) - (an : Int)) = 1 := by rw [d0]; rfl
  clear h hR ha hm hb hlen hbig
  go_enter Try.func70, Try.ntmps70
  go_wp2
  clear d0 s0
  go_loopw [10, 11] (fun v10 v11 wr => ∃ (i j : Nat), v10 = .int .i64 (i : Int) ∧ v11 = .int .i64 (j : Int) ∧ Aside0 (mn ≤ i ∧ i ≤ j ∧ j ≤ bn) ∧ Aside0 ((∀ q, q < i - mn → ky (gi R q) < ky x) ∧ (∀ q, j - mn ≤ q → q < R.length → ky x ≤ ky (gi R q))) ∧ Aside0 (RowAt w wr base g cap (P ++ x :: (R ++ S)))) (fun v10 v11 _ => (intOf v11).toNat - (intOf v10).toNat)
  case atStart => exact ⟨mn, bn, rfl, rfl, ⟨by have := HLN.out; omega⟩, ⟨fun q hq => by omega, fun q h1 h2 => by have := HLN.out; omega⟩, HR⟩
  case round =>
    clear HR
    obtain ⟨i, j, rfl, rfl, HI, HK, HR⟩ := hrel
    by_cases hij : i < j
    · have d1 : decide (i < j) = true := decide_eq_true hij
      have e1 : (i : Int) + (j : Int) < 9223372036854775808 := by have := HI.out; have := HLN.out; omega
      have e2 : (0 : Int) ≤ (i : Int) + (j : Int) := by omega
      go_upto_region 5 with (fail)
      obtain ⟨h, hh⟩ : ∃ h : Nat, (i + j) / 2 = h := ⟨_, rfl⟩
      have eh : ((i : Int) + (j : Int)) / 2 = (h : Int) := by omega
      have HH : Aside0 (i ≤ h ∧ h < j) := ⟨by omega⟩
      rw [eh]
      clear eh e1 e2 d1 hij hh
      obtain ⟨q, hq⟩ : ∃ q, h - mn = q := ⟨_, rfl⟩
      have HQ : Aside0 (h = P.length + 1 + q ∧ q < R.length) := ⟨by have := HH.out; have := HI.out; have := HLN.out; omega⟩
      have HS1 : Aside0 ((P ++ x :: (R ++ S))[h]? = some (gi R q)) := ⟨by rw [HQ.out.1]; exact at_R HQ.out.2⟩
      have HS2 : Aside0 ((P ++ x :: (R ++ S))[an]? = some x) := ⟨by rw [HLN.out.1]; simp⟩
      obtain ⟨a0, a1, a2, a3⟩ := HR.out.at_ HS1.out
      obtain ⟨b0, b1, b2, b3⟩ := HR.out.at_ HS2.out
      have k1 : h < len := by have := HQ.out; have := HLN.out; omega
      have k2 : an < len := by have := HLN.out; omega
      clear hq
      by_cases hlt : ky (gi R q) < ky x
      · have d3 : decide (cmpN (ky (gi R q)) (ky x) < 0) = true := decide_eq_true ((cmpN_neg _ _).2 hlt)
        have HLT := Aside0.mk hlt
        clear hlt
        go_region_held3 (fun w' => ((w'.cell? ⟨g, h * 4, none⟩ = some (.int .u64 (gi R q).x.f0) ∧ w'.cell? ⟨g, h * 4 + 1, none⟩ = some (.int .i64 (gi R q).x.f1.f0)) ∧ w'.cell? ⟨g, h * 4 + 2, none⟩ = some (.slice (gi R q).A (gi R q).x.f1.f1.length (gi R q).c) ∧ w'.cell? ⟨g, h * 4 + 3, none⟩ = some (.string (gi R q).x.f1.f2)) ∧ (w'.cell? ⟨g, an * 4, none⟩ = some (.int .u64 x.x.f0) ∧ w'.cell? ⟨g, an * 4 + 1, none⟩ = some (.int .i64 x.x.f1.f0)) ∧ w'.cell? ⟨g, an * 4 + 2, none⟩ = some (.slice x.A x.x.f1.f1.length x.c) ∧ w'.cell? ⟨g, an * 4 + 3, none⟩ = some (.string x.x.f1.f2)) (first | go_keep | exact ⟨⟨⟨i0, i1⟩, i2, i3⟩, ⟨j0, j1⟩, j2, j3⟩) (first | (go_at_call 49; (with_reducible refine (byid_calls (gi R q) x _).mono ?_); rintro e w5 ⟨rfl, hb⟩; have RX : Aside0 (RowAt w w5 base g cap (P ++ x :: (R ++ S))) := ⟨HR.out.drew.below hb⟩; clear hb; obtain ⟨i0, i1, i2, i3⟩ := RX.out.at_ HS1.out; obtain ⟨j0, j1, j2, j3⟩ := RX.out.at_ HS2.out))
        have hb1 : (h : Int) + 1 < 9223372036854775808 := by have := HLN.out; omega
        go_wp2
        go_roundw
        case rel => exact ⟨h + 1, j, by go_num, rfl, ⟨by have := HH.out; have := HI.out; omega⟩, ⟨fun t ht => by have := sorted_gi HSR.out (i := t) (j := q) (by have := HQ.out; have := HLN.out; omega) HQ.out.2; have := HLT.out; omega, HK.out.2⟩, RX⟩
        case measure => simp [intOf]; have := HH.out; omega
      · have d3 : decide (cmpN (ky (gi R q)) (ky x) < 0) = false := decide_eq_false (fun h => hlt ((cmpN_neg _ _).1 h))
        have HLT := Aside0.mk hlt
        clear hlt
        go_region_held3 (fun w' => ((w'.cell? ⟨g, h * 4, none⟩ = some (.int .u64 (gi R q).x.f0) ∧ w'.cell? ⟨g, h * 4 + 1, none⟩ = some (.int .i64 (gi R q).x.f1.f0)) ∧ w'.cell? ⟨g, h * 4 + 2, none⟩ = some (.slice (gi R q).A (gi R q).x.f1.f1.length (gi R q).c) ∧ w'.cell? ⟨g, h * 4 + 3, none⟩ = some (.string (gi R q).x.f1.f2)) ∧ (w'.cell? ⟨g, an * 4, none⟩ = some (.int .u64 x.x.f0) ∧ w'.cell? ⟨g, an * 4 + 1, none⟩ = some (.int .i64 x.x.f1.f0)) ∧ w'.cell? ⟨g, an * 4 + 2, none⟩ = some (.slice x.A x.x.f1.f1.length x.c) ∧ w'.cell? ⟨g, an * 4 + 3, none⟩ = some (.string x.x.f1.f2)) (first | go_keep | exact ⟨⟨⟨i0, i1⟩, i2, i3⟩, ⟨j0, j1⟩, j2, j3⟩) (first | (go_at_call 49; (with_reducible refine (byid_calls (gi R q) x _).mono ?_); rintro e w5 ⟨rfl, hb⟩; have RX : Aside0 (RowAt w w5 base g cap (P ++ x :: (R ++ S))) := ⟨HR.out.drew.below hb⟩; clear hb; obtain ⟨i0, i1, i2, i3⟩ := RX.out.at_ HS1.out; obtain ⟨j0, j1, j2, j3⟩ := RX.out.at_ HS2.out))
        go_wp2
        go_roundw
        case rel => exact ⟨i, h, rfl, rfl, ⟨by have := HH.out; have := HI.out; omega⟩, ⟨HK.out.1, fun t ht h2 => by have := sorted_gi HSR.out (i := q) (j := t) (by have := HQ.out; have := HLN.out; omega) h2; have := HLT.out; omega⟩, RX⟩
        case measure => simp [intOf]; have := HH.out; omega
    · have d1 : decide (i < j) = false := decide_eq_false hij
      obtain rfl : i = j := by have := HI.out; omega
      obtain ⟨c, hc⟩ : ∃ c, i - 1 = c := ⟨_, rfl⟩
      have HC : Aside0 (i = c + 1 ∧ an ≤ c ∧ c - an ≤ R.length ∧ mn = an + 1 ∧ c < len) := ⟨by have := HI.out; have := HLN.out; omega⟩
      have HK2 : Aside0 ((∀ q, q < c - an → ky (gi R q) < ky x) ∧ (∀ q, c - an ≤ q → q < R.length → ky x ≤ ky (gi R q))) := ⟨by have h1 := HK.out; rw [show i - mn = c - an from by have := HC.out; omega] at h1; exact h1⟩
      have s1 : IntKind.i64.wrap ((i : Int) - 1) = (c : Int) := by have := HC.out; have := HLN.out; exact (IntWalk.i64_in _ (by omega)).trans (by omega)
      have s2 : (i : Int) - 1 = (c : Int) := by have := HC.out; omega
      have hcb : (c : Int) < 9223372036854775808 := by have := HC.out; have := HLN.out; omega
      clear hc hij
      go_wp2
      go_loopw [13] (fun v13 wq => ∃ (t d : Nat), v13 = .int .i64 (t : Int) ∧ Aside0 (t = an + d ∧ t ≤ c) ∧ Aside0 (RowAt w wq base g cap (P ++ (R.take d ++ x :: (R.drop d ++ S))))) (fun v13 _ => c - (intOf v13).toNat)
      case atStart => exact ⟨an, 0, rfl, ⟨by have := HC.out; omega⟩, ⟨by simpa using HR.out⟩⟩
      case round =>
        clear HR
        obtain ⟨t, d, rfl, HT, HR⟩ := hrel
        by_cases htc : t < c
        · have d2 : decide (t < c) = true := decide_eq_true htc
          have HD : Aside0 (d < R.length ∧ t < c) := ⟨by have := HT.out; have := HC.out; omega⟩
          have HW : Aside0 (RowAt w wr base g cap ((P ++ R.take d) ++ x :: ([] ++ gi R d :: (R.drop (d + 1) ++ S)))) := ⟨by
            have h1 := HR.out
            rw [List.drop_eq_getElem_cons HD.out.1, ← gi_eq HD.out.1] at h1
            simpa using h1⟩
          have HM := Aside0.mk (Two.mk' HW.out)
          have HPL : Aside0 ((P ++ R.take d).length = t) := ⟨by have := HT.out; have := HD.out; have := HLN.out; simp; omega⟩
          obtain ⟨q, hq⟩ : ∃ q, t + 1 = q := ⟨_, rfl⟩
          rw [HPL.out] at HM
          simp only [List.length_nil, Nat.add_zero, hq] at HM
          obtain ⟨a0, a1, a2, a3⟩ := HW.out.at_ HM.out.hp
          obtain ⟨b0, b1, b2, b3⟩ := HW.out.at_ HM.out.hq
          have z0 := HW.out.fr (by simp; omega)
          have w1 : IntKind.i64.wrap ((t : Int) + 1) = (q : Int) := by have := HC.out; have := HLN.out; exact (IntWalk.i64_in _ (by omega)).trans (by omega)
          have w2 : (t : Int) + 1 = (q : Int) := by omega
          have k1 : t < len := by have := HC.out; omega
          have k2 : q < len := by have := HC.out; omega
          have n1 : ¬ q = t := by omega
          have n2 : ¬ t = q := by omega
          have HTQ := Aside0.mk hq
          clear hq htc
          have n_00 : ¬ t * 4 = q * 4 := by have := HTQ.out; omega
          have m_00 : ¬ q * 4 = t * 4 := by have := HTQ.out; omega
          have n_01 : ¬ t * 4 = q * 4 + 1 := by have := HTQ.out; omega
          have m_01 : ¬ q * 4 + 1 = t * 4 := by have := HTQ.out; omega
          have n_02 : ¬ t * 4 = q * 4 + 2 := by have := HTQ.out; omega
          have m_02 : ¬ q * 4 + 2 = t * 4 := by have := HTQ.out; omega
          have n_03 : ¬ t * 4 = q * 4 + 3 := by have := HTQ.out; omega
          have m_03 : ¬ q * 4 + 3 = t * 4 := by have := HTQ.out; omega
          have n_10 : ¬ t * 4 + 1 = q * 4 := by have := HTQ.out; omega
          have m_10 : ¬ q * 4 = t * 4 + 1 := by have := HTQ.out; omega
          have n_11 : ¬ t * 4 + 1 = q * 4 + 1 := by have := HTQ.out; omega
          have m_11 : ¬ q * 4 + 1 = t * 4 + 1 := by have := HTQ.out; omega
          have n_12 : ¬ t * 4 + 1 = q * 4 + 2 := by have := HTQ.out; omega
          have m_12 : ¬ q * 4 + 2 = t * 4 + 1 := by have := HTQ.out; omega
          have n_13 : ¬ t * 4 + 1 = q * 4 + 3 := by have := HTQ.out; omega
          have m_13 : ¬ q * 4 + 3 = t * 4 + 1 := by have := HTQ.out; omega
          have n_20 : ¬ t * 4 + 2 = q * 4 := by have := HTQ.out; omega
          have m_20 : ¬ q * 4 = t * 4 + 2 := by have := HTQ.out; omega
          have n_21 : ¬ t * 4 + 2 = q * 4 + 1 := by have := HTQ.out; omega
          have m_21 : ¬ q * 4 + 1 = t * 4 + 2 := by have := HTQ.out; omega
          have n_22 : ¬ t * 4 + 2 = q * 4 + 2 := by have := HTQ.out; omega
          have m_22 : ¬ q * 4 + 2 = t * 4 + 2 := by have := HTQ.out; omega
          have n_23 : ¬ t * 4 + 2 = q * 4 + 3 := by have := HTQ.out; omega
          have m_23 : ¬ q * 4 + 3 = t * 4 + 2 := by have := HTQ.out; omega
          have n_30 : ¬ t * 4 + 3 = q * 4 := by have := HTQ.out; omega
          have m_30 : ¬ q * 4 = t * 4 + 3 := by have := HTQ.out; omega
          have n_31 : ¬ t * 4 + 3 = q * 4 + 1 := by have := HTQ.out; omega
          have m_31 : ¬ q * 4 + 1 = t * 4 + 3 := by have := HTQ.out; omega
          have n_32 : ¬ t * 4 + 3 = q * 4 + 2 := by have := HTQ.out; omega
          have m_32 : ¬ q * 4 + 2 = t * 4 + 3 := by have := HTQ.out; omega
          have n_33 : ¬ t * 4 + 3 = q * 4 + 3 := by have := HTQ.out; omega
          have m_33 : ¬ q * 4 + 3 = t * 4 + 3 := by have := HTQ.out; omega
          go_upto_region 11 with (fail)
          clear w2
          go_region
          have w2 : (t : Int) + 1 = (q : Int) := by have := HTQ.out; omega
          have hqb : (q : Int) < 9223372036854775808 := by have := HC.out; have := HLN.out; omega
          go_wp2
          go_roundw
          case rel => exact ⟨q, d + 1, by go_num, ⟨by have := HTQ.out; have := HT.out; have := HD.out; omega⟩, ⟨by
            have h1 := HM.out.res
            simp only [set4] at h1
            rw [List.take_succ_eq_append_getElem HD.out.1, ← gi_eq HD.out.1]
            simpa using h1⟩⟩
          case measure => simp [intOf]; have := HD.out; have := HTQ.out; omega
        · have d2 : decide (t < c) = false := decide_eq_false htc
          have hd : d = c - an := by have := HT.out; have := HC.out; omega
          go_wp2
          go_returns
          have ho := one_left HSR.out (x := x) (k := d) (by have := HC.out; omega) (by rw [hd]; exact HK2.out.1) (by rw [hd]; exact HK2.out.2)
          exact ⟨rfl, R.take d ++ x :: R.drop d, ⟨by have := HR.out; simpa using this⟩, ⟨ho.1, ho.2, by have := HC.out; simp; omega⟩⟩
end Go.Proofs.Ytncbnejldlfbdaa.PIdx
