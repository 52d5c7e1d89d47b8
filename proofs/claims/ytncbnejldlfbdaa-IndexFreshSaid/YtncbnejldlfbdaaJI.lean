/- What slices.symMergeCmpFunc leaves: two sorted rows made one; no condition. -/
import Derived.Test.YtncbnejldlfbdaaJK
namespace Go.Proofs.Ytncbnejldlfbdaa.PIdx
open Go.RowKit Go.Proofs.YtncbnejldlfbdaaW.PrintWords Go.Proofs.YtncbnejldlfbdaaW.PrintLast Go.Proofs.YtncbnejldlfbdaaW.PrintMore
open Go.Proofs.Ytncbnejldlfbdaa.PIndexFresh
open Go.Proofs.Ytncbnejldlfbdaa.PHeap (Row)
set_option linter.unusedVariables false
set_option linter.unusedSimpArgs false
set_option maxHeartbeats 40000000 in
set_option maxRecDepth 1000000 in
theorem sym_c (base g cap k : Nat) (IH : SymOk base g cap k) (P L R S : List It) (a m b : Int) (len : Nat) (w : World) (h : RowAt w w base g cap (P ++ L ++ R ++ S)) (hL : L.Pairwise leI) (hR : R.Pairwise leI) (ha : a = (P.length : Int)) (hm : m = ((P.length + L.length : Nat) : Int)) (hb : b = ((P.length + L.length + R.length : Nat) : Int)) (hlen : len = P.length + L.length + R.length + S.length) (hbig : len < 4611686018427387904) (hl2 : 2 ≤ L.length) (hr2 : 2 ≤ R.length) (hk : L.length + R.length ≤ k + 1) :
    Calls Try.prog 70 #[.slice (some ⟨g, 0, none⟩) len cap, .int .i64 a, .int .i64 m, .int .i64 b, FV] w (Merged w base g cap P L R S) := by
  have hu54 := Try.underlying54
  have hu65 := Try.underlying65
  have HIH := Aside0.mk IH
  have HR := Aside0.mk h
  have HSL := Aside0.mk hL
  have HSR := Aside0.mk hR
  obtain ⟨an, rfl⟩ : ∃ mn : Nat, a = (mn : Int) := ⟨_, ha⟩
  obtain ⟨mn, rfl⟩ : ∃ mn : Nat, m = (mn : Int) := ⟨_, hm⟩
  obtain ⟨bn, rfl⟩ : ∃ mn : Nat, b = (mn : Int) := ⟨_, hb⟩
  have HLN : Aside0 (an = P.length ∧ mn = P.length + L.length ∧ bn = P.length + L.length + R.length ∧ len = P.length + L.length + R.length + S.length ∧ len < 4611686018427387904 ∧ 2 ≤ L.length ∧ 2 ≤ R.length ∧ L.length + R.length ≤ k + 1) := ⟨by omega⟩
  obtain ⟨df, hdf⟩ : ∃ df : Nat, mn - an = df := ⟨_, rfl⟩
  have d0 : (mn : Int) - (an : Int) = (df : Int) := by omega
  have d0b : (df : Int) < 9223372036854775808 := by omega
  have d0n : ¬ (df : Int) = 1 := by omega
  have d0e : ((df : Int) == 1) = false := beq_eq_false_iff_ne.2 d0n
  have d0m : ¬ df = 1 := by omega
  obtain ⟨dg, hdg⟩ : ∃ df : Nat, bn - mn = df := ⟨_, rfl⟩
  have g0 : (bn : Int) - (mn : Int) = (dg : Int) := by omega
  have g0b : (dg : Int) < 9223372036854775808 := by omega
  have g0n : ¬ (dg : Int) = 1 := by omega
  have g0e : ((dg : Int) == 1) = false := beq_eq_false_iff_ne.2 g0n
  have g0m : ¬ dg = 1 := by omega
  obtain ⟨md, hmd⟩ : ∃ md : Nat, (an + bn) / 2 = md := ⟨_, rfl⟩
  have em : ((an : Int) + (bn : Int)) / 2 = (md : Int) := by omega
  have HMD : Aside0 (an < md ∧ md < bn ∧ md ≤ len ∧ an + bn ≤ 2 * md + 1 ∧ 2 * md ≤ an + bn) := ⟨by omega⟩
  have c1 : (an : Int) + (bn : Int) < 9223372036854775808 := by omega
  have c2 : (md : Int) + (mn : Int) < 9223372036854775808 := by omega
  clear h hL hR ha hm hb hlen hbig hl2 hr2 hk hdf hdg hmd IH
  go_enter Try.func70, Try.ntmps70
  go_upto_if 140 with (fail)
  clear d0 d0b d0n d0e d0m g0 g0b g0n g0e g0m c1 c2 em
  go_cut [20, 21] (fun v20 v21 wc => ∃ (s0 r0 : Nat), v20 = .int .i64 (s0 : Int) ∧ v21 = .int .i64 (r0 : Int) ∧ Aside0 (s0 ≤ r0 ∧ an ≤ s0 ∧ r0 ≤ mn ∧ r0 ≤ md ∧ md + mn ≤ s0 + bn ∧ (s0 = an ∨ s0 + bn = md + mn) ∧ (r0 = md ∨ r0 = mn)) ∧ w = wc)
  case first =>
    by_cases hmm : md < mn
    · have d1 : decide (md < mn) = true := decide_eq_true hmm
      obtain ⟨s0, hs0⟩ : ∃ s0 : Nat, md + mn - bn = s0 := ⟨_, rfl⟩
      have w1 : (md : Int) + (mn : Int) - (bn : Int) = (s0 : Int) := by have := HLN.out; have := HMD.out; omega
      have s1 : IntKind.i64.wrap ((md : Int) + (mn : Int) - (bn : Int)) = (s0 : Int) := by rw [w1]; exact IntWalk.i64_in _ (by have := HLN.out; have := HMD.out; omega)
      have s2 : wrap64 ((md : Int) + (mn : Int) - (bn : Int)) = (s0 : Int) := by unfold wrap64; have := HLN.out; have := HMD.out; omega
      clear w1
      have HS0 := Aside0.mk hs0
      clear hs0
      go_wp2
      go_meet
      exact ⟨s0, md, rfl, rfl, ⟨by have := HS0.out; have := HLN.out; have := HMD.out; omega⟩, rfl⟩
    · have d1 : decide (md < mn) = false := decide_eq_false hmm
      go_wp2
      go_meet
      exact ⟨an, mn, rfl, rfl, ⟨by have := HLN.out; have := HMD.out; omega⟩, rfl⟩
  case rest =>
    obtain ⟨s0, r0, rfl, rfl, H0, rfl⟩ := hcut
    obtain ⟨p, hp⟩ : ∃ p : Nat, md + mn - 1 = p := ⟨_, rfl⟩
    have HP : Aside0 (p + 1 = md + mn) := ⟨by have := HLN.out; have := HMD.out; omega⟩
    have p1 : IntKind.i64.wrap ((md : Int) + (mn : Int) - 1) = (p : Int) := by rw [show (md : Int) + (mn : Int) - 1 = (p : Int) from by have := HP.out; omega]; exact IntWalk.i64_in _ (by have := HP.out; have := HLN.out; have := HMD.out; omega)
    have p2 : wrap64 ((md : Int) + (mn : Int) - 1) = (p : Int) := by unfold wrap64; have := HP.out; have := HLN.out; have := HMD.out; omega
    clear hp
    go_wp2
    clear p1 p2
    go_loopw [20, 21] (fun v20 v21 wq => ∃ (i j : Nat), v20 = .int .i64 (i : Int) ∧ v21 = .int .i64 (j : Int) ∧ Aside0 (s0 ≤ i ∧ i ≤ j ∧ j ≤ r0) ∧ Aside0 ((∀ c, s0 ≤ c → c < i → ky (gi L (c - an)) ≤ ky (gi R (md - 1 - c))) ∧ (∀ c, j ≤ c → c < r0 → ky (gi R (md - 1 - c)) < ky (gi L (c - an)))) ∧ Aside0 (RowAt w wq base g cap (P ++ L ++ R ++ S))) (fun v20 v21 _ => (intOf v21).toNat - (intOf v20).toNat)
    case atStart => exact ⟨s0, r0, rfl, rfl, ⟨by have := H0.out; omega⟩, ⟨fun c h1 h2 => by omega, fun c h1 h2 => by omega⟩, HR⟩
    case round =>
      clear HR
      obtain ⟨i, j, rfl, rfl, HI, HK, HR⟩ := hrel
      by_cases hij : i < j
      · have d1 : decide (i < j) = true := decide_eq_true hij
        have e1 : (i : Int) + (j : Int) < 9223372036854775808 := by have := HI.out; have := H0.out; have := HLN.out; omega
        have e2 : (0 : Int) ≤ (i : Int) + (j : Int) := by omega
        go_upto_region 35 with (fail)
        obtain ⟨c, hc⟩ : ∃ h : Nat, (i + j) / 2 = h := ⟨_, rfl⟩
        have eh : ((i : Int) + (j : Int)) / 2 = (c : Int) := by omega
        have HH : Aside0 (i ≤ c ∧ c < j) := ⟨by omega⟩
        rw [eh]
        clear eh e1 e2 d1 hij hc
        obtain ⟨t, ht⟩ : ∃ t : Nat, p - c = t := ⟨_, rfl⟩
        have HT : Aside0 (t + c = p ∧ c - an < L.length ∧ md - 1 - c < R.length ∧ c = P.length + (c - an) ∧ t = P.length + L.length + (md - 1 - c) ∧ c < md) := ⟨by have := HH.out; have := HI.out; have := H0.out; have := HLN.out; have := HP.out; omega⟩
        have w1 : IntKind.i64.wrap ((p : Int) - (c : Int)) = (t : Int) := by rw [show (p : Int) - (c : Int) = (t : Int) from by have := HT.out; omega]; exact IntWalk.i64_in _ (by have := HT.out; have := HP.out; have := HLN.out; have := HMD.out; omega)
        have HS1 : Aside0 ((P ++ L ++ R ++ S)[t]? = some (gi R (md - 1 - c))) := ⟨by rw [HT.out.2.2.2.2.1]; exact at_R2 HT.out.2.2.1⟩
        have HS2 : Aside0 ((P ++ L ++ R ++ S)[c]? = some (gi L (c - an))) := ⟨(congrArg (fun q => (P ++ L ++ R ++ S)[q]?) HT.out.2.2.2.1).trans (at_L2 HT.out.2.1)⟩
        obtain ⟨a0, a1, a2, a3⟩ := HR.out.at_ HS1.out
        obtain ⟨b0, b1, b2, b3⟩ := HR.out.at_ HS2.out
        have k1 : t < len := by have := HT.out; have := HLN.out; omega
        have k2 : c < len := by have := HT.out; have := HLN.out; omega
        clear ht
        have HMONO : Aside0 (∀ c', s0 ≤ c' → c' ≤ c → ky (gi L (c' - an)) ≤ ky (gi L (c - an)) ∧ ky (gi R (md - 1 - c)) ≤ ky (gi R (md - 1 - c'))) := ⟨fun c' h1 h2 => ⟨sorted_gi HSL.out (by omega) HT.out.2.1, sorted_gi HSR.out (by omega) (by have := H0.out; have := HLN.out; have := HT.out; omega)⟩⟩
        have HMON2 : Aside0 (∀ c', c ≤ c' → c' < r0 → ky (gi L (c - an)) ≤ ky (gi L (c' - an)) ∧ ky (gi R (md - 1 - c')) ≤ ky (gi R (md - 1 - c))) := ⟨fun c' h1 h2 => ⟨sorted_gi HSL.out (by omega) (by have := H0.out; have := HLN.out; omega), sorted_gi HSR.out (by omega) HT.out.2.2.1⟩⟩
        by_cases hlt : ky (gi R (md - 1 - c)) < ky (gi L (c - an))
        · have d3 : decide (cmpN (ky (gi R (md - 1 - c))) (ky (gi L (c - an))) < 0) = true := decide_eq_true ((cmpN_neg _ _).2 hlt)
          have HLT := Aside0.mk hlt
          clear hlt
          go_region_held3 (fun w' => ((w'.cell? ⟨g, t * 4, none⟩ = some (.int .u64 (gi R (md - 1 - c)).x.f0) ∧ w'.cell? ⟨g, t * 4 + 1, none⟩ = some (.int .i64 (gi R (md - 1 - c)).x.f1.f0)) ∧ w'.cell? ⟨g, t * 4 + 2, none⟩ = some (.slice (gi R (md - 1 - c)).A (gi R (md - 1 - c)).x.f1.f1.length (gi R (md - 1 - c)).c) ∧ w'.cell? ⟨g, t * 4 + 3, none⟩ = some (.string (gi R (md - 1 - c)).x.f1.f2)) ∧ (w'.cell? ⟨g, c * 4, none⟩ = some (.int .u64 (gi L (c - an)).x.f0) ∧ w'.cell? ⟨g, c * 4 + 1, none⟩ = some (.int .i64 (gi L (c - an)).x.f1.f0)) ∧ w'.cell? ⟨g, c * 4 + 2, none⟩ = some (.slice (gi L (c - an)).A (gi L (c - an)).x.f1.f1.length (gi L (c - an)).c) ∧ w'.cell? ⟨g, c * 4 + 3, none⟩ = some (.string (gi L (c - an)).x.f1.f2)) (first | go_keep | exact ⟨⟨⟨i0, i1⟩, i2, i3⟩, ⟨j0, j1⟩, j2, j3⟩) (first | (go_at_call 49; (with_reducible refine (byid_calls (gi R (md - 1 - c)) (gi L (c - an)) _).mono ?_); rintro e w5 ⟨rfl, hb⟩; have RX : Aside0 (RowAt w w5 base g cap (P ++ L ++ R ++ S)) := ⟨HR.out.drew.below hb⟩; clear hb; obtain ⟨i0, i1, i2, i3⟩ := RX.out.at_ HS1.out; obtain ⟨j0, j1, j2, j3⟩ := RX.out.at_ HS2.out))
          go_wp2
          go_roundw
          case rel => exact ⟨i, c, rfl, rfl, ⟨by have := HH.out; have := HI.out; omega⟩, ⟨HK.out.1, fun c' h1 h2 => by have := HMON2.out c' h1 h2; have := HLT.out; omega⟩, RX⟩
          case measure => simp [intOf]; have := HH.out; omega
        · have d3 : decide (cmpN (ky (gi R (md - 1 - c))) (ky (gi L (c - an))) < 0) = false := decide_eq_false (fun h => hlt ((cmpN_neg _ _).1 h))
          have HLT := Aside0.mk hlt
          clear hlt
          go_region_held3 (fun w' => ((w'.cell? ⟨g, t * 4, none⟩ = some (.int .u64 (gi R (md - 1 - c)).x.f0) ∧ w'.cell? ⟨g, t * 4 + 1, none⟩ = some (.int .i64 (gi R (md - 1 - c)).x.f1.f0)) ∧ w'.cell? ⟨g, t * 4 + 2, none⟩ = some (.slice (gi R (md - 1 - c)).A (gi R (md - 1 - c)).x.f1.f1.length (gi R (md - 1 - c)).c) ∧ w'.cell? ⟨g, t * 4 + 3, none⟩ = some (.string (gi R (md - 1 - c)).x.f1.f2)) ∧ (w'.cell? ⟨g, c * 4, none⟩ = some (.int .u64 (gi L (c - an)).x.f0) ∧ w'.cell? ⟨g, c * 4 + 1, none⟩ = some (.int .i64 (gi L (c - an)).x.f1.f0)) ∧ w'.cell? ⟨g, c * 4 + 2, none⟩ = some (.slice (gi L (c - an)).A (gi L (c - an)).x.f1.f1.length (gi L (c - an)).c) ∧ w'.cell? ⟨g, c * 4 + 3, none⟩ = some (.string (gi L (c - an)).x.f1.f2)) (first | go_keep | exact ⟨⟨⟨i0, i1⟩, i2, i3⟩, ⟨j0, j1⟩, j2, j3⟩) (first | (go_at_call 49; (with_reducible refine (byid_calls (gi R (md - 1 - c)) (gi L (c - an)) _).mono ?_); rintro e w5 ⟨rfl, hb⟩; have RX : Aside0 (RowAt w w5 base g cap (P ++ L ++ R ++ S)) := ⟨HR.out.drew.below hb⟩; clear hb; obtain ⟨i0, i1, i2, i3⟩ := RX.out.at_ HS1.out; obtain ⟨j0, j1, j2, j3⟩ := RX.out.at_ HS2.out))
          have hb1 : (c : Int) + 1 < 9223372036854775808 := by have := HLN.out; have := HT.out; omega
          go_wp2
          go_roundw
          case rel => exact ⟨c + 1, j, by go_num, rfl, ⟨by have := HH.out; have := HI.out; omega⟩, ⟨fun c' h1 h2 => by have := HMONO.out c' h1 (by omega); have := HLT.out; omega, HK.out.2⟩, RX⟩
          case measure => simp [intOf]; have := HH.out; omega
      · have d1 : decide (i < j) = false := decide_eq_false hij
        obtain rfl : i = j := by have := HI.out; omega
        have HC : Aside0 (CutAt L R (i - an) (md - i)) := ⟨⟨by have := HI.out; have := H0.out; have := HLN.out; omega, by have := HI.out; have := H0.out; have := HLN.out; omega, fun h1 h2 => by
          have h3 := HK.out.2 i (Nat.le_refl _) (by have := H0.out; have := HI.out; have := HLN.out; omega)
          rw [show md - i - 1 = md - 1 - i from by omega]
          exact h3, fun h1 h2 => by
          have h3 := HK.out.1 (i - 1) (by have := H0.out; have := HI.out; have := HLN.out; omega) (by omega)
          rw [show md - 1 - (i - 1) = md - i from by have := H0.out; have := HI.out; omega, show i - 1 - an = i - an - 1 from by omega] at h3
          exact h3⟩⟩
        obtain ⟨ed, hed⟩ : ∃ ed : Nat, md + mn - i = ed := ⟨_, rfl⟩
        have HED : Aside0 (ed + i = md + mn ∧ an ≤ i ∧ i ≤ mn ∧ i ≤ md ∧ ed ≤ bn) := ⟨by have := HI.out; have := H0.out; have := HLN.out; omega⟩
        have q1 : IntKind.i64.wrap ((md : Int) + (mn : Int) - (i : Int)) = (ed : Int) := by rw [show (md : Int) + (mn : Int) - (i : Int) = (ed : Int) from by have := HED.out; omega]; exact IntWalk.i64_in _ (by have := HED.out; have := HLN.out; omega)
        have q2 : wrap64 ((md : Int) + (mn : Int) - (i : Int)) = (ed : Int) := by unfold wrap64; have := HED.out; have := HLN.out; omega
        clear hij hed
        obtain ⟨s, hs⟩ : ∃ s, i - an = s := ⟨_, rfl⟩
        obtain ⟨e, he⟩ : ∃ e, md - i = e := ⟨_, rfl⟩
        rw [hs, he] at HC
        have HSE : Aside0 (i = an + s ∧ md = i + e ∧ s ≤ L.length ∧ e ≤ R.length ∧ ed = mn + e) := ⟨by have := HED.out; have := HC.out.hs; have := HC.out.he; omega⟩
        clear hs he
        go_upto_region 39 with (fail)
        clear d1 q1 q2
        go_cut [185] (fun v185 wx => ∃ b : Bool, v185 = .bool b ∧ Aside0 (b = decide (i < mn ∧ mn < ed)) ∧ wr = wx)
        case first =>
          by_cases h1 : i < mn
          · have d1 : decide (i < mn) = true := decide_eq_true h1
            by_cases h2 : mn < ed
            · have d2 : decide (mn < ed) = true := decide_eq_true h2
              have hb : true = decide (i < mn ∧ mn < ed) := (decide_eq_true ⟨h1, h2⟩).symm
              have HB := Aside0.mk hb
              clear hb
              go_wp2
              go_meet
              exact ⟨_, rfl, HB, rfl⟩
            · have d2 : decide (mn < ed) = false := decide_eq_false h2
              have hb : false = decide (i < mn ∧ mn < ed) := (decide_eq_false (fun h => h2 h.2)).symm
              have HB := Aside0.mk hb
              clear hb
              go_wp2
              go_meet
              exact ⟨_, rfl, HB, rfl⟩
          · have d1 : decide (i < mn) = false := decide_eq_false h1
            have hb : false = decide (i < mn ∧ mn < ed) := (decide_eq_false (fun h => h1 h.1)).symm
            have HB := Aside0.mk hb
            clear hb
            go_wp2
            go_meet
            exact ⟨_, rfl, HB, rfl⟩
        case rest =>
          obtain ⟨b, rfl, HB, rfl⟩ := hcut
          go_upto_if 185 with (fail)
          go_cut [] (fun wx => Aside0 (RowAt w wx base g cap (P ++ (L.take s ++ R.take e) ++ (L.drop s ++ R.drop e) ++ S)))
          case first =>
            cases b with
            | true =>
              have HH : Aside0 (i < mn ∧ mn < ed) := ⟨of_decide_eq_true HB.out.symm⟩
              have HR0 : Aside0 (RowAt wr wr base g cap ((P ++ L.take s) ++ L.drop s ++ R.take e ++ (R.drop e ++ S))) := ⟨by
                have h1 := HR.out.start
                rw [show (P ++ L.take s) ++ L.drop s ++ R.take e ++ (R.drop e ++ S) = P ++ (L.take s ++ L.drop s) ++ (R.take e ++ R.drop e) ++ S from by simp only [List.append_assoc], List.take_append_drop, List.take_append_drop]
                exact h1⟩
              go_wp2_with ((go_at_call 72; (with_reducible refine (rotate_calls base g cap (P ++ L.take s) (L.drop s) (R.take e) (R.drop e ++ S) _ _ _ len FV wr HR0.out (by have := HSE.out; have := HLN.out; simp; omega) (by have := HSE.out; have := HLN.out; simp; omega) (by have := HSE.out; have := HLN.out; simp; omega) (by have := HSE.out; have := HLN.out; simp; omega) (by have := HSE.out; have := HLN.out; have := HH.out; simp; omega) (by have := HSE.out; have := HLN.out; have := HH.out; simp; omega)).mono ?_); rintro e w1 ⟨rfl, h1⟩; have R1 := h1; clear h1))
              go_meet
              exact ⟨by have := HR.out.chain R1.out; simpa using this⟩
            | false =>
              go_wp2
              go_meet
              have hh : ¬ (i < mn ∧ mn < ed) := of_decide_eq_false HB.out.symm
              exact ⟨by
                have h1 := HR.out
                by_cases hs0 : s < L.length
                · have he0 : e = 0 := by have := HSE.out; have := HLN.out; omega
                  subst he0
                  rw [show P ++ (L.take s ++ R.take 0) ++ (L.drop s ++ R.drop 0) ++ S = P ++ (L.take s ++ L.drop s) ++ R ++ S from by simp only [List.take_zero, List.drop_zero, List.append_nil, List.append_assoc], List.take_append_drop]
                  exact h1
                · have hs1 : L.length ≤ s := by omega
                  rw [List.take_of_length_le hs1, List.drop_of_length_le hs1]
                  rw [show P ++ (L ++ R.take e) ++ ([] ++ R.drop e) ++ S = P ++ L ++ (R.take e ++ R.drop e) ++ S from by simp only [List.nil_append, List.append_assoc], List.take_append_drop]
                  exact h1⟩
          case rest =>
            have HR1 := hcut
            clear hcut HR HB
            apply_assumption
            exact sym_tail base g cap k P L R S len w _ an mn bn md i ed s e HIH HSL HSR HLN HMD HED HC HSE HR1
theorem sym_all (base g cap : Nat) : ∀ k, SymOk base g cap k
  | 0 => fun P L R S a m b len w h hL hR ha hm hb hlen hbig h1 h2 hk => by omega
  | k + 1 => fun P L R S a m b len w h hL hR ha hm hb hlen hbig h1 h2 hk => by
    by_cases hl : L.length = 1
    · obtain ⟨x, rfl⟩ := List.length_eq_one_iff.1 hl
      exact sym_a base g cap P R S x a m b len w (by simpa using h) hR ha (by simpa using hm) (by simpa using hb) (by simpa using hlen) hbig
    · by_cases hr : R.length = 1
      · obtain ⟨y, rfl⟩ := List.length_eq_one_iff.1 hr
        exact sym_b base g cap P L S y a m b len w (by simpa using h) hL ha hm (by simpa using hb) (by simpa using hlen) hbig (by omega)
      · exact sym_c base g cap k (sym_all base g cap k) P L R S a m b len w h hL hR ha hm hb hlen hbig (by omega) (by omega) hk
theorem symmerge_calls (base g cap : Nat) (P L R S : List It) (a m b : Int) (len : Nat) (w : World) (h : RowAt w w base g cap (P ++ L ++ R ++ S)) (hL : L.Pairwise leI) (hR : R.Pairwise leI) (ha : a = (P.length : Int)) (hm : m = ((P.length + L.length : Nat) : Int)) (hb : b = ((P.length + L.length + R.length : Nat) : Int)) (hlen : len = P.length + L.length + R.length + S.length) (hbig : len < 4611686018427387904) (h1 : 0 < L.length) (h2 : 0 < R.length) :
    Calls Try.prog 70 #[.slice (some ⟨g, 0, none⟩) len cap, .int .i64 a, .int .i64 m, .int .i64 b, FV] w (Merged w base g cap P L R S) := sym_all base g cap (L.length + R.length) P L R S a m b len w h hL hR ha hm hb hlen hbig h1 h2 (Nat.le_refl _)
end Go.Proofs.Ytncbnejldlfbdaa.PIdx
