/- What rising of the law's package tells of a row sorted, those of one number as they stood; of fewer than 2 513 169 434 844 items. -/
import Derived.Test.YtncbnejldlfbdaaJO
import Derived.Test.YtncbnejldlfbdaaPIndexFreshx2
import Derived.Deep.RegionHeld3
import Derived.Handy
import Derived.BigRegion
import Derived.Deep.DeepCutAuto
import Derived.StillTailTactics
namespace Go.Proofs.Ytncbnejldlfbdaa.PIdx
open Go.RowKit Go.Proofs.YtncbnejldlfbdaaW.PrintWords Go.Proofs.YtncbnejldlfbdaaW.PrintLast Go.Proofs.YtncbnejldlfbdaaW.PrintMore
open Go.Proofs.Ytncbnejldlfbdaa.PIndexFresh
open Go.Proofs.Ytncbnejldlfbdaa.PHeap (Row)
set_option linter.unusedVariables false
set_option linter.unusedSimpArgs false
theorem rd65_map (T : List It) (i : Nat) : rd_T65 (T.map It.x) (i : Int) = (gi T i).x := by
  unfold rd_T65 gi
  rw [Int.toNat_natCast, List.getD_eq_getElem?_getD, List.getElem?_map, List.getD_eq_getElem?_getD]
  cases T[i]? <;> rfl
theorem add_zero_lit (g n : Nat) : (⟨g, 0, none⟩ : Addr).add n = ⟨g, n, none⟩ := by
  cases n <;> simp [Addr.add]
theorem Lie.drop {w : World} {base g cap i k : Nat} {D : List It} (h : Row w base 65 4 (.slice (some ⟨g, 0, none⟩) i cap) i (cells4 D)) : Lie w (some ⟨g, k * 4, none⟩) (D.drop k) := fun h0 => by
  have hl : D.length = i := by have := h.1; rw [cells4_length] at this; omega
  rw [List.length_drop] at h0
  obtain ⟨g2, cap2, cur, e, _, _, hc, _⟩ := h.at_ (by omega)
  injection e with e _ _
  injection e with e
  injection e with e
  subst e
  refine ⟨_, rfl, fun j u hu => ?_⟩
  rw [← cells4_drop, List.getElem?_drop] at hu
  have h1 := (List.getElem?_eq_some_iff.1 hu).1
  rw [cells4_length] at h1
  have h2 := (hc (k * 4 + j) (by omega)).trans hu
  rwa [show (⟨g, k * 4, none⟩ : Addr).add j = ⟨g, k * 4 + j, none⟩ from by cases j <;> simp [Addr.add]]
theorem put_at {D T : List It} {i k : Nat} (h1 : D.Pairwise leI) (h2 : Stb (T.take i) D) (hl : D.length = i) (hi : i < T.length) (hk : k ≤ i) (h3 : ∀ j, k ≤ j → j < i → ky (gi T i) < ky (gi D j)) (hh : ¬ (0 < k ∧ ky (gi T i) < ky (gi D (k - 1)))) :
    (D.take k ++ gi T i :: D.drop k).Pairwise leI ∧ Stb (T.take (i + 1)) (D.take k ++ gi T i :: D.drop k) := by
  have h4 := one_right h1 (y := gi T i) (k := k) (by omega) (fun j hj => by
    have h5 := sorted_gi h1 (i := j) (j := k - 1) (by omega) (by omega)
    have h6 : ¬ ky (gi T i) < ky (gi D (k - 1)) := fun h => hh ⟨by omega, h⟩
    omega) (fun j h5 h6 => h3 j h5 (by omega))
  refine ⟨h4.1, ?_⟩
  have e : T.take (i + 1) = T.take i ++ [gi T i] := by rw [List.take_add_one, gi_some hi]; rfl
  rw [e]
  exact (h2.app (Stb.refl [gi T i])).trans h4.2
set_option maxHeartbeats 40000000 in
set_option maxRecDepth 1000000 in
theorem rising_calls (Ag : Option Addr) (cg : Nat) (G : List It) (A : Option Addr) (c : Nat) (T : List It) (n : Nat) (w : World) (hG : Kd.C k65 w Ag G.length (G.map It.x)) (hcg : G.length ≤ cg) (hT : Lie w A T) (hNT : Nums w T) (hn : T.length = n) (hGs : G.Pairwise leI) (hGt : Stb T G) (hbig : n ≤ 2513169434843)
    (hsame : ∃ k, waywiserref15_Same.f k (G.map It.x) (G.map It.x) = some true) :
    Calls Try.prog 28 #[.slice Ag G.length cg, .slice A n c] w fun e w' => e = .returned (.bool true) ∧ Aside0 (Below w.heap.size w w') := by
  have hu54 := Try.underlying54
  have hu65 := Try.underlying65
  have HG := Aside0.mk hG
  have HCG := Aside0.mk hcg
  have HT := Aside0.mk hT
  have HNT := Aside0.mk hNT
  have HN : Aside0 (T.length = n ∧ n ≤ 2513169434843) := ⟨hn, hbig⟩
  have HGS : Aside0 (G.Pairwise leI ∧ Stb T G) := ⟨hGs, hGt⟩
  have HSA := Aside0.mk hsame
  clear hG hcg hT hNT hn hGs hGt hbig hsame
  go_enter Try.func28, Try.ntmps28
  go_wp2
  go_loopw [5, 6] (fun v5 v6 wr => ∃ (i : Nat) (A5 : Option Addr) (c5 : Nat) (D : List It), v5 = .slice A5 i c5 ∧ v6 = .int .i64 (i : Int) ∧ Aside0 (i ≤ n ∧ D.length = i) ∧ Aside0 (Row wr w.heap.size 65 4 (.slice A5 i c5) i (cells4 D)) ∧ Aside0 (Below w.heap.size w wr) ∧ Aside0 (D.Pairwise leI ∧ Stb (T.take i) D)) (fun _ v6 _ => n - (intOf v6).toNat)
  case atStart => exact ⟨0, none, 0, [], rfl, rfl, ⟨Nat.zero_le _, rfl⟩, ⟨Row.nil _ _ _ _⟩, ⟨Below.refl _ _⟩, ⟨List.Pairwise.nil, by rw [List.take_zero]; exact Stb.refl _⟩⟩
  case round =>
    obtain ⟨i, A5, c5, D, rfl, rfl, HI, HR, HB, HD⟩ := hrel
    by_cases hin : i < n
    · have d1 : decide (i < n) = true := decide_eq_true hin
      have HIN := Aside0.mk hin
      have e1 : (i : Int) < 2513169434843 := by have := HN.out; omega
      obtain ⟨ad, rfl, hcl⟩ := HT.out (by have := HN.out; omega)
      have HCL := Aside0.mk hcl
      clear hcl hin
      go_wp2
      go_loopw [7] (fun v7 wq => ∃ (k : Nat), v7 = .int .i64 (k : Int) ∧ Aside0 (k ≤ i ∧ ∀ j, k ≤ j → j < i → ky (gi T i) < ky (gi D j)) ∧ Aside0 (Row wq w.heap.size 65 4 (.slice A5 i c5) i (cells4 D)) ∧ Aside0 (Below w.heap.size w wq)) (fun v7 _ => (intOf v7).toNat)
      case atStart => exact ⟨i, rfl, ⟨Nat.le_refl _, fun j h1 h2 => by omega⟩, HR, HB⟩
      case round =>
        clear HR HB
        obtain ⟨k, rfl, HK, HR, HB⟩ := hrel
        have e2 : (k : Int) ≤ (i : Int) := by have := HK.out.1; omega
        have HTI : Aside0 (T[i]? = some (gi T i)) := ⟨gi_some (by have := HN.out; have := HIN.out; omega)⟩
        obtain ⟨t0, t1, t2, t3⟩ := cells4_at T i (gi T i) HTI.out
        have HX : Aside0 ((wr.cell? (ad.add (i * 4)) = some (.int .u64 (gi T i).x.f0) ∧ wr.cell? (ad.add (i * 4 + 1)) = some (.int .i64 (gi T i).x.f1.f0)) ∧ wr.cell? (ad.add (i * 4 + 2)) = some (.slice (gi T i).A (gi T i).x.f1.f1.length (gi T i).c) ∧ wr.cell? (ad.add (i * 4 + 3)) = some (.string (gi T i).x.f1.f2)) := ⟨⟨pw_cell_below HB.out (HCL.out _ _ t0), pw_cell_below HB.out (HCL.out _ _ t1)⟩, pw_cell_below HB.out (HCL.out _ _ t2), pw_cell_below HB.out (HCL.out _ _ t3)⟩
        clear t0 t1 t2 t3
        go_upto_region 6 with (fail)
        go_cut [32] (fun v32 wx => ∃ b : Bool, v32 = .bool b ∧ Aside0 (b = decide (0 < k ∧ ky (gi T i) < ky (gi D (k - 1)))) ∧ Aside0 (Row wx w.heap.size 65 4 (.slice A5 i c5) i (cells4 D)) ∧ Aside0 (Below w.heap.size w wx))
        case first =>
          by_cases hk : 0 < k
          · obtain ⟨p, hp⟩ : ∃ p : Nat, k - 1 = p := ⟨_, rfl⟩
            have HP : Aside0 (p + 1 = k) := ⟨by omega⟩
            have HPD : Aside0 (D[p]? = some (gi D p)) := ⟨gi_some (by have := HI.out; have := HK.out.1; omega)⟩
            obtain ⟨q0, q1, q2, q3⟩ := cells4_at D p (gi D p) HPD.out
            obtain ⟨g, cap, cur, ea, _, _, hcell, _⟩ := HR.out.at_ (by have := HK.out.1; omega)
            injection ea with ea _ ec
            subst ea
            subst ec
            have y0 := (hcell (p * 4) (by have := HK.out.1; omega)).trans q0
            obtain ⟨x0, x1⟩ := HX.out.1
            have w1 : IntKind.i64.wrap ((k : Int) - 1) = (p : Int) := by rw [show (k : Int) - 1 = (p : Int) from by omega]; exact IntWalk.i64_in _ (by omega)
            have z1 : p < i := by have := HK.out.1; omega
            have z2 : i < n := HIN.out
            have d2 : decide (0 < k) = true := decide_eq_true hk
            clear hcell q0 q1 q2 q3
            by_cases hgt : ky (gi T i) < ky (gi D p)
            · have hb : true = decide (0 < k ∧ ky (gi T i) < ky (gi D (k - 1))) := (decide_eq_true ⟨hk, by rw [hp]; exact hgt⟩).symm
              have HBB := Aside0.mk hb
              unfold ky at hgt
              have d3 := decide_eq_true hgt
              clear hb hk hp hgt
              go_still (by kernel_rfl)
              go_wp2
              go_meet
              exact ⟨_, rfl, HBB, ⟨HR.out.below (below_drew1 (Below.refl _ _))⟩, ⟨HB.out.drew⟩⟩
            · have hb : false = decide (0 < k ∧ ky (gi T i) < ky (gi D (k - 1))) := (decide_eq_false (fun h => hgt (by rw [← hp]; exact h.2))).symm
              have HBB := Aside0.mk hb
              unfold ky at hgt
              have d3 := decide_eq_false hgt
              clear hb hk hp hgt
              go_still (by kernel_rfl)
              go_wp2
              go_meet
              exact ⟨_, rfl, HBB, ⟨HR.out.below (below_drew1 (Below.refl _ _))⟩, ⟨HB.out.drew⟩⟩
          · have hb : false = decide (0 < k ∧ ky (gi T i) < ky (gi D (k - 1))) := (decide_eq_false (fun h => hk h.1)).symm
            have HBB := Aside0.mk hb
            have d2 : decide (0 < k) = false := decide_eq_false hk
            clear hb hk
            go_region
            go_wp2
            go_meet
            exact ⟨_, rfl, HBB, ⟨HR.out.below (below_drew1 (Below.refl _ _))⟩, ⟨HB.out.drew⟩⟩
        case rest =>
          clear HR HB HX
          obtain ⟨b, rfl, HBB, HR, HB⟩ := hcut
          cases b with
          | true =>
            have hh := of_decide_eq_true HBB.out.symm
            obtain ⟨p, hp⟩ : ∃ p : Nat, k - 1 = p := ⟨_, rfl⟩
            have w1 : IntKind.i64.wrap ((k : Int) - 1) = (p : Int) := by rw [show (k : Int) - 1 = (p : Int) from by omega]; exact IntWalk.i64_in _ (by omega)
            have HP : Aside0 (p + 1 = k ∧ ky (gi T i) < ky (gi D p)) := ⟨by omega, by rw [← hp]; exact hh.2⟩
            clear hh hp
            go_wp2
            go_roundw
            case rel => exact ⟨p, rfl, ⟨by have := HK.out.1; have := HP.out.1; omega, fun j h1 h2 => by
              by_cases hj : k ≤ j
              · exact HK.out.2 j hj h2
              · obtain rfl : j = p := by have := HP.out.1; omega
                exact HP.out.2⟩, HR, HB⟩
            case measure => simp [intOf]; have := HP.out.1; omega
          | false =>
            have hh := of_decide_eq_false HBB.out.symm
            have HPUT : Aside0 ((D.take k ++ gi T i :: D.drop k).Pairwise leI ∧ Stb (T.take (i + 1)) (D.take k ++ gi T i :: D.drop k)) := ⟨put_at HD.out.1 HD.out.2 HI.out.2 (by have := HN.out; have := HIN.out; omega) HK.out.1 HK.out.2 hh⟩
            clear hh
            have R0 : Aside0 (Row (wc.alloc (.cells #[] 65)) wc.heap.size 65 4 (.slice (some ⟨wc.heap.size, 0, none⟩) ([] : List It).length 0) ([] : List It).length (cells4 [])) := ⟨⟨rfl, .inr ⟨wc.heap.size, 0, #[], rfl, Nat.le_refl _, blk_new wc _, Nat.le_refl _, by decide, rfl, rfl⟩⟩⟩
            have HZ : Aside0 (wc.heap.size ≤ (wc.alloc (.cells #[] 65)).heap.size) := ⟨by simp⟩
            have HZ2 : Aside0 (w.heap.size ≤ wc.heap.size) := ⟨HB.out.size⟩
            go_upto_region 8 with (fail)
            go_cut [8] (fun v8 wx => ∃ (A8 : Option Addr) (c8 : Nat), v8 = .slice A8 (i - k) c8 ∧ Aside0 (Lie wx A8 (D.drop k) ∧ (A8 = none → i - k = 0)) ∧ Aside0 (Row wx w.heap.size 65 4 (.slice A5 i c5) i (cells4 D)) ∧ Aside0 (Below w.heap.size w wx))
            case first =>
              have HFIN : Aside0 (∀ (v : Value) (w1 : World), Row w1 wc.heap.size 65 4 v (0 + (i - k)) (cells4 ([] ++ D.drop k)) → (wc.alloc (.cells #[] 65)).grownBy w1 (some wc.heap.size) → ∃ (A8 : Option Addr) (c8 : Nat), v = .slice A8 (i - k) c8 ∧ Aside0 (Lie w1 A8 (D.drop k) ∧ (A8 = none → i - k = 0)) ∧ Aside0 (Row w1 w.heap.size 65 4 (.slice A5 i c5) i (cells4 D)) ∧ Aside0 (Below w.heap.size w w1)) := ⟨fun v w1 h1 h2 => by
                have hl : (D.drop k).length = i - k := by have := HI.out; simp; omega
                have h3 : Row w1 wc.heap.size 65 4 v (D.drop k).length (cells4 (D.drop k)) := by rw [hl]; simpa using h1
                obtain ⟨A8, c8, rfl, _, hL⟩ := Lie.of_row h3
                have hb : Below wc.heap.size wc w1 := (below_alloc (Below.refl _ _) (.cells #[] 65)).grown h2 HZ.out (fun q hq => by cases hq; exact Nat.le_refl _)
                refine ⟨A8, c8, by rw [hl], ⟨hL, fun e => ?_⟩, ⟨HR.out.below hb⟩, ⟨below_step HB.out hb⟩⟩
                by_cases h0 : i - k = 0
                · exact h0
                · obtain ⟨_, e2, _⟩ := hL (by omega)
                  rw [e] at e2; cases e2⟩
              rcases HR.out.2 with ⟨hv, h0⟩ | ⟨g, cap, cur, hv, _, _, hc, _⟩
              · injection hv with hv1 hv2 hv3
                subst hv1 hv3 h0
                obtain rfl : k = 0 := by have := HK.out.1; omega
                go_wp2_with (((with_reducible refine gate_builtin (b := .append) (xs := #[.tmp 35, .tmp 38]) rfl ?_); refine append_items rfl (.tmp 35) (.tmp 38) rfl wc.heap.size _ [] rfl R0.out HZ.out none 0 0 [] rfl rfl (fun _ => rfl) (fun h => by simp at h) (by simp) ?_; intro v' w1 hr hg hnl hat; have R1 := Aside0.mk hr; have G1 := Aside0.mk hg; clear hr hg hnl hat))
                go_meet
                have hD : D = [] := List.eq_nil_of_length_eq_zero HI.out.2
                have hf := HFIN.out v' w1 (by rw [hD]; exact R1.out) G1.out
                simpa using hf
              · injection hv with hv1 _ hv3
                subst hv1 hv3
                have HLD : Aside0 (Lie (wc.alloc (.cells #[] 65)) (some ⟨g, k * 4, none⟩) (D.drop k) ∧ (D.drop k).length = i - k ∧ i - k ≤ 2513169434900) := ⟨(Lie.drop HR.out).below (below_alloc (Below.refl _ _) _), by have := HI.out; simp; omega, by have := HN.out; have := HIN.out; omega⟩
                have z1 : k ≤ i := HK.out.1
                have z2 : i ≤ c5 := hc
                by_cases hck : c5 = k
                · have HE0 : Aside0 (D.drop k = []) := ⟨List.drop_eq_nil_of_le (by have := HI.out; omega)⟩
                  subst hck
                  have z3 : i = c5 := by omega
                  subst z3
                  clear z1 z2
                  go_wp2_with (((with_reducible refine gate_builtin (b := .append) (xs := #[.tmp 35, .tmp 38]) rfl ?_); refine append_items rfl (.tmp 35) (.tmp 38) rfl wc.heap.size _ [] rfl R0.out HZ.out (some _) _ _ [] rfl (by simp) (by intro h; cases h) (fun h => by simp at h) (by simp) ?_; intro v' w1 hr hg hnl hat; have R1 := Aside0.mk hr; have G1 := Aside0.mk hg; clear hr hg hnl hat))
                  go_meet
                  have hf := HFIN.out v' w1 (by rw [HE0.out]; simpa using R1.out) G1.out
                  simpa using hf
                · have hckm : ¬ k = c5 := fun e => hck e.symm
                  go_wp2_with (((with_reducible refine gate_builtin (b := .append) (xs := #[.tmp 35, .tmp 38]) rfl ?_); refine append_items rfl (.tmp 35) (.tmp 38) rfl wc.heap.size _ [] rfl R0.out HZ.out (some _) _ _ (D.drop k) rfl HLD.out.2.1 (by intro h; cases h) (by first | exact HLD.out.1 | (rw [add_zero_lit]; exact HLD.out.1)) (by have := HLD.out.2.2; simp; omega) ?_; intro v' w1 hr hg hnl hat; have R1 := Aside0.mk hr; have G1 := Aside0.mk hg; clear hr hg hnl hat))
                  go_meet
                  exact HFIN.out v' w1 R1.out G1.out
            case rest =>
              clear R0 HZ HZ2 HR HB
              obtain ⟨A8, c8, rfl, H8, HR, HB⟩ := hcut
              have HRC : Aside0 (Lie wc A5 (D.take k) ∧ (D.take k).length = k ∧ (A5 = none → k = 0)) := ⟨by
                have hl : (D.take k).length = k := by have := HI.out; have := HK.out.1; simp; omega
                have h1 := HR.out.cut HK.out.1
                rw [cells4_take] at h1
                have h2 : Row wc w.heap.size 65 4 (.slice A5 k c5) (D.take k).length (cells4 (D.take k)) := by rw [hl]; exact h1
                obtain ⟨A', c', e, _, hL⟩ := Lie.of_row h2
                injection e with e _ _
                subst e
                refine ⟨hL, hl, fun e => ?_⟩
                by_cases h0 : k = 0
                · exact h0
                · obtain ⟨_, e2, _⟩ := hL (by omega)
                  rw [e] at e2; cases e2⟩
              obtain ⟨t0, t1, t2, t3⟩ := cells4_at T i (gi T i) HTI.out
              have x0 := pw_cell_below HB.out (HCL.out _ _ t0)
              have x1 : wc.cell? ⟨(ad.add (i * 4)).block, (ad.add (i * 4)).off + 1, none⟩ = some (.int .i64 (gi T i).x.f1.f0) := by rw [← add_field _ _ 1 (by omega)]; exact pw_cell_below HB.out (HCL.out _ _ t1)
              have x2 : wc.cell? ⟨(ad.add (i * 4)).block, (ad.add (i * 4)).off + 2, none⟩ = some (.slice (gi T i).A (gi T i).x.f1.f1.length (gi T i).c) := by rw [← add_field _ _ 2 (by omega)]; exact pw_cell_below HB.out (HCL.out _ _ t2)
              have x3 : wc.cell? ⟨(ad.add (i * 4)).block, (ad.add (i * 4)).off + 3, none⟩ = some (.string (gi T i).x.f1.f2) := by rw [← add_field _ _ 3 (by omega)]; exact pw_cell_below HB.out (HCL.out _ _ t3)
              clear t0 t1 t2 t3
              have HB1 : Aside0 (Below wc.heap.size wc (wc.drew.alloc (.cells #[.int .u64 (gi T i).x.f0, .int .i64 (gi T i).x.f1.f0, .slice (gi T i).A (gi T i).x.f1.f1.length (gi T i).c, .string (gi T i).x.f1.f2] 65))) := ⟨below_alloc (below_drew (Below.refl wc.heap.size wc)) _⟩
              have HLT : Aside0 (Lie (wc.drew.alloc (.cells #[.int .u64 (gi T i).x.f0, .int .i64 (gi T i).x.f1.f0, .slice (gi T i).A (gi T i).x.f1.f1.length (gi T i).c, .string (gi T i).x.f1.f2] 65)) (some ⟨wc.heap.size, 0, none⟩) [gi T i]) := ⟨fun _ => ⟨_, rfl, fun j u hu => by
                have hn := blk_new wc.drew (.cells #[.int .u64 (gi T i).x.f0, .int .i64 (gi T i).x.f1.f0, .slice (gi T i).A (gi T i).x.f1.f1.length (gi T i).c, .string (gi T i).x.f1.f2] 65)
                match j with
                | 0 => exact (blk_cell hn 0).trans (by simpa [cells4] using hu)
                | 1 => exact (blk_cell hn 1).trans (by simpa [cells4] using hu)
                | 2 => exact (blk_cell hn 2).trans (by simpa [cells4] using hu)
                | 3 => exact (blk_cell hn 3).trans (by simpa [cells4] using hu)
                | j + 4 => simp [cells4] at hu⟩⟩
              have HSZ : Aside0 ((wc.drew.alloc (.cells #[.int .u64 (gi T i).x.f0, .int .i64 (gi T i).x.f1.f0, .slice (gi T i).A (gi T i).x.f1.f1.length (gi T i).c, .string (gi T i).x.f1.f2] 65)).heap.size = wc.heap.size + 1 ∧ i < 2513169434843 ∧ k ≤ i ∧ (D.drop k).length = i - k) := ⟨by simp, by have := HN.out; have := HIN.out; omega, HK.out.1, by have := HI.out; simp; omega⟩
              have HFIN : Aside0 (∀ (v1 v2 : Value) (w1 w2 : World), Row w1 (wc.drew.alloc (.cells #[.int .u64 (gi T i).x.f0, .int .i64 (gi T i).x.f1.f0, .slice (gi T i).A (gi T i).x.f1.f1.length (gi T i).c, .string (gi T i).x.f1.f2] 65)).heap.size 65 4 v1 ((D.take k).length + 1) (cells4 (D.take k ++ [gi T i])) → (wc.drew.alloc (.cells #[.int .u64 (gi T i).x.f0, .int .i64 (gi T i).x.f1.f0, .slice (gi T i).A (gi T i).x.f1.f1.length (gi T i).c, .string (gi T i).x.f1.f2] 65)).grownBy w1 none → Row w2 (wc.drew.alloc (.cells #[.int .u64 (gi T i).x.f0, .int .i64 (gi T i).x.f1.f0, .slice (gi T i).A (gi T i).x.f1.f1.length (gi T i).c, .string (gi T i).x.f1.f2] 65)).heap.size 65 4 v2 ((D.take k ++ [gi T i]).length + (i - k)) (cells4 (D.take k ++ [gi T i] ++ D.drop k)) → w1.grownBy w2 v1.ownBlock → ∃ (A9 : Option Addr) (c9 : Nat), v2 = .slice A9 (i + 1) c9 ∧ Row w2 w.heap.size 65 4 (.slice A9 (i + 1) c9) (i + 1) (cells4 (D.take k ++ gi T i :: D.drop k)) ∧ Below w.heap.size w w2 ∧ Below wc.heap.size wc w2) := ⟨fun v1 v2 w1 w2 h1 h2 h3 h4 => by
                have hb1 : Below wc.heap.size wc w1 := HB1.out.grown h2 HB1.out.size (fun q hq => by cases hq)
                have hb2 : Below wc.heap.size wc w2 := hb1.grown h4 hb1.size (fun q hq => by
                  have := h1.own
                  have h5 := own_base this q hq
                  have := HSZ.out.1
                  omega)
                have hl : (D.take k ++ [gi T i]).length + (i - k) = i + 1 := by have := HRC.out.2.1; have := HSZ.out.2.2.1; simp at *; omega
                rw [hl, show D.take k ++ [gi T i] ++ D.drop k = D.take k ++ gi T i :: D.drop k from by simp] at h3
                obtain ⟨A9, c9, rfl, _⟩ := h3.form
                exact ⟨A9, c9, rfl, own_weaken h3.own (by have := HSZ.out.1; have := HB.out.size; omega), below_step HB.out hb2, hb2⟩⟩
              rcases HR.out.2 with ⟨hv, h0⟩ | ⟨g, cap, cur, hv, _, _, hc, _⟩
              · injection hv with hv1 hv2 hv3
                subst hv1
                obtain rfl : k = 0 := by have := HK.out.1; omega
                have z1 : 0 ≤ i := Nat.zero_le _
                have z2 : i ≤ c5 := by omega
                have z3 : i < n := HIN.out
                have z4 : 0 ≤ c5 := Nat.zero_le _
                clear h0 hv2 hv3
                go_wp2
                go_region_held3 (fun w' => ((w'.cell? (ad.add (i * 4)) = some (.int .u64 (gi T i).x.f0) ∧ w'.cell? ⟨(ad.add (i * 4)).block, (ad.add (i * 4)).off + 1, none⟩ = some (.int .i64 (gi T i).x.f1.f0)) ∧ w'.cell? ⟨(ad.add (i * 4)).block, (ad.add (i * 4)).off + 2, none⟩ = some (.slice (gi T i).A (gi T i).x.f1.f1.length (gi T i).c)) ∧ w'.cell? ⟨(ad.add (i * 4)).block, (ad.add (i * 4)).off + 3, none⟩ = some (.string (gi T i).x.f1.f2)) (first | go_keep | exact ⟨⟨⟨y0, y1⟩, y2⟩, y3⟩) (first | (refine step_grown rfl (.tmp 43) (.tmp 48) rfl none 0 (D.take 0) rfl (HRC.out.1.below HB1.out) (by simp) (fun _ => rfl) _ 1 1 [gi T i] rfl rfl HLT.out (by omega) (by have := HSZ.out; have := HRC.out; omega) ?_; intro v1 w1 hr hg; have R1 := Aside0.mk hr; have G1 := Aside0.mk hg; have B1 : Aside0 (Below wc.heap.size wc w1) := ⟨HB1.out.grown hg HB1.out.size (fun q hq => by cases hq)⟩; obtain ⟨y0, y1, y2, y3⟩ : _ ∧ _ ∧ _ ∧ _ := ⟨pw_cell_below B1.out x0, pw_cell_below B1.out x1, pw_cell_below B1.out x2, pw_cell_below B1.out x3⟩; clear hr hg) | (refine step_items rfl (.tmp 49) (.tmp 50) rfl (wc.drew.alloc (.cells #[.int .u64 (gi T i).x.f0, .int .i64 (gi T i).x.f1.f0, .slice (gi T i).A (gi T i).x.f1.f1.length (gi T i).c, .string (gi T i).x.f1.f2] 65)).heap.size v1 (D.take 0 ++ [gi T i]) rfl (by rw [List.length_append]; exact R1.out) G1.out.size A8 (i - 0) c8 (D.drop 0) rfl HSZ.out.2.2.2 H8.out.2 (H8.out.1.below B1.out) (by have := HSZ.out; have := HRC.out; simp; omega) ?_; intro v2 w2 hr hg hat; obtain ⟨A9, c9, rfl, hR9, hB9, hb9⟩ := HFIN.out v1 v2 w1 w2 R1.out G1.out hr hg; have R9 := Aside0.mk hR9; have B9 := Aside0.mk hB9; obtain ⟨y0, y1, y2, y3⟩ : _ ∧ _ ∧ _ ∧ _ := ⟨pw_cell_below hb9 x0, pw_cell_below hb9 x1, pw_cell_below hb9 x2, pw_cell_below hb9 x3⟩; clear hr hg hat hR9 hB9 hb9))
                go_wp2
                go_roundw
                case rel => exact ⟨i + 1, A9, c9, D.take 0 ++ gi T i :: D.drop 0, rfl, by go_num, ⟨by have := HN.out; have := HIN.out; omega, by have := HSZ.out; have := HRC.out.2.1; simp at *; omega⟩, R9, B9, HPUT⟩
                case measure => simp [intOf]; have := HIN.out; omega
              · injection hv with hv1 _ hv3
                subst hv1 hv3
                have z1 : k ≤ i := HK.out.1
                have z2 : i ≤ c5 := hc
                have z3 : i < n := HIN.out
                have z4 : k ≤ c5 := by omega
                go_wp2
                go_region_held3 (fun w' => ((w'.cell? (ad.add (i * 4)) = some (.int .u64 (gi T i).x.f0) ∧ w'.cell? ⟨(ad.add (i * 4)).block, (ad.add (i * 4)).off + 1, none⟩ = some (.int .i64 (gi T i).x.f1.f0)) ∧ w'.cell? ⟨(ad.add (i * 4)).block, (ad.add (i * 4)).off + 2, none⟩ = some (.slice (gi T i).A (gi T i).x.f1.f1.length (gi T i).c)) ∧ w'.cell? ⟨(ad.add (i * 4)).block, (ad.add (i * 4)).off + 3, none⟩ = some (.string (gi T i).x.f1.f2)) (first | go_keep | exact ⟨⟨⟨y0, y1⟩, y2⟩, y3⟩) (first | (refine step_grown rfl (.tmp 43) (.tmp 48) rfl (some _) k (D.take k) rfl (HRC.out.1.below HB1.out) HRC.out.2.1 (by intro h; cases h) _ 1 1 [gi T i] rfl rfl HLT.out (by omega) (by have := HSZ.out; have := HRC.out; omega) ?_; intro v1 w1 hr hg; have R1 := Aside0.mk hr; have G1 := Aside0.mk hg; have B1 : Aside0 (Below wc.heap.size wc w1) := ⟨HB1.out.grown hg HB1.out.size (fun q hq => by cases hq)⟩; obtain ⟨y0, y1, y2, y3⟩ : _ ∧ _ ∧ _ ∧ _ := ⟨pw_cell_below B1.out x0, pw_cell_below B1.out x1, pw_cell_below B1.out x2, pw_cell_below B1.out x3⟩; clear hr hg) | (refine step_items rfl (.tmp 49) (.tmp 50) rfl (wc.drew.alloc (.cells #[.int .u64 (gi T i).x.f0, .int .i64 (gi T i).x.f1.f0, .slice (gi T i).A (gi T i).x.f1.f1.length (gi T i).c, .string (gi T i).x.f1.f2] 65)).heap.size v1 (D.take k ++ [gi T i]) rfl (by rw [List.length_append]; exact R1.out) G1.out.size A8 (i - k) c8 (D.drop k) rfl HSZ.out.2.2.2 H8.out.2 (H8.out.1.below B1.out) (by have := HSZ.out; have := HRC.out; simp; omega) ?_; intro v2 w2 hr hg hat; obtain ⟨A9, c9, rfl, hR9, hB9, hb9⟩ := HFIN.out v1 v2 w1 w2 R1.out G1.out hr hg; have R9 := Aside0.mk hR9; have B9 := Aside0.mk hB9; obtain ⟨y0, y1, y2, y3⟩ : _ ∧ _ ∧ _ ∧ _ := ⟨pw_cell_below hb9 x0, pw_cell_below hb9 x1, pw_cell_below hb9 x2, pw_cell_below hb9 x3⟩; clear hr hg hat hR9 hB9 hb9))
                go_wp2
                go_roundw
                case rel => exact ⟨i + 1, A9, c9, D.take k ++ gi T i :: D.drop k, rfl, by go_num, ⟨by have := HN.out; have := HIN.out; omega, by have := HSZ.out; have := HRC.out.2.1; simp at *; omega⟩, R9, B9, HPUT⟩
                case measure => simp [intOf]; have := HIN.out; omega
    · have d1 : decide (i < n) = false := decide_eq_false hin
      have hi : i = n := by have := HI.out; omega
      have HE : Aside0 (D = G) := ⟨by
        have h1 := HD.out.2
        rw [hi, List.take_of_length_le (by have := HN.out; omega)] at h1
        exact Stb.uniq (fun q => (HGS.out.2 q).trans (h1 q).symm) HD.out.1 HGS.out.1⟩
      have HS : Aside0 (Calls Try.prog 46 #[.slice Ag G.length cg, .slice A5 i c5] wr fun e w' => e = .returned (.bool true) ∧ Below wr.heap.size wr w') := ⟨by
        have hl : i = G.length := by rw [← HE.out]; exact HI.out.2.symm
        have hr := HR.out
        rw [HE.out, hl] at hr
        obtain ⟨A', c', e, hc, hL⟩ := Lie.of_row hr
        injection e with e _ ec
        subst e ec
        rw [hl]
        obtain ⟨q, hq⟩ := HSA.out
        have h2 := waywiserref15_Same.calls q Ag cg (G.map It.x) A5 c5 (G.map It.x) true wr (by rw [List.length_map]; exact Kd.C_below HG.out HB.out) (by rw [List.length_map]; exact HCG.out) (by rw [List.length_map]; exact reads_of hL ((HNT.out.stb HGS.out.2).below HB.out) (by have := HN.out; omega)) (by rw [List.length_map]; exact hc) hq
        rw [List.length_map] at h2
        exact h2⟩
      clear hi hin
      go_wp2_with ((go_at_call 46; (with_reducible refine HS.out.mono ?_); rintro e w1 ⟨rfl, hb⟩; have B1 := Aside0.mk (below_step HB.out hb); clear hb))
      go_returns
      exact ⟨rfl, B1⟩
end Go.Proofs.Ytncbnejldlfbdaa.PIdx
