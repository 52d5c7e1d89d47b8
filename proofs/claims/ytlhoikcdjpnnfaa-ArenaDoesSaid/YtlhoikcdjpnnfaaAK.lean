/- What the law ArenaDoes answers, for deeds that are fewer than 2^43. -/
import Derived.Test.YtlhoikcdjpnnfaaBA
import Derived.StillTailTactics
import Derived.Deep.RegionHeld3
import Derived.Deep.DeepCutAuto
namespace Go.Proofs.Ytlhoikcdjpnnfaa.PArena
open Go.RowKit Go.Proofs.YtlhoikcdjpnnfaaW.PrintWords Go.Proofs.YtlhoikcdjpnnfaaW.PrintLast Go.Proofs.YtlhoikcdjpnnfaaW.PrintMore
open Go.Proofs.Ytlhoikcdjpnnfaa.PRef
set_option linter.unusedVariables false
set_option linter.unusedSimpArgs false
set_option maxHeartbeats 16000000 in
set_option maxRecDepth 100000 in
theorem does_calls (A : Option Addr) (c : Nat) (ds : List Deed) (w : World) (hr : Deeds w A ds.length ds) (hc : ds.length ≤ c) (hn : ds.length < 8796093022208 - 1) :
    Calls Try.prog 6 #[.slice A ds.length c] w fun e w' => e = .returned (.bool true) ∧ Below w.heap.size w w' := by
  have HR := Aside0.mk hr
  have hu43 := Try.underlying43
  have hu36 := Try.underlying36
  clear hr hc
  have hn1 : (ds.length : Int) ≤ 8796093022208 := by omega
  go_enter Try.func6, Try.ntmps6
  go_wp2_with ((go_at_call 15; (with_reducible refine (newS_calls _).mono ?_); rintro e w1 ⟨g, rfl, ha, hb⟩; have HA := Aside0.mk ha; have HB := Aside0.mk hb; clear ha hb))
  have H0 : Aside0 (Two w g w1.heap.size (w1.alloc (.cells #[.slice none 0 0, .slice none 0 0] 43)) [] [] [] [] (fun k => w.heap.size ≤ k ∧ k < w1.heap.size) (.slice none 0 0) (.slice none 0 0)) :=
    ⟨⟨HA.out.alloc _, fun k hk => by simp; omega, blk_new _ _, fun hk => by omega, HB.out.size, Kd.R_nil _ _ _ _ _, Kd.R_nil _ _ _ _ _, below_alloc HB.out _⟩⟩
  clear HA HB
  generalize w1.heap.size = gR at H0 ⊢
  go_loopw [5] (fun v5 wr => ∃ (n : Nat) (sl : List Slot) (fr : List Int) (S : Nat → Prop) (vL vF : Value), n ≤ ds.length ∧ v5 = .int .i64 (n : Int) ∧ Aside0 (Two w g gR wr sl fr sl fr S vL vF) ∧ Aside0 (Free sl fr) ∧ Aside0 (Full sl fr) ∧ Aside0 (sl.length ≤ n) ∧ Aside0 (fr.length ≤ n)) (fun i _ => ds.length - (intOf i).toNat)
  case atStart => exact ⟨0, [], [], _, _, _, Nat.zero_le _, rfl, H0, ⟨Free.nil _⟩, ⟨Full.nil⟩, ⟨by simp⟩, ⟨by simp⟩⟩
  case round =>
    clear H0
    obtain ⟨n, sl, fr, S, vL, vF, hle, rfl, HT, HF, HU, HL1, HL2⟩ := hrel
    by_cases hlt : n < ds.length
    · obtain ⟨ad, hA, hcells⟩ := (HR.out.below HT.out.hB).2.2 (by omega)
      subst hA
      obtain ⟨p, hp⟩ : ∃ p, ds[n]? = some p := ⟨ds[n], List.getElem?_eq_getElem hlt⟩
      obtain ⟨hx0, hx1, hx2⟩ := hcells n p hp
      obtain ⟨kd, sn, z⟩ := p
      simp only at hx0 hx1 hx2
      rw [add_field _ _ 1 (by omega)] at hx1
      rw [add_field _ _ 2 (by omega)] at hx2
      clear hcells hp
      have hd : (wr.alloc (.cells #[.int .i64 kd, .int .i64 sn, .int .i64 z] 36)).heap[wr.heap.size]? = some (.cells #[.int .i64 kd, .int .i64 sn, .int .i64 z] 36 (0, 0)) := blk_new _ _
      have ND : Aside0 (¬ S wr.heap.size) := ⟨fun h => by have := HT.out.sb _ h; omega⟩
      have NE : Aside0 (wr.heap.size ≠ gR) := ⟨fun e => by have := blk_lt HT.out.hg; omega⟩
      have n0_ := Aside0.mk (HT.out.below (below_alloc (Below.refl _ _) (.cells #[.int .i64 kd, .int .i64 sn, .int .i64 z] 36)))
      clear HT
      have HT := n0_
      clear n0_
      have HD := Aside0.mk hd
      clear hd
      go_upto_block 2 with (fail)
      go_cut [7, 8, 9, 10] (fun v7 v8 v9 v10 wc => ∃ (a : Int) (b : Bool) (sl1 : List Slot) (fr1 : List Int) (S1 : Nat → Prop) (vL1 vF1 : Value), v7 = .int .i64 a ∧ v8 = .int .i64 a ∧ v9 = .bool b ∧ v10 = .bool b ∧ Aside0 (Two w g gR wc sl1 fr1 sl1 fr1 S1 vL1 vF1) ∧ Aside0 (wc.heap[wr.heap.size]? = some (.cells #[.int .i64 kd, .int .i64 sn, .int .i64 z] 36 (0, 0))) ∧ Aside0 (Free sl1 fr1) ∧ Aside0 (Full sl1 fr1) ∧ Aside0 (sl1.length ≤ n + 1) ∧ Aside0 (fr1.length ≤ n + 1))
      case first =>
        by_cases hk : kd = 0
        · subst hk
          rcases List.eq_nil_or_concat fr with rfl | ⟨fr, j, rfl⟩
          · obtain ⟨A1, c1, e1⟩ := Kd.R_slice HT.out.rl
            subst e1
            obtain ⟨A2, c2, e2⟩ := Kd.R_slice HT.out.rf
            subst e2
            have FP := Aside0.mk (rput_new sl z (by have := HL1.out; omega))
            go_wp2_with (first | (go_at_call 16; (with_reducible refine (putS_new g w.heap.size sl S z w _ HT.out.ar HT.out.hB HT.out.hB.size (by have := HL1.out; omega)).mono ?_); rintro e w3 ⟨rfl, ha, hb, hk⟩; have n0_ := Aside0.mk (HT.out.arena ha hb hk); have n1_ := Aside0.mk (Kept.blk hk HD.out ND.out).1; have n2_ := Aside0.mk (Kept.blk hk HD.out ND.out).2; clear HT HD ND; have HT := n0_; have HD := n1_; have ND := n2_; clear n0_ n1_ n2_ ha hb hk; have hg0 : w3.cell? ⟨gR, 0, none⟩ = some _ := (blk_cell HT.out.hg 0).trans rfl; have hg1 : w3.cell? ⟨gR, 1, none⟩ = some _ := (blk_cell HT.out.hg 1).trans rfl; have hd1 : w3.cell? ⟨wr.heap.size, 1, none⟩ = some _ := (blk_cell HD.out 1).trans rfl; have hd2 : w3.cell? ⟨wr.heap.size, 2, none⟩ = some _ := (blk_cell HD.out 2).trans rfl) | (go_at_call 21; (with_reducible refine (rput_new_calls A1 c1 sl A2 c2 z _ ((Kd.R_reads' HT.out.rl).2.2) ((Kd.R_reads' HT.out.rl).2.1) ((Kd.R_reads' HT.out.rf).2.2) (by have := HL1.out; omega)).mono ?_); rintro e w4 ⟨u0, u1, rfl, r0, r1, hb⟩; obtain ⟨B0, d0, e0⟩ := Kd.R_slice r0; obtain ⟨B1, d1, e1⟩ := Kd.R_slice r1; have G4 := Aside0.mk (blk_below HT.out.hg hb); have n0_ := Aside0.mk (HT.out.fresh hb r0 r1); have n1_ := Aside0.mk (blk_two (gR := gR) (u0 := u0) (u1 := u1) (blk_below HD.out hb) NE.out); clear HT HD; have HT := n0_; have HD := n1_; clear n0_ n1_ r0 r1 hb; subst e0; subst e1; have hs0 : w4.cell? ⟨gR, 0, none⟩ = some _ := (blk_cell G4.out 0).trans rfl; have hs1 : w4.cell? ⟨gR, 1, none⟩ = some _ := (blk_cell G4.out 1).trans rfl; have hz0 := blk_frozen G4.out 0; have hz1 := blk_frozen G4.out 1))
            go_meet
            case rel => exact ⟨_, _, _, _, _, _, _, rfl, rfl, rfl, rfl, HT, HD, ⟨Free.put_new sl z⟩, ⟨HU.out.put_new z⟩, ⟨by have := HL1.out; rw [List.length_append, List.length_singleton]; omega⟩, ⟨by simp⟩⟩
          · rw [List.concat_eq_append] at HT HF HL2 HU
            obtain ⟨m, rfl, y, hy⟩ := HF.out.last
            have HY := Aside0.mk hy
            clear hy
            obtain ⟨A1, c1, e1⟩ := Kd.R_slice HT.out.rl
            subst e1
            obtain ⟨A2, c2, e2⟩ := Kd.R_slice HT.out.rf
            subst e2
            have FP := Aside0.mk (rput_free sl fr m z (by have := HL1.out; omega) (by have := HL2.out; rw [List.length_append] at this; omega) (get_of HY.out))
            go_wp2_with (first | (go_at_call 16; (with_reducible refine (putS_free g w.heap.size sl fr S m z w _ HT.out.ar HT.out.hB (get_of HY.out) (by have := HL1.out; omega) (by have := HL2.out; rw [List.length_append] at this; omega)).mono ?_); rintro e w3 ⟨rfl, ha, hb, hk⟩; have n0_ := Aside0.mk (HT.out.arena (ha.mono (fun k h => .inl h)) hb hk); have n1_ := Aside0.mk (Kept.blk hk HD.out ND.out).1; have n2_ := Aside0.mk (Kept.blk hk HD.out ND.out).2; clear HT HD ND; have HT := n0_; have HD := n1_; have ND := n2_; clear n0_ n1_ n2_ ha hb hk; have hg0 : w3.cell? ⟨gR, 0, none⟩ = some _ := (blk_cell HT.out.hg 0).trans rfl; have hg1 : w3.cell? ⟨gR, 1, none⟩ = some _ := (blk_cell HT.out.hg 1).trans rfl; have hd1 : w3.cell? ⟨wr.heap.size, 1, none⟩ = some _ := (blk_cell HD.out 1).trans rfl; have hd2 : w3.cell? ⟨wr.heap.size, 2, none⟩ = some _ := (blk_cell HD.out 2).trans rfl) | (go_at_call 21; (with_reducible refine (rput_free_calls A1 c1 sl A2 c2 fr m z _ ((Kd.R_reads' HT.out.rl).2.2) ((Kd.R_reads' HT.out.rl).2.1) ((Kd.R_reads' HT.out.rf).2.2) ((Kd.R_reads' HT.out.rf).2.1) (by have := HL1.out; omega) (by have := HL2.out; rw [List.length_append] at this; omega) (get_of HY.out)).mono ?_); rintro e w4 ⟨u0, u1, rfl, r0, r1, hb⟩; obtain ⟨B0, d0, e0⟩ := Kd.R_slice r0; obtain ⟨B1, d1, e1⟩ := Kd.R_slice r1; have G4 := Aside0.mk (blk_below HT.out.hg hb); have n0_ := Aside0.mk (HT.out.fresh hb r0 r1); have n1_ := Aside0.mk (blk_two (gR := gR) (u0 := u0) (u1 := u1) (blk_below HD.out hb) NE.out); clear HT HD; have HT := n0_; have HD := n1_; clear n0_ n1_ r0 r1 hb; subst e0; subst e1; have hs0 : w4.cell? ⟨gR, 0, none⟩ = some _ := (blk_cell G4.out 0).trans rfl; have hs1 : w4.cell? ⟨gR, 1, none⟩ = some _ := (blk_cell G4.out 1).trans rfl; have hz0 := blk_frozen G4.out 0; have hz1 := blk_frozen G4.out 1))
            go_meet
            case rel => exact ⟨_, _, _, _, _, _, _, rfl, rfl, rfl, rfl, HT, HD, ⟨HF.out.put_free z⟩, ⟨HU.out.put_free HY.out z⟩, ⟨by have := HL1.out; rw [List.length_set]; omega⟩, ⟨by have := HL2.out; rw [List.length_append] at this; omega⟩⟩
        · have k0 : (kd == 0) = false := by simp [hk]
          clear hk
          obtain ⟨A1, c1, e1⟩ := Kd.R_slice HT.out.rl
          subst e1
          obtain ⟨A2, c2, e2⟩ := Kd.R_slice HT.out.rf
          subst e2
          by_cases hk1 : kd = 1
          · subst hk1
            have FP := Aside0.mk (rcut_f sl fr sn (by have := HL1.out; omega) (by have := HL2.out; omega))
            go_wp2_with (first | (go_at_call 17; (with_reducible refine (cutS_calls g w.heap.size sl fr S sn w _ HT.out.ar HT.out.hB HT.out.hB.size (by have := HL2.out; omega)).mono ?_); rintro e w3 ⟨rfl, ha, hb, hk⟩; have n0_ := Aside0.mk (HT.out.arena ha hb hk); have n1_ := Aside0.mk (Kept.blk hk HD.out ND.out).1; have n2_ := Aside0.mk (Kept.blk hk HD.out ND.out).2; clear HT HD ND; have HT := n0_; have HD := n1_; have ND := n2_; clear n0_ n1_ n2_ ha hb hk; have hg0 : w3.cell? ⟨gR, 0, none⟩ = some _ := (blk_cell HT.out.hg 0).trans rfl; have hg1 : w3.cell? ⟨gR, 1, none⟩ = some _ := (blk_cell HT.out.hg 1).trans rfl; have hd1 : w3.cell? ⟨wr.heap.size, 1, none⟩ = some _ := (blk_cell HD.out 1).trans rfl; have hd2 : w3.cell? ⟨wr.heap.size, 2, none⟩ = some _ := (blk_cell HD.out 2).trans rfl) | (go_at_call 22; (with_reducible refine (waywiserref13_Cut.calls _ _ (toS sl) _ _ fr sn _ _ _ w _ HT.out.hB (Kd.R_types (Kd.R_types HT.out.rl HT.out.hg (by decide)) HD.out (by decide)) (Kd.R_types (Kd.R_types HT.out.rf HT.out.hg (by decide)) HD.out (by decide)) FP.out).mono ?_); rintro e w4 ⟨u0, u1, rfl, r0, r1, hb, hk⟩; obtain ⟨B0, d0, e0⟩ := Kd.R_slice r0; obtain ⟨B1, d1, e1⟩ := Kd.R_slice r1; have G4 := Aside0.mk ((hk.2 gR (blk_lt HT.out.hg) (fun hp => hp.elim (fun h => h.1.2 rfl) (fun h => h.1.2 rfl))).trans HT.out.hg); have n0_ := Aside0.mk (HT.out.own (fun k hp => hp.1) hb hk r0 r1); have n1_ := Aside0.mk (blk_two (gR := gR) (u0 := u0) (u1 := u1) ((hk.2 _ (blk_lt HD.out) (fun hp => hp.elim (fun h => h.2 rfl) (fun h => h.2 rfl))).trans HD.out) NE.out); clear HT HD; have HT := n0_; have HD := n1_; clear n0_ n1_ r0 r1 hb hk; subst e0; subst e1; have hs0 : w4.cell? ⟨gR, 0, none⟩ = some _ := (blk_cell G4.out 0).trans rfl; have hs1 : w4.cell? ⟨gR, 1, none⟩ = some _ := (blk_cell G4.out 1).trans rfl; have hz0 := blk_frozen G4.out 0; have hz1 := blk_frozen G4.out 1))
            go_meet
            case rel => exact ⟨_, _, _, _, _, _, _, rfl, rfl, rfl, rfl, HT, HD, ⟨HF.out.cut sn⟩, ⟨HU.out.cut sn⟩, ⟨by have := HL1.out; rw [cutS_len]; omega⟩, ⟨by have := HL2.out; have := cutF_len sl fr sn; omega⟩⟩
          · have k1 : (kd == 1) = false := by simp [hk1]
            clear hk1
            have FP := Aside0.mk (rset_f sl fr sn z (by have := HL1.out; omega))
            go_wp2_with (first | (go_at_call 18; (with_reducible refine (setS_calls g w.heap.size sl fr S sn z w _ HT.out.ar HT.out.hB).mono ?_); rintro e w3 ⟨rfl, ha, hb, hk⟩; have n0_ := Aside0.mk (HT.out.arena (ha.mono (fun k h => .inl h)) hb hk); have n1_ := Aside0.mk (Kept.blk hk HD.out ND.out).1; have n2_ := Aside0.mk (Kept.blk hk HD.out ND.out).2; clear HT HD ND; have HT := n0_; have HD := n1_; have ND := n2_; clear n0_ n1_ n2_ ha hb hk; have hg0 : w3.cell? ⟨gR, 0, none⟩ = some _ := (blk_cell HT.out.hg 0).trans rfl; have hg1 : w3.cell? ⟨gR, 1, none⟩ = some _ := (blk_cell HT.out.hg 1).trans rfl; have hd1 : w3.cell? ⟨wr.heap.size, 1, none⟩ = some _ := (blk_cell HD.out 1).trans rfl; have hd2 : w3.cell? ⟨wr.heap.size, 2, none⟩ = some _ := (blk_cell HD.out 2).trans rfl) | (go_at_call 23; (with_reducible refine (waywiserref13_Set.calls _ _ (toS sl) _ _ fr sn z _ _ _ w _ HT.out.hB (Kd.R_types (Kd.R_types HT.out.rl HT.out.hg (by decide)) HD.out (by decide)) (Kd.R_types (Kd.R_types HT.out.rf HT.out.hg (by decide)) HD.out (by decide)) FP.out).mono ?_); rintro e w4 ⟨u0, u1, rfl, r0, r1, hb, hk⟩; obtain ⟨B0, d0, e0⟩ := Kd.R_slice r0; obtain ⟨B1, d1, e1⟩ := Kd.R_slice r1; have G4 := Aside0.mk ((hk.2 gR (blk_lt HT.out.hg) (fun hp => hp.elim (fun h => h.1.2 rfl) (fun h => h.1.2 rfl))).trans HT.out.hg); have n0_ := Aside0.mk (HT.out.own (fun k hp => hp.1) hb hk r0 r1); have n1_ := Aside0.mk (blk_two (gR := gR) (u0 := u0) (u1 := u1) ((hk.2 _ (blk_lt HD.out) (fun hp => hp.elim (fun h => h.2 rfl) (fun h => h.2 rfl))).trans HD.out) NE.out); clear HT HD; have HT := n0_; have HD := n1_; clear n0_ n1_ r0 r1 hb hk; subst e0; subst e1; have hs0 : w4.cell? ⟨gR, 0, none⟩ = some _ := (blk_cell G4.out 0).trans rfl; have hs1 : w4.cell? ⟨gR, 1, none⟩ = some _ := (blk_cell G4.out 1).trans rfl; have hz0 := blk_frozen G4.out 0; have hz1 := blk_frozen G4.out 1))
            go_meet
            case rel => exact ⟨_, _, _, _, _, _, _, rfl, rfl, rfl, rfl, HT, HD, ⟨HF.out.set sn z⟩, ⟨HU.out.set sn z⟩, ⟨by have := HL1.out; rw [setB_len]; omega⟩, ⟨by have := HL2.out; omega⟩⟩
      case rest =>
        obtain ⟨a, b, sl1, fr1, S1, vL1, vF1, rfl, rfl, rfl, rfl, HT1, HD1, HF1, HU1, HL3, HL4⟩ := hcut
        clear HT HD HF HU HL1 HL2 hx0 hx1 hx2 ND NE
        obtain ⟨A1, c1, e1⟩ := Kd.R_slice HT1.out.rl
        subst e1
        obtain ⟨A2, c2, e2⟩ := Kd.R_slice HT1.out.rf
        subst e2
        have HT := HT1
        clear HT1
        have hd1 : wc.cell? ⟨wr.heap.size, 1, none⟩ = some (.int .i64 sn) := (blk_cell HD1.out 1).trans rfl
        have hg0 : wc.cell? ⟨gR, 0, none⟩ = some (.slice A1 (toS sl1).length c1) := (blk_cell HT.out.hg 0).trans rfl
        have hg1 : wc.cell? ⟨gR, 1, none⟩ = some (.slice A2 fr1.length c2) := (blk_cell HT.out.hg 1).trans rfl
        clear HD1
        have hs1 : (sl1.length : Int) ≤ 8796093022208 := by have := HL3.out; omega
        have hs2 : (fr1.length : Int) ≤ 8796093022208 := by have := HL4.out; omega
        have HS : Aside0 ((sl1.length : Int) = ((toS sl1).length : Int)) := ⟨by rw [toS_length]⟩
        have HE : Aside0 ((sl1.length : Int) - (fr1.length : Int) = ((usedL sl1 sl1.length).length : Int)) := ⟨by have := HU1.out.used; omega⟩
        have HI := Aside0.mk (ints_f (usedL sl1 sl1.length) (by have := usedL_le sl1 sl1.length; omega))
        go_wp2_with (first | (go_at_call 19; (with_reducible refine (get_calls g w.heap.size sl1 fr1 sn _ HT.out.ar.ar).mono ?_); rintro e w3 ⟨rfl, rfl⟩) | (go_at_call 24; (with_reducible refine (waywiserref13_Get.calls A1 c1 (toS sl1) A2 c2 fr1 sn _ _ _ ((Kd.R_reads' HT.out.rl).2.2) ((Kd.R_reads' HT.out.rl).2.1) ((Kd.R_reads' HT.out.rf).2.2) ((Kd.R_reads' HT.out.rf).2.1) (rget_f sl1 fr1 sn)).mono ?_); rintro e w4 ⟨rfl, hb⟩; have n0_ := Aside0.mk (HT.out.below hb); clear HT; have HT := n0_; clear n0_ hb; have tok0 : Aside0 True := ⟨trivial⟩))
        clear hg0 hg1 hd1
        go_loopw [15, 16] (fun v15 v16 w5 => ∃ m : Nat, m ≤ sl1.length ∧ v16 = .int .i64 (m : Int) ∧ Aside0 (Kd.R (Kd.int .i64) 3 w5 w4.heap.size (fun _ => True) v15 (usedL sl1 m)) ∧ Aside0 (Below w4.heap.size w4 w5)) (fun _ i _ => sl1.length - (intOf i).toNat)
        case atStart => exact ⟨0, Nat.zero_le _, rfl, ⟨Kd.R_nil _ _ _ _ _⟩, ⟨Below.refl _ _⟩⟩
        case round =>
          obtain ⟨m, hm, rfl, HO, HB⟩ := hrel
          have H5 := Aside0.mk (HT.out.below HB.out)
          have hg0 : wr.cell? ⟨gR, 0, none⟩ = some (.slice A1 (toS sl1).length c1) := (blk_cell H5.out.hg 0).trans rfl
          by_cases hlm : m < sl1.length
          · obtain ⟨p, hp⟩ : ∃ p, sl1[m]? = some p := ⟨sl1[m], List.getElem?_eq_getElem hlm⟩
            obtain ⟨a1, rfl, hx, _⟩ := at_T51 (Kd.R_reads' H5.out.rl).2.2 (m : Int) (by omega) (by rw [toS_length]; omega)
            rw [toS_at sl1 m p hp, Int.toNat_natCast] at hx
            have hq : hasB sl1 (m : Int) = p.1 := by simp [hasB, hp]
            have HW : Aside0 (usedL sl1 (m + 1) = if p.1 = true then usedL sl1 m ++ [(m : Int)] else usedL sl1 m) := ⟨by simp only [usedL, hq]⟩
            have HN := Aside0.mk (usedL_le sl1 m)
            have d1 : decide ((m : Int) < ((toS sl1).length : Int)) = true := decide_eq_true (by rw [toS_length]; omega)
            have d2 : m < (toS sl1).length := by rw [toS_length]; exact hlm
            clear hp hq
            obtain ⟨pu, px⟩ := p
            cases pu with
            | true =>
              replace hx : wr.cell? (a1.add (m * 2)) = some (.bool true) := hx
              go_wp2_with (((with_reducible refine gate_builtin (b := .append) (xs := #[.tmp 98, .tmp 100]) rfl ?_); at_builtin; refine Kd.R_append (Kd.int .i64) (w0 := w4) w4.heap.size rfl (.tmp 98) (.tmp 100) 22 3 (.int .i64 0) 8 rfl Try.underlying22 info3 rfl (by decide) (by omega) _ (usedL sl1 m) (m : Int) [.int .i64 (m : Int)] (fun _ => True) (fun _ => False) rfl rfl ?aP (fun _ hk => hk.elim) ?aF ?aO ?aB ?aS ?aL ?_; (case aP => exact rfl); (case aB => exact (by repeat (first | (with_reducible first | exact HB.out | apply below_alloc | apply pw_below_drewN | apply below_drew1) | exact HB.out))); (case aF => exact (fun _ _ => trivial)); (case aO => exact (by (with_reducible repeat (first | apply Kd.R_alloc | apply Kd.R_drewN | apply Kd.R_drew)); exact HO.out)); (case aS => exact (below_size (by repeat (first | (with_reducible first | exact HB.out | apply below_alloc | apply pw_below_drewN | apply below_drew1) | exact HB.out)))); (case aL => have := HN.out; omega); intro v1 w1 ho hb2 hg2 hat; have n0_ := Aside0.mk hb2; have n1_ := Aside0.mk ho; clear HB HO; have HB := n0_; have HO := n1_; clear n0_ n1_ ho hb2 hg2 hat))
              go_roundw
              case rel => exact ⟨m + 1, by omega, by go_num, ⟨by rw [HW.out, if_pos rfl]; exact HO.out⟩, HB⟩
              case measure => simp [intOf]; omega
            | false =>
              replace hx : wr.cell? (a1.add (m * 2)) = some (.bool false) := hx
              go_wp2
              go_roundw
              case rel => exact ⟨m + 1, by omega, by go_num, ⟨by rw [HW.out, if_neg (by simp)]; exact HO.out⟩, HB⟩
              case measure => simp [intOf]; omega
          · have d1 : decide ((m : Int) < ((toS sl1).length : Int)) = false := decide_eq_false (by rw [toS_length]; omega)
            have d2 : decide (m < (toS sl1).length) = false := decide_eq_false (by rw [toS_length]; exact hlm)
            obtain rfl : m = sl1.length := by omega
            clear hlm hm HT
            have HT := H5
            clear H5
            obtain ⟨A3, c3, e3⟩ := Kd.R_slice HO.out
            subst e3
            have n0_ := Aside0.mk HT.out.drew
            have n1_ : Aside0 (Kd.R (Kd.int .i64) 3 wr.drew w4.heap.size (fun _ => True) (.slice A3 (usedL sl1 sl1.length).length c3) (usedL sl1 sl1.length)) := ⟨Kd.R_drew HO.out⟩
            clear HT HO HB
            have HT := n0_
            have HO := n1_
            clear n0_ n1_
            go_wp2
            clear d1 d2
            go_region_held3 (fun w' => w'.cell? ⟨gR, 0, none⟩ = some (.slice A1 (toS sl1).length c1)) (first | assumption | exact (blk_cell HT.out.hg 0).trans rfl) (first | (go_at_call 25; (with_reducible refine (len_calls g w.heap.size sl1 fr1 _ HT.out.ar.ar (by omega) (by omega)).mono ?_); rintro e w5 ⟨rfl, rfl⟩; rw [HE.out]) | (go_at_call 26; (with_reducible refine (slots_calls g w.heap.size sl1 fr1 _ HT.out.ar.ar).mono ?_); rintro e w6 ⟨rfl, rfl⟩; rw [HS.out]) | (go_at_call 28; (with_reducible refine (used_calls g w.heap.size sl1 fr1 _ HT.out.ar.ar (by have := HL3.out; omega)).mono ?_); rintro e w7 ⟨u, rfl, hu, hb⟩; have n0_ := Aside0.mk (HT.out.below hb); have n1_ := Aside0.mk (Kd.R_below HO.out hb); clear HT HO; have HT := n0_; have HO := n1_; clear n0_ n1_ hb; obtain ⟨A4, c4, e4⟩ := Kd.R_slice hu; subst e4; have HV := Aside0.mk hu; clear hu) | (go_at_call 27; (with_reducible refine (waywiserref07_Ints.calls ((usedL sl1 sl1.length).length + 1) A4 c4 (usedL sl1 sl1.length) A3 c3 (usedL sl1 sl1.length) true _ ((Kd.R_reads' HV.out).2.2) ((Kd.R_reads' HV.out).2.1) ((Kd.R_reads' HO.out).2.2) ((Kd.R_reads' HO.out).2.1) HI.out).mono ?_); rintro e w8 ⟨rfl, hb⟩; have n0_ := Aside0.mk (HT.out.below (hb.below)); clear HT; have HT := n0_; clear n0_))
            go_wp2
            go_roundw
            case rel => exact ⟨n + 1, sl1, fr1, S1, _, _, by omega, by go_num, HT, HF1, HU1, HL3, HL4⟩
            case measure => simp [intOf]; omega
    · have d1 : decide ((n : Int) < (ds.length : Int)) = false := decide_eq_false (by omega)
      have d2 : decide (n < ds.length) = false := decide_eq_false hlt
      have HB := Aside0.mk HT.out.hB
      clear hlt hle HT
      go_wp2_with ((go_at_call 20; (with_reducible refine (lives_calls _).mono ?_); rintro e w13 ⟨rfl, hb⟩; have n0_ := Aside0.mk (below_step (by repeat (first | (with_reducible first | exact HB.out | apply below_alloc | apply pw_below_drewN | apply below_drew1) | exact HB.out)) hb); clear HB; have HB := n0_; clear n0_ hb))
      go_ret
      exact ⟨rfl, HB.out⟩
end Go.Proofs.Ytlhoikcdjpnnfaa.PArena
