/- What the law ArenaStays answers, for deeds that are fewer than 2^43. -/
import Derived.Test.YtlhoikcdjpnnfaaAG
import Derived.StillTailTactics
namespace Go.Proofs.Ytlhoikcdjpnnfaa.PArena
open Go.RowKit Go.Proofs.YtlhoikcdjpnnfaaW.PrintWords Go.Proofs.YtlhoikcdjpnnfaaW.PrintLast Go.Proofs.YtlhoikcdjpnnfaaW.PrintMore
set_option linter.unusedVariables false
set_option linter.unusedSimpArgs false
set_option maxHeartbeats 16000000 in
set_option maxRecDepth 100000 in
theorem stays_calls (x : Int) (A : Option Addr) (c : Nat) (ds : List Deed) (w : World) (hr : Deeds w A ds.length ds) (hc : ds.length ≤ c) (hn : ds.length < 8796093022208 - 1) :
    Calls Try.prog 5 #[.int .i64 x, .slice A ds.length c] w fun e w' => e = .returned (.bool true) ∧ Below w.heap.size w w' := by
  have HR := Aside0.mk hr
  clear hr hc
  have hn1 : (ds.length : Int) ≤ 8796093022208 := by omega
  go_enter Try.func5, Try.ntmps5
  go_wp2_with (first | (go_at_call 15; (with_reducible refine (new_calls _).mono ?_); rintro e w1 ⟨g, rfl, ha, hb⟩; have HA := Aside0.mk ha; have HB := Aside0.mk hb; clear ha hb) | (go_at_call 16; (with_reducible refine (put_new g w.heap.size [] x w _ HA.out HB.out HB.out.size (by simp)).mono ?_); rintro e w2 ⟨rfl, ha, hb⟩; clear HA HB; have HA := Aside0.mk ha; have HB := Aside0.mk hb; clear ha hb))
  go_loopw [7] (fun v7 wr => ∃ (n : Nat) (sl : List Slot) (fr : List Int), n ≤ ds.length ∧ v7 = .int .i64 (n : Int) ∧ Aside0 (Ar wr w.heap.size g sl fr) ∧ Aside0 (Mine x sl) ∧ Aside0 (Free sl fr) ∧ Aside0 (sl.length ≤ n + 1) ∧ Aside0 (fr.length ≤ n) ∧ Aside0 (Below w.heap.size w wr)) (fun i _ => ds.length - (intOf i).toNat)
  case atStart => exact ⟨0, _, _, Nat.zero_le _, rfl, HA, ⟨rfl⟩, ⟨Free.nil _⟩, ⟨by simp⟩, ⟨by simp⟩, HB⟩
  case round =>
    clear HA HB
    obtain ⟨n, sl, fr, hle, rfl, HA, HM, HF, HL1, HL2, HB⟩ := hrel
    by_cases hlt : n < ds.length
    · obtain ⟨ad, hA, hcells⟩ := (HR.out.below HB.out).2.2 (by omega)
      subst hA
      obtain ⟨p, hp⟩ : ∃ p, ds[n]? = some p := ⟨ds[n], List.getElem?_eq_getElem hlt⟩
      obtain ⟨hx0, hx1, hx2⟩ := hcells n p hp
      obtain ⟨kd, sn, z⟩ := p
      simp only at hx0 hx1 hx2
      rw [add_field _ _ 1 (by omega)] at hx1
      rw [add_field _ _ 2 (by omega)] at hx2
      clear hcells hp
      by_cases hk : kd = 0
      · subst hk
        rcases List.eq_nil_or_concat fr with rfl | ⟨fr, j, rfl⟩
        · have MG := Aside0.mk (HM.out.put_new z).get
          have d0 : ((sl.length : Int) == 0) = false := beq_eq_false_iff_ne.mpr (by have := get_of HM.out; omega)
          go_wp2_with (first | (go_at_call 16; (with_reducible refine (put_new g w.heap.size sl z w _ HA.out (by repeat (first | (with_reducible first | exact HB.out | apply below_alloc | apply pw_below_drewN | apply below_drew1) | exact HB.out)) HB.out.size (by have := HL1.out; omega)).mono ?_); rintro e w3 ⟨rfl, ha, hb⟩; clear HA HB; have HA := Aside0.mk ha; have HB := Aside0.mk hb; clear ha hb) | (go_at_call 19; (with_reducible refine (get_calls g w.heap.size _ _ 0 _ HA.out).mono ?_); rintro e w_ ⟨rfl, rfl⟩; rw [MG.out]))
          go_roundw
          case rel => exact ⟨n + 1, _, _, by omega, by go_num, HA, ⟨HM.out.put_new z⟩, ⟨Free.put_new sl z⟩, ⟨by have := HL1.out; rw [List.length_append, List.length_singleton]; omega⟩, ⟨by simp⟩, HB⟩
          case measure => simp [intOf]; omega
        · rw [List.concat_eq_append] at HA HF HL2
          obtain ⟨m, rfl, y, hy⟩ := HF.out.last
          have HY := Aside0.mk hy
          have hm0 := HM.out.free hy
          have MG := Aside0.mk (HM.out.other m (true, z) hm0).get
          have d0 : ((m : Int) == 0) = false := beq_eq_false_iff_ne.mpr (by omega)
          clear hy
          go_wp2_with (first | (go_at_call 16; (with_reducible refine (put_free g w.heap.size sl fr m z w _ HA.out (by repeat (first | (with_reducible first | exact HB.out | apply below_alloc | apply pw_below_drewN | apply below_drew1) | exact HB.out)) (get_of HY.out) (by have := HL1.out; omega) (by have := HL2.out; rw [List.length_append] at this; omega)).mono ?_); rintro e w3 ⟨rfl, ha, hb⟩; clear HA HB; have HA := Aside0.mk ha; have HB := Aside0.mk hb; clear ha hb) | (go_at_call 19; (with_reducible refine (get_calls g w.heap.size _ _ 0 _ HA.out).mono ?_); rintro e w_ ⟨rfl, rfl⟩; rw [MG.out]))
          go_roundw
          case rel => exact ⟨n + 1, _, _, by omega, by go_num, HA, ⟨HM.out.other m _ hm0⟩, ⟨HF.out.put_free z⟩, ⟨by have := HL1.out; rw [List.length_set]; omega⟩, ⟨by have := HL2.out; rw [List.length_append] at this; omega⟩, HB⟩
          case measure => simp [intOf]; omega
      · have k0 : (kd == 0) = false := by simp [hk]
        clear hk
        by_cases hs : sn = 0
        · subst hs
          have MG := Aside0.mk HM.out.get
          by_cases hk1 : kd = 1
          · subst hk1
            go_wp2_with (first | (go_at_call 19; (with_reducible refine (get_calls g w.heap.size _ _ 0 _ HA.out).mono ?_); rintro e w_ ⟨rfl, rfl⟩; rw [MG.out]))
            go_roundw
            case rel => exact ⟨n + 1, _, _, by omega, by go_num, HA, ⟨HM.out⟩, ⟨HF.out⟩, ⟨by have := HL1.out; omega⟩, ⟨by have := HL2.out; omega⟩, HB⟩
            case measure => simp [intOf]; omega
          · have k1 : (kd == 1) = false := by simp [hk1]
            clear hk1
            go_wp2_with (first | (go_at_call 19; (with_reducible refine (get_calls g w.heap.size _ _ 0 _ HA.out).mono ?_); rintro e w_ ⟨rfl, rfl⟩; rw [MG.out]))
            go_roundw
            case rel => exact ⟨n + 1, _, _, by omega, by go_num, HA, ⟨HM.out⟩, ⟨HF.out⟩, ⟨by have := HL1.out; omega⟩, ⟨by have := HL2.out; omega⟩, HB⟩
            case measure => simp [intOf]; omega
        · have s0 : (sn != 0) = true := by simp [hs]
          by_cases hk1 : kd = 1
          · subst hk1
            have MG := Aside0.mk (HM.out.cut sn hs).get
            have HS := Aside0.mk hs
            clear hs
            go_wp2_with (first | (go_at_call 17; (with_reducible refine (cut_calls g w.heap.size sl fr sn w _ HA.out (by repeat (first | (with_reducible first | exact HB.out | apply below_alloc | apply pw_below_drewN | apply below_drew1) | exact HB.out)) HB.out.size (by have := HL2.out; omega)).mono ?_); rintro e w3 ⟨rfl, ha, hb⟩; clear HA HB; have HA := Aside0.mk ha; have HB := Aside0.mk hb; clear ha hb) | (go_at_call 19; (with_reducible refine (get_calls g w.heap.size _ _ 0 _ HA.out).mono ?_); rintro e w_ ⟨rfl, rfl⟩; rw [MG.out]))
            go_roundw
            case rel => exact ⟨n + 1, _, _, by omega, by go_num, HA, ⟨HM.out.cut sn HS.out⟩, ⟨HF.out.cut sn⟩, ⟨by have := HL1.out; rw [cutS_len]; omega⟩, ⟨by have := HL2.out; have := cutF_len sl fr sn; omega⟩, HB⟩
            case measure => simp [intOf]; omega
          · have k1 : (kd == 1) = false := by simp [hk1]
            have MG := Aside0.mk (HM.out.set sn z hs).get
            have HS := Aside0.mk hs
            clear hk1 hs
            go_wp2_with (first | (go_at_call 18; (with_reducible refine (set_calls g w.heap.size sl fr sn z w _ HA.out (by repeat (first | (with_reducible first | exact HB.out | apply below_alloc | apply pw_below_drewN | apply below_drew1) | exact HB.out))).mono ?_); rintro e w3 ⟨rfl, ha, hb⟩; clear HA HB; have HA := Aside0.mk ha; have HB := Aside0.mk hb; clear ha hb) | (go_at_call 19; (with_reducible refine (get_calls g w.heap.size _ _ 0 _ HA.out).mono ?_); rintro e w_ ⟨rfl, rfl⟩; rw [MG.out]))
            go_still_tail 11, (by kernel_rfl)
            have n0_ : Aside0 (Ar wr.drew w.heap.size g sl fr) := ⟨HA.out⟩
            clear HA
            have HA := n0_
            clear n0_
            go_wp2_with (first | (go_at_call 18; (with_reducible refine (set_calls g w.heap.size sl fr sn z w _ HA.out (by repeat (first | (with_reducible first | exact HB.out | apply below_alloc | apply pw_below_drewN | apply below_drew1) | exact HB.out))).mono ?_); rintro e w3 ⟨rfl, ha, hb⟩; clear HA HB; have HA := Aside0.mk ha; have HB := Aside0.mk hb; clear ha hb) | (go_at_call 19; (with_reducible refine (get_calls g w.heap.size _ _ 0 _ HA.out).mono ?_); rintro e w_ ⟨rfl, rfl⟩; rw [MG.out]))
            go_roundw
            case rel => exact ⟨n + 1, _, _, by omega, by go_num, HA, ⟨HM.out.set sn z HS.out⟩, ⟨HF.out.set sn z⟩, ⟨by have := HL1.out; rw [setB_len]; omega⟩, ⟨by have := HL2.out; omega⟩, HB⟩
            case measure => simp [intOf]; omega
    · have d1 : decide ((n : Int) < (ds.length : Int)) = false := decide_eq_false (by omega)
      have d2 : decide (n < ds.length) = false := decide_eq_false hlt
      clear hlt hle
      go_wp2_with ((go_at_call 20; (with_reducible refine (lives_calls _).mono ?_); rintro e w13 ⟨rfl, hb⟩; have n0_ := Aside0.mk (below_step (by repeat (first | (with_reducible first | exact HB.out | apply below_alloc | apply pw_below_drewN | apply below_drew1) | exact HB.out)) hb); clear HB; have HB := n0_; clear n0_ hb))
      go_ret
      exact ⟨rfl, HB.out⟩
end Go.Proofs.Ytlhoikcdjpnnfaa.PArena
