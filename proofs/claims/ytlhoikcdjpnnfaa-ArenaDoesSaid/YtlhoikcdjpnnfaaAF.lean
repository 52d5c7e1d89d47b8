/- What Used of an arena answers, and that the laws' lives holds, where slots are fewer than 2^43. -/
import Derived.Test.YtlhoikcdjpnnfaaAE
namespace Go.Proofs.Ytlhoikcdjpnnfaa.PArena
open Go.RowKit Go.Proofs.YtlhoikcdjpnnfaaW.PrintWords Go.Proofs.YtlhoikcdjpnnfaaW.PrintLast Go.Proofs.YtlhoikcdjpnnfaaW.PrintMore
set_option linter.unusedVariables false
set_option linter.unusedSimpArgs false
/-- in which of the first slots there is something -/
def usedL (sl : List Slot) : Nat → List Int
  | 0 => []
  | n + 1 => if hasB sl n = true then usedL sl n ++ [(n : Int)] else usedL sl n
theorem usedL_le (sl : List Slot) (n : Nat) : (usedL sl n).length ≤ n := by
  induction n with
  | zero => simp [usedL]
  | succ n ih =>
    simp only [usedL]
    split
    · rw [List.length_append, List.length_singleton]; omega
    · omega
set_option maxHeartbeats 8000000 in
set_option maxRecDepth 100000 in
theorem used_calls (g base : Nat) (sl : List Slot) (fr : List Int) (w : World) (h : Ar w base g sl fr) (hs : sl.length < 8796093022208) :
    Calls Try.prog 28 #[.pointer (some ⟨g, 0, none⟩)] w fun e w' => ∃ v, e = .returned v ∧ Kd.R (Kd.int .i64) 3 w' w.heap.size (fun _ => True) v (usedL sl sl.length) ∧ Below w.heap.size w w' := by
  have HA := Aside0.mk h
  have HB0 := Aside0.mk (Below.refl w.heap.size w)
  clear h
  have hs1 : (sl.length : Int) ≤ 8796093022208 := by omega
  go_enter Try.func28, Try.ntmps28
  go_wp2_with ((go_at_call 26; (with_reducible refine (slots_calls g base sl fr _ HA.out).mono ?_); rintro e w' ⟨rfl, rfl⟩))
  go_loopw [3, 7] (fun v3 v7 wr => ∃ n : Nat, n ≤ sl.length ∧ v7 = .int .i64 (n : Int) ∧ Aside0 (Kd.R (Kd.int .i64) 3 wr w.heap.size (fun _ => True) v3 (usedL sl n)) ∧ Aside0 (Below w.heap.size w wr)) (fun _ i _ => sl.length - (intOf i).toNat)
  case atStart => exact ⟨0, Nat.zero_le _, rfl, ⟨Kd.R_nil _ _ _ _ _⟩, ⟨HB0.out⟩⟩
  case round =>
    obtain ⟨n, hn, rfl, HO, HB⟩ := hrel
    by_cases hlt : n < sl.length
    · obtain ⟨vL, vF, hg, hbase, hL, hF⟩ := HA.out.below HB.out
      have hc0 : wr.cell? ⟨g, 0, none⟩ = some vL := blk_cell hg 0
      obtain ⟨gL, cap, cur, rfl, hbL, hgL, hcell, hfr⟩ := hL.at_ (by omega)
      obtain ⟨p, hp⟩ : ∃ p, sl[n]? = some p := ⟨sl[n], List.getElem?_eq_getElem hlt⟩
      have hx : wr.cell? ⟨gL, n * 2, none⟩ = some (.bool p.1) := (hcell _ (by omega)).trans (cells2_at sl n p hp).1
      have hr : hasB sl (n : Int) = p.1 := by simp [hasB, hp]
      have HU : Aside0 (usedL sl (n + 1) = if p.1 = true then usedL sl n ++ [(n : Int)] else usedL sl n) := ⟨by simp only [usedL, hr]⟩
      have HN := Aside0.mk (usedL_le sl n)
      have d1 : decide ((n : Int) < (sl.length : Int)) = true := decide_eq_true (by omega)
      clear hcell hg hgL hL hF hp hfr hbL hr hbase
      cases hb : p.1 with
      | true =>
        rw [hb] at hx HU
        clear hb
        go_wp2_with (((with_reducible refine gate_builtin (b := .append) (xs := #[.tmp 18, .tmp 20]) rfl ?_); at_builtin; refine Kd.R_append (Kd.int .i64) (w0 := w) w.heap.size rfl (.tmp 18) (.tmp 20) 22 3 (.int .i64 0) 8 rfl Try.underlying22 info3' rfl (by decide) (by omega) _ (usedL sl n) (n : Int) [.int .i64 (n : Int)] (fun _ => True) (fun _ => False) rfl rfl ?aP (fun _ hk => hk.elim) ?aF ?aO ?aB ?aS ?aL ?_; (case aP => exact rfl); (case aB => exact (by repeat (first | (with_reducible first | exact HB.out | apply below_alloc | apply pw_below_drewN | apply below_drew1) | exact HB.out))); (case aF => exact (fun _ _ => trivial)); (case aO => exact (by (with_reducible repeat (first | apply Kd.R_alloc | apply Kd.R_drewN | apply Kd.R_drew)); exact HO.out)); (case aS => exact (below_size (by repeat (first | (with_reducible first | exact HB.out | apply below_alloc | apply pw_below_drewN | apply below_drew1) | exact HB.out)))); (case aL => have := HN.out; omega); intro v1 w1 ho hb2 hg2 hat; have n0_ := Aside0.mk hb2; have n1_ := Aside0.mk ho; clear HB HO; have HB := n0_; have HO := n1_; clear n0_ n1_ ho hb2 hg2 hat))
        go_roundw
        case rel => exact ⟨n + 1, by omega, by go_num, ⟨by rw [HU.out, if_pos rfl]; exact HO.out⟩, HB⟩
        case measure => simp [intOf]; omega
      | false =>
        rw [hb] at hx HU
        clear hb
        go_wp2
        go_roundw
        case rel => exact ⟨n + 1, by omega, by go_num, ⟨by rw [HU.out, if_neg (by decide)]; exact HO.out⟩, HB⟩
        case measure => simp [intOf]; omega
    · have d1 : decide ((n : Int) < (sl.length : Int)) = false := decide_eq_false (by omega)
      have d2 : decide (n < sl.length) = false := decide_eq_false hlt
      have HE : Aside0 (n = sl.length) := ⟨by omega⟩
      clear hlt hn
      go_wp2
      go_ret
      exact ⟨_, rfl, by rw [← HE.out]; exact HO.out, HB.out⟩
set_option maxHeartbeats 8000000 in
set_option maxRecDepth 100000 in
theorem lives_calls (w : World) : Calls Try.prog 20 #[] w fun e w' => e = .returned (.bool true) ∧ Below w.heap.size w w' := by
  have C0 : Aside0 (cutS [(true, 5), (true, 6)] 0 = [(false, 0), (true, 6)]) := ⟨by decide +kernel⟩
  have C1 : Aside0 (cutF [(true, 5), (true, 6)] [] 0 = [0]) := ⟨by decide +kernel⟩
  have C2 : Aside0 (hasB [(true, 5), (true, 6)] 0 = true) := ⟨by decide +kernel⟩
  go_enter Try.func20, Try.ntmps20
  go_wp2_with (first | (go_at_call 15; (with_reducible refine (new_calls _).mono ?_); rintro e w1 ⟨g, rfl, ha, hb⟩; have HA := Aside0.mk ha; have HB := Aside0.mk hb; clear ha hb; have tok0 : Aside0 True := ⟨trivial⟩) | (go_at_call 16; have tk := tok0; (with_reducible refine (put_new g w.heap.size [] 5 w _ HA.out HB.out HB.out.size (by simp)).mono ?_); rintro e w2 ⟨rfl, ha, hb⟩; clear HA HB tk tok0; have HA := Aside0.mk ha; have HB := Aside0.mk hb; clear ha hb; have tok1 : Aside0 True := ⟨trivial⟩) | (go_at_call 16; have tk := tok1; (with_reducible refine (put_new g w.heap.size [(true, 5)] 6 w _ HA.out HB.out HB.out.size (by simp)).mono ?_); rintro e w3 ⟨rfl, ha, hb⟩; clear HA HB tk tok1; have HA := Aside0.mk ha; have HB := Aside0.mk hb; clear ha hb; have tok2 : Aside0 True := ⟨trivial⟩) | (go_at_call 17; (with_reducible refine (cut_calls g w.heap.size [(true, 5), (true, 6)] [] 0 w _ HA.out HB.out HB.out.size (by simp)).mono ?_); rintro e w4 ⟨rfl, ha, hb⟩; rw [C0.out, C1.out] at ha; rw [C2.out]; clear HA HB; have HA := Aside0.mk ha; have HB := Aside0.mk hb; clear ha hb) | (go_at_call 16; have tk := tok2; (with_reducible refine (put_free g w.heap.size [(false, 0), (true, 6)] [] 0 7 w _ HA.out HB.out (by simp) (by simp) (by simp)).mono ?_); rintro e w5 ⟨rfl, ha, hb⟩; clear HA HB tk tok2; have HA := Aside0.mk ha; have HB := Aside0.mk hb; clear ha hb) | (go_at_call 25; (with_reducible refine (len_calls g w.heap.size _ [] _ HA.out (by simp) (by simp)).mono ?_); rintro e w6 ⟨rfl, rfl⟩))
  go_ret
  exact ⟨rfl, HB.out⟩
end Go.Proofs.Ytlhoikcdjpnnfaa.PArena
