/- What Handles of a table of cursors answers, and Close where there is none; of fewer than 2^40 handles. -/
import Derived.Test.YtncbnejldlfbdaaKE
namespace Go.Proofs.Ytncbnejldlfbdaa.PCur
open Go.RowKit Go.Proofs.YtncbnejldlfbdaaW.PrintWords Go.Proofs.YtncbnejldlfbdaaW.PrintLast Go.Proofs.YtncbnejldlfbdaaW.PrintMore
open Go.Proofs.Ytncbnejldlfbdaa.PCursorsDo
open Go.Maps (Keyed int_keyed keyOf_int_mk)
open Go.ChangeMaps Go.MapKept
set_option linter.unusedVariables false
set_option linter.unusedSimpArgs false
theorem info22 : (Try.prog.info? 22).map (fun i => (i.zero, i.size, i.bytes)) = some (some (.int .u64 0), 1, 8) := by kernel_rfl
/-- the handles up to m that are there -/
def idsTo (D : DataW Value) : Nat → List Int
  | 0 => []
  | m + 1 => if Maps.has D (.int .u64 ((m : Int) + 1)) = true then idsTo D m ++ [(m : Int) + 1] else idsTo D m
theorem idsTo_length (D : DataW Value) : ∀ m, (idsTo D m).length ≤ m
  | 0 => Nat.le_refl _
  | m + 1 => by have := idsTo_length D m; unfold idsTo; split <;> simp <;> omega
theorem Tab.grownRow {w w1 : World} {base base2 g b n : Nat} {most last : Int} {D : DataW Value} {v : Value} {k : Nat} {xs : List Value} (h : Tab w base g b n most last D) (ho : w.ownsRow base2 22 1 v k xs) (hg : w.grownBy w1 v.ownBlock) : Tab w1 base g b n most last D := by
  refine ⟨blk_grown h.1 hg (fun e => own_ne ho h.1 (by decide) e), h.2.1, h.2.2.1, ownsMap_move h.2.2.2 (hg.block b h.2.2.2.lt (fun e => ?_))⟩
  obtain ⟨es, clock, hb, _⟩ := h.2.2.2
  rcases ho.2 with ⟨rfl, _⟩ | ⟨g1, cap, cur, rfl, _, hg1, _⟩
  · simp [Value.ownBlock] at e
  · have : b = g1 := by simpa [Value.ownBlock] using e
    subst this
    rw [hb] at hg1
    cases hg1
set_option maxHeartbeats 4000000 in
set_option maxRecDepth 1000000 in
theorem handles_calls (base g b n : Nat) (most : Int) (last : Nat) (D : DataW Value) (w : World) (h : Tab w base g b n most (last : Int) D) (hl : last < 3300000000000) :
    Calls Try.prog 12 #[.pointer (some ⟨g, 0, none⟩)] w fun e w' => ∃ A c, e = .returned (.slice A (idsTo D last).length c) ∧ Aside0 (w'.ownsRow w.heap.size 22 1 (.slice A (idsTo D last).length c) (idsTo D last).length (nums .u64 (idsTo D last))) ∧ Aside0 (Below w.heap.size w w') := by
  have hu90 := Try.underlying90
  have hu92 := Try.underlying92
  have HT0 := Aside0.mk h
  have HL := Aside0.mk hl
  have hlb : (last : Int) < 3300000000000 := by omega
  clear h hl
  go_enter Try.func12, Try.ntmps12
  go_wp2
  go_loopw [3, 4] (fun v3 v4 wr => ∃ (m : Nat) (A : Option Addr) (c : Nat), v3 = .slice A (idsTo D m).length c ∧ v4 = .int .u64 ((m : Int) + 1) ∧ Aside0 (m ≤ last) ∧ Aside0 (wr.ownsRow w.heap.size 22 1 (.slice A (idsTo D m).length c) (idsTo D m).length (nums .u64 (idsTo D m))) ∧ Aside0 (Tab wr base g b n most (last : Int) D) ∧ Aside0 (Below w.heap.size w wr)) (fun _ v4 _ => (last + 1) - (intOf v4).toNat)
  case atStart => exact ⟨0, none, 0, rfl, rfl, ⟨Nat.zero_le _⟩, ⟨own_nil _ _ _ _⟩, HT0, ⟨Below.refl _ _⟩⟩
  case round =>
    clear HT0
    obtain ⟨m, A, c, rfl, rfl, HM, HR, HT, HB⟩ := hrel
    have hmb : (m : Int) ≤ 3300000000000 := by have := HM.out; have := HL.out; omega
    have hm0 : (0 : Int) ≤ (m : Int) := by omega
    have hc1 : wr.cell? ⟨g, 1, none⟩ = some (.int .u64 (last : Int)) := (blk_cell HT.out.1 1).trans rfl
    have hc2 : wr.cell? ⟨g, 2, none⟩ = some (.map (some b)) := (blk_cell HT.out.1 2).trans rfl
    by_cases hm : m < last
    · have d1 : decide ((m : Int) + 1 ≤ (last : Int)) = true := decide_eq_true (by omega)
      have d1' : (m : Int) + 1 ≤ (last : Int) := by omega
      obtain ⟨v, ps, hrun, hv⟩ := HT.out.2.2.2.look_ok K22 Try.underlying88 (zero92 _) (RV_mk 0 none) (key22 (i := (m : Int) + 1) (Go.WalkArith.wf_u64 ⟨by omega, by omega⟩))
      obtain ⟨x, p, rfl, hat⟩ := RV_inv hv
      have HMM := Aside0.mk hm
      have TO := Aside0.mk (HT.out.below (below_alloc (Below.refl _ _) (.cells #[.int .i64 x, .pointer p] 92)))
      have BO := Aside0.mk (HB.out.alloc HB.out.size (.cells #[.int .i64 x, .pointer p] 92))
      have RO := Aside0.mk (pw_own_below HR.out (below_alloc (Below.refl _ _) (.cells #[.int .i64 x, .pointer p] 92)))
      have LO : Aside0 ((idsTo D m).length < 3300000000000) := ⟨by have := idsTo_length D m; have := HL.out; omega⟩
      clear hm hv hat
      cases hh : Maps.has D (.int .u64 ((m : Int) + 1)) with
      | true =>
        rw [hh] at hrun
        have HI : Aside0 (idsTo D (m + 1) = idsTo D m ++ [(m : Int) + 1]) := ⟨by simp only [idsTo, hh, if_true]⟩
        clear hh
        go_upto_region 9 with (fail)
        generalize (wr.alloc (.cells #[.int .i64 x, .pointer p] 92)) = W5 at *
        go_upto_region 6 with (((with_reducible refine gate_builtin (b := .append) (xs := #[.tmp 28, .tmp 30]) rfl ?_); refine print_append_cells (w0 := w) (W := W5) w.heap.size rfl (.tmp 28) (.tmp 30) 36 22 (.int .u64 0) 1 8 rfl Try.underlying36 info22 rfl (by decide) (by decide) (.slice A (idsTo D m).length c) (idsTo D m).length (nums .u64 (idsTo D m)) [.int .u64 ((m : Int) + 1)] rfl (by rfl) rfl (by simp [Value.oneCell']) RO.out BO.out BO.out.size (by have := LO.out; omega) ?_; intro v1 w1 hr hb1 hgr hat; obtain ⟨A1, c1, rfl⟩ := own_slice hr; have TX := Aside0.mk (TO.out.grownRow RO.out hgr); have RX := Aside0.mk hr; have BX := Aside0.mk hb1; clear hr hb1 hgr hat))
        clear hrun hc1 hc2
        go_wp2
        go_roundw
        case rel => exact ⟨m + 1, A1, c1, by rw [HI.out, List.length_append]; rfl, by go_num, ⟨by have := HMM.out; omega⟩, ⟨by rw [HI.out, List.length_append, nums_append]; exact RX.out⟩, TX, BX⟩
        case measure => simp [intOf]; have := HMM.out; omega
      | false =>
        rw [hh] at hrun
        have HI : Aside0 (idsTo D (m + 1) = idsTo D m) := ⟨by simp [idsTo, hh]⟩
        clear hh
        go_wp2
        go_roundw
        case rel => exact ⟨m + 1, A, c, by rw [HI.out], by go_num, ⟨by have := HMM.out; omega⟩, ⟨by rw [HI.out]; exact RO.out⟩, TO, BO⟩
        case measure => simp [intOf]; have := HMM.out; omega
    · have hm2 := HM.out
      obtain rfl : m = last := by omega
      have d1 : decide ((m : Int) + 1 ≤ (m : Int)) = false := decide_eq_false (by omega)
      go_wp2
      go_ret
      exact ⟨A, c, rfl, HR, HB⟩
theorem close_no (base g b n : Nat) (most last : Int) (D : DataW Value) (i : Int) (hi : (Lit.int .u64 i).wf = true) (w : World) (h : Tab w base g b n most last D) (hh : Maps.has D (.int .u64 i) = false) :
    Calls Try.prog 10 #[.pointer (some ⟨g, 0, none⟩), .int .u64 i] w fun e w' => e = .returned (.int .i64 7) ∧ Below w.heap.size w w' := by
  have hu90 := Try.underlying90
  have hu92 := Try.underlying92
  have HT := Aside0.mk h
  have HI := Aside0.mk hi
  have HH := Aside0.mk hh
  clear h hi hh
  go_enter Try.func10, Try.ntmps10
  go_wp2_with ((go_at_call 38; (with_reducible refine (find_calls base g b n most last D i HI.out _ HT.out).mono ?_); rintro e w1 ⟨hb, hx⟩; rcases hx with ⟨_, rfl⟩ | ⟨v, p, h9, _⟩; rotate_left; exact absurd (h9.symm.trans HH.out) (by decide); have HX := Aside0.mk (below_alloc hb (.cells #[.int .i64 0, .pointer none] 92)); clear hb))
  go_ret
  exact ⟨rfl, HX.out⟩
end Go.Proofs.Ytncbnejldlfbdaa.PCur
