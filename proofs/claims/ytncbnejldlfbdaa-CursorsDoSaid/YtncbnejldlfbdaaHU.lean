/- What up of a heap leaves; no condition. -/
import Derived.Test.YtncbnejldlfbdaaHS
import Derived.Test.YtncbnejldlfbdaaOB
import Derived.WalkArith
namespace Go.Proofs.Ytncbnejldlfbdaa.PHeap
open Go.RowKit Go.Proofs.YtncbnejldlfbdaaW.PrintWords Go.Proofs.YtncbnejldlfbdaaW.PrintLast Go.Proofs.YtncbnejldlfbdaaW.PrintMore
set_option linter.unusedVariables false
set_option linter.unusedSimpArgs false
theorem kept_size {w W : World} {S : Nat → Prop} (h : Kept w W S) : w.heap.size ≤ W.heap.size := h.1
/-- a heap whose row has something: where it lies -/
theorem Hp.at_ {w : World} {base g : Nat} {l : List Ent} {S : Nat → Prop} (h : Hp w base g l S) (hn : 0 < l.length) :
    ∃ gL cap, w.heap[g]? = some (.cells #[.func (.func 54) #[] #[], .slice (some ⟨gL, 0, none⟩) l.length cap] 119 (0, 0)) ∧ base ≤ g ∧ base ≤ gL ∧ S g ∧ S gL ∧ g ≠ gL ∧ Row w base 98 3 (.slice (some ⟨gL, 0, none⟩) l.length cap) l.length (cells3 l) ∧
      ∀ i, i < l.length → w.cell? ⟨gL, i * 3, none⟩ = some (.int .i64 (gt l i).1) ∧ w.cell? ⟨gL, i * 3 + 1, none⟩ = some (.int .i64 (gt l i).2.1) ∧ w.cell? ⟨gL, i * 3 + 2, none⟩ = some (.int .u64 (gt l i).2.2) := by
  obtain ⟨vL, hg, hb, hL, h1, h2⟩ := h
  obtain ⟨gL, cap, cur, rfl, hbL, hgL, hcell, hfr⟩ := hL.at_ hn
  refine ⟨gL, cap, hg, hb, hbL, h1, h2 gL rfl, blk_ne hg hgL (by decide), hL, fun i hi => ?_⟩
  have := cells3_at l i _ (gt_some hi)
  exact ⟨(hcell _ (by omega)).trans this.1, (hcell _ (by omega)).trans this.2.1, (hcell _ (by omega)).trans this.2.2⟩
set_option maxHeartbeats 8000000 in
set_option maxRecDepth 1000000 in
theorem up_calls (g base : Nat) (l : List Ent) (S : Nat → Prop) (i : Nat) (w0 w : World) (h : Hp w base g l S) (hB : Below base w0 w) (hbw : base ≤ w.heap.size) (hi : i < l.length) (hu : UpBut l i) (hlen : l.length < 35184372088832) :
    Calls Try.prog 66 #[.pointer (some ⟨g, 0, none⟩), .int .i64 i] w fun e w' => e = .returned (.tuple #[]) ∧ ∃ l', Aside0 (Hp w' base g l' S) ∧ Aside0 (Heaped l') ∧ Aside0 (l'.Perm l) ∧ Aside0 (Below base w0 w') ∧ Aside0 (Kept w w' S) := by
  have hu98 := Try.underlying98
  have hu119 := Try.underlying119
  have H0 := Aside0.mk h
  have B0 := Aside0.mk hB
  have W0 := Aside0.mk hbw
  have U0 := Aside0.mk hu
  have N0 := Aside0.mk hi
  have M0 := Aside0.mk hlen
  clear h hB hbw hi hu hlen
  go_enter Try.func66, Try.ntmps66
  go_wp2
  go_loopw [1] (fun v1 wr => ∃ (n : Nat) (l' : List Ent), v1 = .int .i64 (n : Int) ∧ Aside0 (n < l'.length) ∧ Aside0 (l'.length = l.length) ∧ Aside0 (Hp wr base g l' S) ∧ Aside0 (UpBut l' n) ∧ Aside0 (l'.Perm l) ∧ Aside0 (Below base w0 wr) ∧ Aside0 (Kept w wr S)) (fun v _ => (intOf v).toNat)
  case atStart => exact ⟨i, l, rfl, N0, ⟨rfl⟩, H0, U0, ⟨List.Perm.refl _⟩, B0, ⟨Kept.refl _ _⟩⟩
  case round =>
    obtain ⟨n, l', rfl, HN, HL, HH, HU, HP, HB, HK⟩ := hrel
    by_cases hn : 0 < n
    · obtain ⟨gL, cap, hg, hbg, hbL, s1, s2, hne, hrow, hcells⟩ := HH.out.at_ (by have := HN.out; omega)
      have hm : n < 35184372088832 := by have := HN.out; have := HL.out; have := M0.out; omega
      obtain ⟨a, ha⟩ : ∃ a, a = (n - 1) / 2 := ⟨_, rfl⟩
      have hal : a < l'.length := by have := HN.out; omega
      have hnl : n < l'.length := HN.out
      obtain ⟨x0, x1, x2⟩ := hcells a hal
      obtain ⟨y0, y1, y2⟩ := hcells n HN.out
      have hc0 : wr.cell? ⟨g, 0, none⟩ = some (.func (.func 54) #[] #[]) := (blk_cell hg 0).trans rfl
      have hc1 : wr.cell? ⟨g, 1, none⟩ = some (.slice (some ⟨gL, 0, none⟩) l'.length cap) := (blk_cell hg 1).trans rfl
      have he : ((n : Int) - 1) / 2 = (a : Int) := by omega
      have HE := Aside0.mk he
      have HA := Aside0.mk ha
      clear hcells hrow hg ha he
      go_wp2
      rw [HE.out]
      by_cases hle : ordE (gt l' a) (gt l' n) ≤ 0
      · go_still_tail 18, (by kernel_rfl)
        go_wp2_with ((go_at_call 54; (with_reducible refine (order_calls (gt l' a) (gt l' n) _).mono ?_); rintro e w1 ⟨rfl, hb⟩; have HX := Aside0.mk hb; clear hb))
        go_returns
        have B1 := Below.refl wr.heap.size wr
        have B2 : Below wr.heap.size wr w1 := below_step (below_drew1 B1) HX.out
        exact ⟨rfl, l', ⟨HH.out.below B2⟩, ⟨HU.out.done (by rw [← HA.out]; exact (ordE_le _ _).1 hle)⟩, HP, ⟨below_then HB.out (Nat.le_trans W0.out (kept_size HK.out)) B2⟩, ⟨HK.out.below B2⟩⟩
      · have hgt : leE (gt l' n) (gt l' a) := (leE_total _ _).resolve_left (fun h => hle ((ordE_le _ _).2 h))
        have HG := Aside0.mk hgt
        clear hgt
        go_still_tail 18, (by kernel_rfl)
        go_wp2_with (first | (go_at_call 54; (with_reducible refine (order_calls (gt l' a) (gt l' n) _).mono ?_); rintro e w1 ⟨rfl, hb⟩; have HX : Aside0 (Below wr.heap.size wr w1) := ⟨below_step (below_drew1 (Below.refl wr.heap.size wr)) hb⟩; clear hb) | (go_at_call 58; (with_reducible refine (swap_at g base l' S n a w0 _ (HH.out.below HX.out) (below_then HB.out (Nat.le_trans W0.out (kept_size HK.out)) HX.out) HN.out hal).mono ?_); rintro e w2 ⟨rfl, hh, hb, hk⟩; have X1 := Aside0.mk hh; have X2 := Aside0.mk hb; have X3 := Aside0.mk ((HK.out.below HX.out).then_ hk (fun _ h => .inl h)); clear hh hb hk))
        go_roundw
        case rel => exact ⟨a, swapL l' n a, rfl, ⟨by rw [swapL_length]; exact hal⟩, ⟨(swapL_length _ _ _).trans HL.out⟩, X1, ⟨by have := HU.out.step HN.out hn (by rw [← HA.out]; exact HG.out); rw [← HA.out] at this; exact this⟩, ⟨(swapL_perm HN.out hal).trans HP.out⟩, X2, X3⟩
        case measure => simp [intOf]; have := HA.out; omega
    · obtain rfl : n = 0 := by omega
      have HZ := HU.out.zero
      have HZ' := Aside0.mk HZ
      clear HZ
      go_wp2
      go_returns
      exact ⟨rfl, l', HH, HZ', HP, HB, HK⟩
end Go.Proofs.Ytncbnejldlfbdaa.PHeap
