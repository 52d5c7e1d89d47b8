/- What ahead, Next and Take of a walk over a graph come to: they end, and tell nothing lower than what is there; of a weight less than 2^40. -/
import Derived.Test.YtncbnejldlfbdaaGB
namespace Go.Proofs.Ytncbnejldlfbdaa.PHeap
open Go.RowKit Go.Proofs.YtncbnejldlfbdaaW.PrintWords Go.Proofs.YtncbnejldlfbdaaW.PrintLast Go.Proofs.YtncbnejldlfbdaaW.PrintMore
set_option linter.unusedVariables false
set_option linter.unusedSimpArgs false
theorem len_step {w0 : World} {gG : Nat} {bs : List (List Ent)} (hG : Good w0 gG bs) (e : Ent) (he : 0 ≤ e.2.1) {l l2 : List Ent} (hp : (e :: l2).Perm l) (hw : wts bs.length l < 1099511627776) : l2.length + (openL bs e.2.1).length < 2199023255552 := by
  have h1 := wts_perm (m := bs.length) hp
  have h2 := wts_open hG.forw e he
  have h3 := wts_len bs.length l2
  have h4 := wts_len bs.length ((openL bs e.2.1).map (raise e.1))
  rw [List.length_map] at h4
  simp only [wts] at h1
  omega
theorem wts_step {w0 : World} {gG : Nat} {bs : List (List Ent)} (hG : Good w0 gG bs) (e : Ent) (he : 0 ≤ e.2.1) {l l2 l3 : List Ent} (hp : (e :: l2).Perm l) (hq : l3.Perm (l2 ++ (openL bs e.2.1).map (raise e.1))) : wts bs.length l3 < wts bs.length l := by
  have h1 := wts_perm (m := bs.length) hp
  have h2 := wts_open hG.forw e he
  have h3 := wts_perm (m := bs.length) hq
  rw [wts_append] at h3
  simp only [wts] at h1
  omega
theorem low_step {bs : List (List Ent)} (e : Ent) {l l2 l3 : List Ent} (d : Int) (hd : ∀ x ∈ l, d ≤ x.1) (hp : (e :: l2).Perm l) (hq : l3.Perm (l2 ++ (openL bs e.2.1).map (raise e.1))) : ∀ x ∈ l3, d ≤ x.1 := by
  intro x hx
  have h1 := hq.mem_iff.1 hx
  rcases List.mem_append.1 h1 with h2 | h2
  · exact hd x (hp.mem_iff.1 (by simp [h2]))
  · obtain ⟨y, _, rfl⟩ := List.mem_map.1 h2
    have h3 := hd e (hp.mem_iff.1 (by simp))
    have h4 := raise_le e.1 y
    omega
set_option maxHeartbeats 16000000 in
set_option maxRecDepth 1000000 in
theorem ahead_g (gW gG : Nat) (bs : List (List Ent)) (l : List Ent) (n : Int) (S : Nat → Prop) (r d : Int) (w0 w : World) (hG : Good w0 gG bs) (h : Wk w w0.heap.size gW (.func (.func 41) #[] #[.pointer (some ⟨gG, 0, none⟩)]) l n S) (hB : Below w0.heap.size w0 w) (hlo : ∀ x ∈ l, d ≤ x.1) (hwt : wts bs.length l < 1099511627776) :
    Calls Try.prog 43 #[.pointer (some ⟨gW, 0, none⟩), .int .i64 r] w fun e w' => ∃ b l' n', e = .returned (.bool b) ∧ Aside0 (Wk w' w0.heap.size gW (.func (.func 41) #[] #[.pointer (some ⟨gG, 0, none⟩)]) l' n' (fun k => S k ∨ w.heap.size ≤ k)) ∧ Aside0 (∀ x ∈ l', d ≤ x.1) ∧ Aside0 (wts bs.length l' ≤ wts bs.length l) ∧
      Aside0 (b = true → 0 < l'.length ∧ (gt l' 0).2.1 < 0 ∧ (gt l' 0).1 ≤ r) ∧ Aside0 (Below w0.heap.size w0 w') ∧ Aside0 (Kept w w' S) := by
  have hu98 := Try.underlying98
  have hu106 := Try.underlying106
  have HGD := Aside0.mk hG
  have HW0 := Aside0.mk (h.mono (S' := fun k => S k ∨ w.heap.size ≤ k) (fun k h => .inl h))
  have HB0 := Aside0.mk hB
  have HLO := Aside0.mk hlo
  have HWT := Aside0.mk hwt
  clear hG h hB hlo hwt
  go_enter Try.func43, Try.ntmps43
  go_wp2
  go_loopg [] (wts bs.length l) (fun kq wr => ∃ (l2 : List Ent) (n2 : Int), Aside0 (wts bs.length l2 = kq) ∧ Aside0 (kq ≤ wts bs.length l) ∧ Aside0 (Wk wr w0.heap.size gW (.func (.func 41) #[] #[.pointer (some ⟨gG, 0, none⟩)]) l2 n2 (fun k => S k ∨ w.heap.size ≤ k)) ∧ Aside0 (∀ x ∈ l2, d ≤ x.1) ∧ Aside0 (Below w0.heap.size w0 wr) ∧ Aside0 (Kept w wr S))
  case atStart => exact ⟨l, n, ⟨rfl⟩, ⟨Nat.le_refl _⟩, HW0, HLO, HB0, ⟨Kept.refl _ _⟩⟩
  case round =>
    clear HW0 HB0
    obtain ⟨l2, n2, HKQ, HLE, HW, HLO2, HB, HK⟩ := hrel
    have HLE2 : Aside0 (wts bs.length l2 ≤ wts bs.length l) := ⟨by rw [HKQ.out]; exact HLE.out⟩
    have HWT2 : Aside0 (wts bs.length l2 < 1099511627776) := ⟨by have := HLE2.out; have := HWT.out; omega⟩
    have HLN : Aside0 (l2.length < 4398046511104) := ⟨by have := wts_len bs.length l2; have := HWT2.out; omega⟩
    obtain ⟨gH, hg, hbg, s, hh, ho, hne⟩ := HW.out
    have hc1 : wr.cell? ⟨gW, 1, none⟩ = some (.pointer (some ⟨gH, 0, none⟩)) := (blk_cell hg 1).trans rfl
    have HH := Aside0.mk hh
    clear hg hbg s hh ho hne
    by_cases hn : 0 < l2.length
    · have HN := Aside0.mk hn
      clear hn
      by_cases hf : r < (gt l2 0).1
      · have d1 : decide (r < (gt l2 0).1) = true := decide_eq_true hf
        go_wp2_with ((go_at_call 45; (with_reducible refine (top_yes gH w0.heap.size l2 _ _ HH.out HN.out).mono ?_); rintro e w1 ⟨rfl, hb⟩; have hbB := below_alloc hb (.cells #[.int .i64 (gt l2 0).1, .int .i64 (gt l2 0).2.1, .int .u64 (gt l2 0).2.2] 98); have X1 := Aside0.mk (HW.out.below hbB); have X2 := Aside0.mk (below_then HB.out HB.out.size hbB); have X3 := Aside0.mk (HK.out.below hbB); clear hb hbB))
        go_ret
        exact ⟨false, l2, n2, rfl, X1, HLO2, HLE2, ⟨fun h => by cases h⟩, X2, X3⟩
      · have d1 : decide (r < (gt l2 0).1) = false := decide_eq_false hf
        have HF : Aside0 ((gt l2 0).1 ≤ r) := ⟨by omega⟩
        by_cases ht : (gt l2 0).2.1 < 0
        · have HT := Aside0.mk ht
          clear ht
          go_wp2_with (first | (go_at_call 45; (with_reducible refine (top_yes gH w0.heap.size l2 _ _ HH.out HN.out).mono ?_); rintro e w1 ⟨rfl, hb⟩; have hbB := below_alloc hb (.cells #[.int .i64 (gt l2 0).1, .int .i64 (gt l2 0).2.1, .int .u64 (gt l2 0).2.2] 98); have X1 := Aside0.mk (HW.out.below hbB); have X2 := Aside0.mk (below_then HB.out HB.out.size hbB); have X3 := Aside0.mk (HK.out.below hbB); clear hb hbB) | (go_at_call 56; (with_reducible refine (thing_one (gt l2 0) HT.out _).mono ?_); rintro e w2 ⟨rfl, hb⟩; have Y1 := Aside0.mk (X1.out.below hb); have Y2 := Aside0.mk (below_then X2.out X2.out.size hb); have Y3 := Aside0.mk (X3.out.below hb); clear hb))
          go_ret
          exact ⟨true, l2, n2, rfl, Y1, HLO2, HLE2, ⟨fun _ => ⟨HN.out, HT.out, HF.out⟩⟩, Y2, Y3⟩
        · have HT : Aside0 (0 ≤ (gt l2 0).2.1) := ⟨by omega⟩
          clear ht
          go_wp2_with (first | (go_at_call 45; (with_reducible refine (top_yes gH w0.heap.size l2 _ _ HH.out HN.out).mono ?_); rintro e w1 ⟨rfl, hb⟩; have hbB := below_alloc hb (.cells #[.int .i64 (gt l2 0).1, .int .i64 (gt l2 0).2.1, .int .u64 (gt l2 0).2.2] 98); have X1 := Aside0.mk (HW.out.bound.below hbB); have X2 := Aside0.mk (below_then HB.out HB.out.size hbB); have X3 := Aside0.mk (HK.out.below hbB); have X4 := Aside0.mk (blk_new w1 (.cells #[.int .i64 (gt l2 0).1, .int .i64 (gt l2 0).2.1, .int .u64 (gt l2 0).2.2] 98)); have X6 : Aside0 (wr.heap.size ≤ w1.heap.size) := ⟨hb.size⟩; have hq0 : (w1.alloc (.cells #[.int .i64 (gt l2 0).1, .int .i64 (gt l2 0).2.1, .int .u64 (gt l2 0).2.2] 98)).cell? ⟨w1.heap.size, 0, none⟩ = some (.int .i64 (gt l2 0).1) := (blk_cell X4.out 0).trans rfl; have hq1 : (w1.alloc (.cells #[.int .i64 (gt l2 0).1, .int .i64 (gt l2 0).2.1, .int .u64 (gt l2 0).2.2] 98)).cell? ⟨w1.heap.size, 1, none⟩ = some (.int .i64 (gt l2 0).2.1) := (blk_cell X4.out 1).trans rfl; have hq2 : (w1.alloc (.cells #[.int .i64 (gt l2 0).1, .int .i64 (gt l2 0).2.1, .int .u64 (gt l2 0).2.2] 98)).cell? ⟨w1.heap.size, 2, none⟩ = some (.int .u64 (gt l2 0).2.2) := (blk_cell X4.out 2).trans rfl; clear hb hbB) | (go_at_call 56; (with_reducible refine (thing_zero (gt l2 0) HT.out _).mono ?_); rintro e w2 ⟨rfl, hb⟩; have Y1 := Aside0.mk (X1.out.below hb); have Y2 := Aside0.mk (below_then X2.out X2.out.size hb); have Y3 := Aside0.mk (X3.out.below hb); have Y4 := Aside0.mk (blk_below X4.out hb); clear hb hq0 hq1 hq2 X1 X2 X3 X4; obtain ⟨gI, hg, hbg, s, hh, ho, hne⟩ := Y1.out; have HI := Aside0.mk (hh.off hg); have HO := Aside0.mk ho; have HG := Aside0.mk hg; have HBG := Aside0.mk hbg; have HSG := Aside0.mk s; have HNE := Aside0.mk hne; have hc2 : w2.cell? ⟨gW, 1, none⟩ = some (.pointer (some ⟨gI, 0, none⟩)) := (blk_cell hg 1).trans rfl; have YS : Aside0 (w0.heap.size ≤ w2.heap.size) := ⟨Y2.out.size⟩; clear hg hbg s hh ho hne) | (go_at_call 44; (with_reducible refine (pop_calls gI w0.heap.size l2 _ w0 _ HI.out Y2.out YS.out HN.out HO.out HLN.out).mono ?_); rintro e w3 ⟨rfl, l3, h1, h2, h3, h4, h5⟩; have V2 := h2; have V3 := h3; have V4 := h4; have hQ3 := blk_kept Y4.out h5.out (fun h => by have h6 := h.1.2; have h7 := X6.out; omega); have hq0 : w3.cell? ⟨w1.heap.size, 0, none⟩ = some (.int .i64 (gt l2 0).1) := (blk_cell hQ3 0).trans rfl; have hq1 : w3.cell? ⟨w1.heap.size, 1, none⟩ = some (.int .i64 (gt l2 0).2.1) := (blk_cell hQ3 1).trans rfl; have hq2 : w3.cell? ⟨w1.heap.size, 2, none⟩ = some (.int .u64 (gt l2 0).2.2) := (blk_cell hQ3 2).trans rfl; have VG := Aside0.mk (blk_kept HG.out h5.out (fun h => h.2 rfl)); have V1 : Aside0 (Wk w3 w0.heap.size gW (.func (.func 41) #[] #[.pointer (some ⟨gG, 0, none⟩)]) l3 n2 (fun k => (S k ∨ w.heap.size ≤ k) ∧ k < wr.heap.size)) := ⟨⟨gI, VG.out, HBG.out, HSG.out, h1.out.mono (fun k h => h.1), h2.out, HNE.out⟩⟩; have V5 := Aside0.mk (Y3.out.then_ h5.out (fun k hk => hk.1.1)); have VZ : Aside0 (w.heap.size ≤ w3.heap.size) := ⟨kept_size V5.out⟩; have VL : Aside0 (l3.length + (openL bs (gt l2 0).2.1).length < 2199023255552) := ⟨len_step HGD.out (gt l2 0) HT.out h3.out HWT2.out⟩; clear h1 h2 h3 h4 h5 hQ3 hc2) | (go_at_call 57; (with_reducible refine (step_calls gW gG bs l3 n2 _ (gt l2 0) w0 _ HGD.out V1.out V4.out VL.out).mono ?_); rintro e w4 ⟨rfl, l4, n4, h1, h2, h3, h4⟩; have U1 := h1; have U2 := h2; have U3 := h3; have U4 := Aside0.mk (V5.out.then_ h4.out (fun k hk => hk.1)); clear h1 h2 h3 h4))
          go_roundg (wts bs.length l4)
          case measure => rw [← HKQ.out]; exact wts_step HGD.out (gt l2 0) HT.out V3.out U2.out
          case rel => exact ⟨l4, n4, ⟨rfl⟩, ⟨by have := wts_step HGD.out (gt l2 0) HT.out V3.out U2.out; have := HLE2.out; omega⟩, ⟨U1.out.mono (fun k hk => hk.elim (fun h => h.1) (fun h => .inr (Nat.le_trans VZ.out h)))⟩, ⟨low_step (gt l2 0) d HLO2.out V3.out U2.out⟩, U3, U4⟩
    · have hl : l2 = [] := List.eq_nil_of_length_eq_zero (by omega)
      subst hl
      clear hn
      go_wp2_with ((go_at_call 45; (with_reducible refine (top_no gH w0.heap.size _ _ HH.out).mono ?_); rintro e w1 ⟨rfl, hb⟩; have hbB := below_alloc hb (.cells #[.int .i64 0, .int .i64 0, .int .u64 0] 98); have X1 := Aside0.mk (HW.out.below hbB); have X2 := Aside0.mk (below_then HB.out HB.out.size hbB); have X3 := Aside0.mk (HK.out.below hbB); clear hb hbB))
      go_ret
      exact ⟨false, [], n2, rfl, X1, HLO2, HLE2, ⟨fun h => by cases h⟩, X2, X3⟩
end Go.Proofs.Ytncbnejldlfbdaa.PHeap
