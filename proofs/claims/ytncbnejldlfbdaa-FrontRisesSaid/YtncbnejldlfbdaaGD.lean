/- What Next and Take of a walk over a graph come to: they end, and tell nothing lower than what is there; of a weight less than 2^40. -/
import Derived.Test.YtncbnejldlfbdaaGC
namespace Go.Proofs.Ytncbnejldlfbdaa.PHeap
open Go.RowKit Go.Proofs.YtncbnejldlfbdaaW.PrintWords Go.Proofs.YtncbnejldlfbdaaW.PrintLast Go.Proofs.YtncbnejldlfbdaaW.PrintMore
set_option linter.unusedVariables false
set_option linter.unusedSimpArgs false
theorem Wk.far2 {w : World} {base gW g : Nat} {fv : Value} {l : List Ent} {n : Int} {S : Nat → Prop} (h : Wk w base gW fv l n S) (hn : ¬ S g) (x y : Value) : Wk ((w.setCell ⟨g, 0, none⟩ x).setCell ⟨g, 1, none⟩ y) base gW fv l n S :=
  h.move (fun k hk _ => by
    have hne : k ≠ g := fun e => hn (e ▸ hk)
    rw [Below.heap_setCell _ ⟨g, 1, none⟩ y k hne, Below.heap_setCell _ ⟨g, 0, none⟩ x k hne])
set_option maxHeartbeats 16000000 in
set_option maxRecDepth 1000000 in
theorem next_g (gW gG : Nat) (bs : List (List Ent)) (l : List Ent) (n : Int) (S : Nat → Prop) (d : Int) (w0 w : World) (hG : Good w0 gG bs) (h : Wk w w0.heap.size gW (.func (.func 41) #[] #[.pointer (some ⟨gG, 0, none⟩)]) l n S) (hB : Below w0.heap.size w0 w) (hlo : ∀ x ∈ l, d ≤ x.1) (hwt : wts bs.length l < 1099511627776) :
    Calls Try.prog 18 #[.pointer (some ⟨gW, 0, none⟩)] w fun e w' => ∃ (b : Bool) (i z : Int) (l' : List Ent) (n' : Int), e = .returned (.tuple #[.agg #[.int .u64 i, .int .i64 z], .bool b]) ∧ Aside0 (Wk w' w0.heap.size gW (.func (.func 41) #[] #[.pointer (some ⟨gG, 0, none⟩)]) l' n' (fun k => S k ∨ w.heap.size ≤ k)) ∧
      Aside0 (b = true → d ≤ z ∧ ∀ x ∈ l', z ≤ x.1) ∧ Aside0 (wts bs.length l' ≤ wts bs.length l) ∧ Aside0 (Below w0.heap.size w0 w') ∧ Aside0 (Kept w w' S) := by
  have hu31 := Try.underlying31
  have hu98 := Try.underlying98
  have hu106 := Try.underlying106
  have hbA := below_alloc (Below.refl w.heap.size w) (.cells #[.int .u64 0, .int .i64 0] 31)
  have HGD := Aside0.mk hG
  have HA := Aside0.mk (h.bound.below hbA)
  have BA := Aside0.mk (hB.alloc hB.size (.cells #[.int .u64 0, .int .i64 0] 31))
  have RA := Aside0.mk (blk_new w (.cells #[.int .u64 0, .int .i64 0] 31))
  have KA := Aside0.mk ((Kept.refl w (fun k => S k ∧ k < w.heap.size)).alloc (.cells #[.int .u64 0, .int .i64 0] 31))
  have HLO := Aside0.mk hlo
  have HWT := Aside0.mk hwt
  have W0 := Aside0.mk hB.size
  have HLT := Aside0.mk h.lt
  clear hG h hB hlo hwt hbA
  go_enter Try.func18, Try.ntmps18
  go_upto_if 12 with ((go_at_call 43; (with_reducible refine (ahead_g gW gG bs l n (fun k => S k ∧ k < w.heap.size) 4611686018427387904 d w0 _ HGD.out HA.out BA.out HLO.out HWT.out).mono ?_); rintro e w1 ⟨b, l2, n2, rfl, h1, h2, h3, h4, h5, h6⟩; have X1 := h1; have X2 := h2; have X3 := h3; have X4 := h4; have X5 := h5; have X6 := Aside0.mk (KA.out.then_ h6.out (fun k hk => .inl hk)); have X7 : Aside0 (w.heap.size + 1 ≤ w1.heap.size) := ⟨by have := kept_size h6.out; simpa using this⟩; have RB := Aside0.mk (blk_kept RA.out h6.out (fun h => Nat.lt_irrefl _ h.2)); clear h1 h2 h3 h4 h5 h6))
  cases b with
  | false =>
    have hy0 := blk_frozen RB.out 0
    have hy1 := blk_frozen RB.out 1
    have hr0 : w1.cell? ⟨w.heap.size, 0, none⟩ = some (.int .u64 0) := (blk_cell RB.out 0).trans rfl
    have hr1 : w1.cell? ⟨w.heap.size, 1, none⟩ = some (.int .i64 0) := (blk_cell RB.out 1).trans rfl
    have hs9 := stored2 RB.out (.int .u64 0) (.int .i64 0)
    have hs0 : ((w1.setCell ⟨w.heap.size, 0, none⟩ (.int .u64 0)).setCell ⟨w.heap.size, 1, none⟩ (.int .i64 0)).cell? ⟨w.heap.size, 0, none⟩ = some (.int .u64 0) := (blk_cell hs9 0).trans rfl
    have hs1 : ((w1.setCell ⟨w.heap.size, 0, none⟩ (.int .u64 0)).setCell ⟨w.heap.size, 1, none⟩ (.int .i64 0)).cell? ⟨w.heap.size, 1, none⟩ = some (.int .i64 0) := (blk_cell hs9 1).trans rfl
    clear hs9
    go_wp2
    refine bodyPost_ret (by simp [results, Try.results18, go_sem, hs0, hs1]; try rfl) rfl ?_
    have Z0 : ∀ k, ((S k ∧ k < w.heap.size) ∨ (w.alloc (.cells #[.int .u64 0, .int .i64 0] 31)).heap.size ≤ k) → k ≠ w.heap.size ∧ (S k ∨ w.heap.size ≤ k) := fun k h => h.elim (fun h => ⟨by omega, .inl h.1⟩) (fun h => by simp at h; exact ⟨by omega, .inr (by omega)⟩)
    refine ⟨false, 0, 0, l2, n2, rfl, ⟨((X1.out.mono Z0).far2 (g := w.heap.size) (fun h => h.1 rfl) (.int .u64 0) (.int .i64 0)).mono (fun k h => h.2)⟩, ⟨fun h => by cases h⟩, X3, ⟨(X5.out.setCell (p := ⟨w.heap.size, 0, none⟩) W0.out _).setCell (p := ⟨w.heap.size, 1, none⟩) W0.out _⟩, ⟨((X6.out.setCell (p := ⟨w.heap.size, 0, none⟩) (.inr (Nat.le_refl _)) _).setCell (p := ⟨w.heap.size, 1, none⟩) (.inr (Nat.le_refl _)) _).mono (fun _ h => h.1)⟩⟩
  | true =>
    have HC := Aside0.mk (X4.out rfl)
    have HLN : Aside0 (l2.length < 4398046511104) := ⟨by have := wts_len bs.length l2; have := X3.out; have := HWT.out; omega⟩
    obtain ⟨gH, hg, hbg, s, hh, ho, hne⟩ := X1.out.bound
    have HG := Aside0.mk hg
    have HBG := Aside0.mk hbg
    have HSG := Aside0.mk s
    have HI := Aside0.mk (hh.off hg)
    have HO := Aside0.mk ho
    have HNE := Aside0.mk hne
    have hc1 : w1.cell? ⟨gW, 1, none⟩ = some (.pointer (some ⟨gH, 0, none⟩)) := (blk_cell hg 1).trans rfl
    have XS : Aside0 (w0.heap.size ≤ w1.heap.size) := ⟨X5.out.size⟩
    clear hg hbg s hh ho hne
    go_wp2_with ((go_at_call 44; (with_reducible refine (pop_calls gH w0.heap.size l2 _ w0 _ HI.out X5.out XS.out HC.out.1 HO.out HLN.out).mono ?_); rintro e w2 ⟨rfl, l3, h1, h2, h3, h4, h5⟩; have U1 := h1; have U2 := h2; have U3 := h3; have U4 := h4; have VG := Aside0.mk (blk_kept HG.out h5.out (fun h => h.2 rfl)); have U5 := Aside0.mk (X6.out.then_ h5.out (fun k hk => hk.1.1.elim (fun h => .inl h) (fun h => .inr (by simp at h; omega)))); have hR := blk_alloc (blk_kept RB.out h5.out (fun h => h.1.1.elim (fun h => Nat.lt_irrefl _ h.2) (fun h => by simp at h; omega))) (.cells #[.int .i64 (gt l2 0).1, .int .i64 (gt l2 0).2.1, .int .u64 (gt l2 0).2.2] 98); have hy0 := blk_frozen hR 0; have hr0 : (w2.alloc (.cells #[.int .i64 (gt l2 0).1, .int .i64 (gt l2 0).2.1, .int .u64 (gt l2 0).2.2] 98)).cell? ⟨w.heap.size, 0, none⟩ = some (.int .u64 0) := (blk_cell hR 0).trans rfl; have hy1 := blk_frozen hR 1; have hr1 : (w2.alloc (.cells #[.int .i64 (gt l2 0).1, .int .i64 (gt l2 0).2.1, .int .u64 (gt l2 0).2.2] 98)).cell? ⟨w.heap.size, 1, none⟩ = some (.int .i64 0) := (blk_cell hR 1).trans rfl; have hs9 := stored2 hR (.int .u64 (gt l2 0).2.2) (.int .i64 (gt l2 0).1); have hs0 : (((w2.alloc (.cells #[.int .i64 (gt l2 0).1, .int .i64 (gt l2 0).2.1, .int .u64 (gt l2 0).2.2] 98)).setCell ⟨w.heap.size, 0, none⟩ (.int .u64 (gt l2 0).2.2)).setCell ⟨w.heap.size, 1, none⟩ (.int .i64 (gt l2 0).1)).cell? ⟨w.heap.size, 0, none⟩ = some (.int .u64 (gt l2 0).2.2) := (blk_cell hs9 0).trans rfl; have hs1 : (((w2.alloc (.cells #[.int .i64 (gt l2 0).1, .int .i64 (gt l2 0).2.1, .int .u64 (gt l2 0).2.2] 98)).setCell ⟨w.heap.size, 0, none⟩ (.int .u64 (gt l2 0).2.2)).setCell ⟨w.heap.size, 1, none⟩ (.int .i64 (gt l2 0).1)).cell? ⟨w.heap.size, 1, none⟩ = some (.int .i64 (gt l2 0).1) := (blk_cell hs9 1).trans rfl; clear hs9; clear h1 h2 h3 h4 h5 hR))
    refine bodyPost_ret (by simp [results, Try.results18, go_sem, hs0, hs1]; try rfl) rfl ?_
    have hbE := below_alloc (Below.refl w2.heap.size w2) (.cells #[.int .i64 (gt l2 0).1, .int .i64 (gt l2 0).2.1, .int .u64 (gt l2 0).2.2] 98)
    have Z0 : ∀ k, (((S k ∧ k < w.heap.size) ∨ (w.alloc (.cells #[.int .u64 0, .int .i64 0] 31)).heap.size ≤ k) ∧ k < w1.heap.size) → k ≠ w.heap.size ∧ (S k ∨ w.heap.size ≤ k) := fun k h => h.1.elim (fun h => ⟨by omega, .inl h.1⟩) (fun h => by simp at h; exact ⟨by omega, .inr (by omega)⟩)
    have V1 : Wk w2 w0.heap.size gW (.func (.func 41) #[] #[.pointer (some ⟨gG, 0, none⟩)]) l3 n2 (fun k => k ≠ w.heap.size ∧ (S k ∨ w.heap.size ≤ k)) := ⟨gH, VG.out, HBG.out, Z0 _ HSG.out, U1.out.mono (fun k h => Z0 k h.1), U2.out, HNE.out⟩
    refine ⟨true, _, _, l3, n2, rfl, ⟨((V1.below hbE).far2 (g := w.heap.size) (fun h => h.1 rfl) (.int .u64 (gt l2 0).2.2) (.int .i64 (gt l2 0).1)).mono (fun k h => h.2)⟩, ⟨fun _ => ⟨X2.out _ (U3.out.mem_iff.1 (by simp)), fun x hx => ?_⟩⟩, ⟨?_⟩, ?_, ?_⟩
    · obtain ⟨_, _, _, _, _, ho, _⟩ := X1.out
      exact leE_low (ho.least x (U3.out.mem_iff.1 (by simp [hx])))
    · have h1 := wts_perm (m := bs.length) U3.out
      simp only [wts] at h1
      have := X3.out
      omega
    · exact ⟨((U4.out.alloc U4.out.size _).setCell (p := ⟨w.heap.size, 0, none⟩) W0.out _).setCell (p := ⟨w.heap.size, 1, none⟩) W0.out _⟩
    · exact ⟨(((U5.out.alloc _).setCell (p := ⟨w.heap.size, 0, none⟩) (.inr (Nat.le_refl _)) _).setCell (p := ⟨w.heap.size, 1, none⟩) (.inr (Nat.le_refl _)) _).mono (fun _ h => h.1)⟩
end Go.Proofs.Ytncbnejldlfbdaa.PHeap
