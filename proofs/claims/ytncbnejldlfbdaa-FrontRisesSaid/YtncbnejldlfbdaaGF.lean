/- What walks of the law's package leaves: a walk over the graph; of fewer than 2^41 entries. -/
import Derived.Test.YtncbnejldlfbdaaGE
namespace Go.Proofs.Ytncbnejldlfbdaa.PHeap
open Go.RowKit Go.Proofs.YtncbnejldlfbdaaW.PrintWords Go.Proofs.YtncbnejldlfbdaaW.PrintLast Go.Proofs.YtncbnejldlfbdaaW.PrintMore
set_option linter.unusedVariables false
set_option linter.unusedSimpArgs false
theorem stored47 {W : World} {r : Nat} {a b c : Value} (h : W.heap[r]? = some (.cells #[a, b, c] 47 (0, 0))) (x y z : Value) :
    (((W.setCell ⟨r, 0, none⟩ x).setCell ⟨r, 1, none⟩ y).setCell ⟨r, 2, none⟩ z).heap[r]? = some (.cells #[x, y, z] 47 (0, 0)) := by
  simpa using blk_set (blk_set (blk_set h 0 x) 1 y) 2 z
set_option maxHeartbeats 16000000 in
set_option maxRecDepth 1000000 in
theorem walks_calls (A0 A1 : Option Addr) (es : List Ent) (bs : List (List Ent)) (c0 c1 : Nat) (w : World) (hE : Ents w A0 es) (hBs : Behind w A1 bs) (hF : Forw bs) (hc : es.length ≤ c0) (hn : es.length < 2199023255552) :
    Calls Try.prog 16 #[.agg #[.slice A0 es.length c0, .slice A1 bs.length c1]] w fun e w' => ∃ (gW : Nat) (l : List Ent) (S : Nat → Prop) (w0 : World), e = .returned (.tuple #[.pointer (some ⟨gW, 0, none⟩), .agg #[.slice A0 es.length c0, .slice A1 bs.length c1, .int .i64 0]]) ∧
      Aside0 (Good w0 w.heap.size bs) ∧ Aside0 (Below w.heap.size w w0) ∧ Aside0 (Wk w' w0.heap.size gW (.func (.func 41) #[] #[.pointer (some ⟨w.heap.size, 0, none⟩)]) l 0 S) ∧ Aside0 (l.Perm es) ∧ Aside0 (Below w0.heap.size w0 w') := by
  have hu43 := Try.underlying43
  have hu47 := Try.underlying47
  have HB := Aside0.mk (blk_new w (.cells #[.slice A0 es.length c0, .slice A1 bs.length c1] 43))
  have hbB := below_alloc (Below.refl w.heap.size w) (.cells #[.slice A0 es.length c0, .slice A1 bs.length c1] 43)
  have HBB := Aside0.mk hbB
  have HG : Aside0 (Good (w.alloc (.cells #[.slice A0 es.length c0, .slice A1 bs.length c1] 43)) w.heap.size bs) := ⟨⟨⟨_, A1, c1, HB.out, hBs.below hbB⟩, hF⟩⟩
  have HE := Aside0.mk (hE.below hbB)
  have HC := Aside0.mk hc
  have HN := Aside0.mk hn
  generalize hw0 : (w.alloc (.cells #[.slice A0 es.length c0, .slice A1 bs.length c1] 43)) = w0 at *
  have HS0 : Aside0 (w.heap.size + 1 = w0.heap.size) := ⟨by rw [← hw0]; simp⟩
  have hr := blk_new w0 (.cells #[.slice none 0 0, .slice none 0 0, .int .i64 0] 47)
  have HB1 := Aside0.mk (blk_alloc HB.out (.cells #[.slice none 0 0, .slice none 0 0, .int .i64 0] 47))
  have HE1 := Aside0.mk (HE.out.below (below_alloc (Below.refl w0.heap.size w0) (.cells #[.slice none 0 0, .slice none 0 0, .int .i64 0] 47)))
  have HB2 := Aside0.mk (below_alloc (Below.refl w0.heap.size w0) (.cells #[.slice none 0 0, .slice none 0 0, .int .i64 0] 47))
  have HR := Aside0.mk hr
  have hnew : w.alloc (.cells #[.slice A0 es.length c0, .slice A1 bs.length c1] 43) = w0 := hw0
  have HW0 := Aside0.mk hw0
  clear hw0 hE hBs hF hc hn hbB hr hnew
  go_enter Try.func16, Try.ntmps16
  go_upto_region 2 with (fail)
  rw [HW0.out]
  generalize hW : w0.alloc (.cells #[.slice none 0 0, .slice none 0 0, .int .i64 0] 47) = W at *
  have hb0 : W.cell? ⟨w.heap.size, 0, none⟩ = some (.slice A0 es.length c0) := (blk_cell HB1.out 0).trans rfl
  have hb1 : W.cell? ⟨w.heap.size, 1, none⟩ = some (.slice A1 bs.length c1) := (blk_cell HB1.out 1).trans rfl
  have HWB : Aside0 (∀ W1 : World, Below W.drew.heap.size W.drew W1 → W1.heap[w.heap.size + 1]? = some (.cells #[.slice none 0 0, .slice none 0 0, .int .i64 0] 47 (0, 0))) := ⟨fun W1 h => by rw [HS0.out]; exact blk_below (w := W.drew) HR.out h⟩
  have hnb : w.heap.size + 1 ≠ w.heap.size := by omega
  have hnb2 : w.heap.size ≠ w.heap.size + 1 := by omega
  go_region_held3 (fun w' => w'.cell? ⟨w.heap.size, 0, none⟩ = some (.slice A0 es.length c0) ∧ w'.cell? ⟨w.heap.size, 1, none⟩ = some (.slice A1 bs.length c1)) (first | go_keep | exact ⟨pw_cell_below hb hb0, pw_cell_below hb hb1⟩) ((go_at_call 40; (with_reducible refine (new_fn w.heap.size A0 es c0 _ (HE1.out.below (below_drew1 (Below.refl _ _))) HC.out HN.out).mono ?_); rintro e w1 ⟨gW, l, rfl, h1, h2, h3⟩; have hb := h3.out; have X1 := h1; have X2 := h2; have hR := HWB.out w1 h3.out; have hy0 := blk_frozen hR 0; have hy1 := blk_frozen hR 1; have hy2 := blk_frozen hR 2; have hr0 : w1.cell? ⟨w.heap.size + 1, 0, none⟩ = some (.slice none 0 0) := (blk_cell hR 0).trans rfl; have hr1 : w1.cell? ⟨w.heap.size + 1, 1, none⟩ = some (.slice none 0 0) := (blk_cell hR 1).trans rfl; have hr2 : w1.cell? ⟨w.heap.size + 1, 2, none⟩ = some (.int .i64 0) := (blk_cell hR 2).trans rfl; clear h1 h2 h3))
  have hst := stored47 hR (.slice A0 es.length c0) (.slice A1 bs.length c1) (.int .i64 0)
  have hs0 : (((w1.setCell ⟨w.heap.size + 1, 0, none⟩ (.slice A0 es.length c0)).setCell ⟨w.heap.size + 1, 1, none⟩ (.slice A1 bs.length c1)).setCell ⟨w.heap.size + 1, 2, none⟩ (.int .i64 0)).cell? ⟨w.heap.size + 1, 0, none⟩ = some (.slice A0 es.length c0) := (blk_cell hst 0).trans rfl
  have hs1 : (((w1.setCell ⟨w.heap.size + 1, 0, none⟩ (.slice A0 es.length c0)).setCell ⟨w.heap.size + 1, 1, none⟩ (.slice A1 bs.length c1)).setCell ⟨w.heap.size + 1, 2, none⟩ (.int .i64 0)).cell? ⟨w.heap.size + 1, 1, none⟩ = some (.slice A1 bs.length c1) := (blk_cell hst 1).trans rfl
  have hs2 : (((w1.setCell ⟨w.heap.size + 1, 0, none⟩ (.slice A0 es.length c0)).setCell ⟨w.heap.size + 1, 1, none⟩ (.slice A1 bs.length c1)).setCell ⟨w.heap.size + 1, 2, none⟩ (.int .i64 0)).cell? ⟨w.heap.size + 1, 2, none⟩ = some (.int .i64 0) := (blk_cell hst 2).trans rfl
  go_wp2
  refine bodyPost_ret (by simp [results, Try.results16, go_sem, hs0, hs1, hs2]; try rfl) rfl ?_
  refine ⟨gW, l, (fun k => W.drew.heap.size ≤ k), w0, rfl, HG, HBB, ⟨?_⟩, X2, ⟨?_⟩⟩
  · have h5 : w0.heap.size ≤ W.drew.heap.size := by rw [← hW]; simp
    refine Wk.move (w := w1) (X1.out.weaken h5) (fun k hk _ => ?_)
    have h6 : W.drew.heap.size ≤ k := hk
    have h7 : k ≠ w.heap.size + 1 := by
      have h8 : W.drew.heap.size = w0.heap.size + 1 := by rw [← hW]; simp
      have := HS0.out
      omega
    rw [Below.heap_setCell _ ⟨w.heap.size + 1, 2, none⟩ _ k h7, Below.heap_setCell _ ⟨w.heap.size + 1, 1, none⟩ _ k h7, Below.heap_setCell _ ⟨w.heap.size + 1, 0, none⟩ _ k h7]
  · have h9 : w0.heap.size ≤ w.heap.size + 1 := by rw [← HS0.out]; exact Nat.le_refl _
    have hb2 : Below w0.heap.size w0 w1 := below_step HB2.out.drew hb
    exact ((hb2.setCell (p := ⟨w.heap.size + 1, 0, none⟩) h9 _).setCell (p := ⟨w.heap.size + 1, 1, none⟩) h9 _).setCell (p := ⟨w.heap.size + 1, 2, none⟩) h9 _
end Go.Proofs.Ytncbnejldlfbdaa.PHeap
