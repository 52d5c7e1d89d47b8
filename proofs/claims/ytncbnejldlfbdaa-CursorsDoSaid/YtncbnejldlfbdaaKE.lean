/- What Next of a table of cursors answers and leaves, of walks of things; of fewer than 2^42 entries. -/
import Derived.Test.YtncbnejldlfbdaaCA
import Derived.Test.YtncbnejldlfbdaaKB
namespace Go.Proofs.Ytncbnejldlfbdaa.PCur
open Go.RowKit Go.Proofs.YtncbnejldlfbdaaW.PrintWords Go.Proofs.YtncbnejldlfbdaaW.PrintLast Go.Proofs.YtncbnejldlfbdaaW.PrintMore
open Go.Proofs.Ytncbnejldlfbdaa.PCursorsDo
open Go.Proofs.Ytncbnejldlfbdaa.PHeap (Wk next_yes next_no gt Ent kept_size stored2)
set_option linter.unusedVariables false
set_option linter.unusedSimpArgs false
theorem stored31' {W : World} {r : Nat} {a b : Value} (h : W.heap[r]? = some (.cells #[a, b] 31 (0, 0))) (x y : Value) :
    ((W.setCell ⟨r, 0, none⟩ x).setCell ⟨r, 1, none⟩ y).heap[r]? = some (.cells #[x, y] 31 (0, 0)) := by
  simpa using blk_set (blk_set h 0 x) 1 y
theorem curV_inj {a b : Int} {p q : Option Addr} (h : (DataW.held (curV a p) : DataW Value) = .held (curV b q)) : a = b ∧ p = q := by
  unfold curV at h
  injection h with h
  simpa using h
set_option maxRecDepth 1000000 in
theorem cnext_no (base g b n : Nat) (most last : Int) (D : DataW Value) (i ver : Int) (hi : (Lit.int .u64 i).wf = true) (w : World) (h : Tab w base g b n most last D) (hh : Maps.has D (.int .u64 i) = false) :
    Calls Try.prog 9 #[.pointer (some ⟨g, 0, none⟩), .int .u64 i, .int .i64 ver] w fun e w' => e = .returned (.tuple #[.agg #[.int .u64 0, .int .i64 0], .int .i64 7]) ∧ Below w.heap.size w w' := by
  have hu31 := Try.underlying31
  have hu92 := Try.underlying92
  have HB := Aside0.mk (below_alloc (Below.refl w.heap.size w) (.cells #[.int .u64 0, .int .i64 0] 31))
  have HR := Aside0.mk (blk_new w (.cells #[.int .u64 0, .int .i64 0] 31))
  have HT1 := Aside0.mk (h.below HB.out)
  have HI := Aside0.mk hi
  have HH := Aside0.mk hh
  clear h hi hh
  go_enter Try.func9, Try.ntmps9
  go_wp2_with ((go_at_call 38; (with_reducible refine (find_calls base g b n most last D i HI.out _ HT1.out).mono ?_); rintro e w1 ⟨hb, hx⟩; rcases hx with ⟨_, rfl⟩ | ⟨v, p, h9, _⟩; rotate_left; exact absurd (h9.symm.trans HH.out) (by decide); have hR := blk_alloc (blk_below HR.out hb) (.cells #[.int .i64 0, .pointer none] 92); have hy0 := blk_frozen hR 0; have hy1 := blk_frozen hR 1; have hr0 : (w1.alloc (.cells #[.int .i64 0, .pointer none] 92)).cell? ⟨w.heap.size, 0, none⟩ = some (.int .u64 0) := (blk_cell hR 0).trans rfl; have hr1 : (w1.alloc (.cells #[.int .i64 0, .pointer none] 92)).cell? ⟨w.heap.size, 1, none⟩ = some (.int .i64 0) := (blk_cell hR 1).trans rfl; have hs9 := stored31' hR (.int .u64 0) (.int .i64 0); have hs0 : (((w1.alloc (.cells #[.int .i64 0, .pointer none] 92)).setCell ⟨w.heap.size, 0, none⟩ (.int .u64 0)).setCell ⟨w.heap.size, 1, none⟩ (.int .i64 0)).cell? ⟨w.heap.size, 0, none⟩ = some (.int .u64 0) := (blk_cell hs9 0).trans rfl; have hs1 : (((w1.alloc (.cells #[.int .i64 0, .pointer none] 92)).setCell ⟨w.heap.size, 0, none⟩ (.int .u64 0)).setCell ⟨w.heap.size, 1, none⟩ (.int .i64 0)).cell? ⟨w.heap.size, 1, none⟩ = some (.int .i64 0) := (blk_cell hs9 1).trans rfl; clear hs9; have HX := Aside0.mk (below_alloc (below_step HB.out hb) (.cells #[.int .i64 0, .pointer none] 92)); clear hb hR))
  refine bodyPost_ret (by simp [results, Try.results9, go_sem, hs0, hs1]; try rfl) rfl ?_
  exact ⟨rfl, (HX.out.setCell (p := ⟨w.heap.size, 0, none⟩) (Nat.le_refl _) _).setCell (p := ⟨w.heap.size, 1, none⟩) (Nat.le_refl _) _⟩
set_option maxRecDepth 1000000 in
theorem cnext_stale (base g b n : Nat) (most last : Int) (D : DataW Value) (i ver v : Int) (gW : Nat) (hi : (Lit.int .u64 i).wf = true) (w : World) (h : Tab w base g b n most last D) (hh : Maps.has D (.int .u64 i) = true)
    (hat : D.atKey (.int .u64 i) (.held (curV 0 none)) = .held (curV v (some ⟨gW, 0, none⟩))) (hv : v ≠ ver) :
    Calls Try.prog 9 #[.pointer (some ⟨g, 0, none⟩), .int .u64 i, .int .i64 ver] w fun e w' => e = .returned (.tuple #[.agg #[.int .u64 0, .int .i64 0], .int .i64 8]) ∧ Below w.heap.size w w' := by
  have hu31 := Try.underlying31
  have hu92 := Try.underlying92
  have HB := Aside0.mk (below_alloc (Below.refl w.heap.size w) (.cells #[.int .u64 0, .int .i64 0] 31))
  have HR := Aside0.mk (blk_new w (.cells #[.int .u64 0, .int .i64 0] 31))
  have HT1 := Aside0.mk (h.below HB.out)
  have HI := Aside0.mk hi
  have HH := Aside0.mk hh
  have HAT := Aside0.mk hat
  have d2 : (v == ver) = false := beq_eq_false_iff_ne.2 hv
  have d3 : (v != ver) = true := bne_iff_ne.2 hv
  clear h hi hh hat hv
  go_enter Try.func9, Try.ntmps9
  go_wp2_with ((go_at_call 38; (with_reducible refine (find_calls base g b n most last D i HI.out _ HT1.out).mono ?_); rintro e w1 ⟨hb, hx⟩; rcases hx with ⟨h9, _⟩ | ⟨v_, p_, _, hat, rfl⟩; exact absurd (h9.symm.trans HH.out) (by decide); have hvp := curV_inj (HAT.out.symm.trans hat); obtain ⟨rfl, rfl⟩ := hvp; have hR := blk_alloc (blk_below HR.out hb) (.cells #[.int .i64 v, .pointer (some ⟨gW, 0, none⟩)] 92); have hC := blk_new w1 (.cells #[.int .i64 v, .pointer (some ⟨gW, 0, none⟩)] 92); have hc0 : (w1.alloc (.cells #[.int .i64 v, .pointer (some ⟨gW, 0, none⟩)] 92)).cell? ⟨w1.heap.size, 0, none⟩ = some (.int .i64 v) := (blk_cell hC 0).trans rfl; have hc1 : (w1.alloc (.cells #[.int .i64 v, .pointer (some ⟨gW, 0, none⟩)] 92)).cell? ⟨w1.heap.size, 1, none⟩ = some (.pointer (some ⟨gW, 0, none⟩)) := (blk_cell hC 1).trans rfl; have HX := Aside0.mk (below_alloc (below_step HB.out hb) (.cells #[.int .i64 v, .pointer (some ⟨gW, 0, none⟩)] 92)); have hy0 := blk_frozen hR 0; have hy1 := blk_frozen hR 1; have hr0 : (w1.alloc (.cells #[.int .i64 v, .pointer (some ⟨gW, 0, none⟩)] 92)).cell? ⟨w.heap.size, 0, none⟩ = some (.int .u64 0) := (blk_cell hR 0).trans rfl; have hr1 : (w1.alloc (.cells #[.int .i64 v, .pointer (some ⟨gW, 0, none⟩)] 92)).cell? ⟨w.heap.size, 1, none⟩ = some (.int .i64 0) := (blk_cell hR 1).trans rfl; have hs9 := stored31' hR (.int .u64 0) (.int .i64 0); have hs0 : (((w1.alloc (.cells #[.int .i64 v, .pointer (some ⟨gW, 0, none⟩)] 92)).setCell ⟨w.heap.size, 0, none⟩ (.int .u64 0)).setCell ⟨w.heap.size, 1, none⟩ (.int .i64 0)).cell? ⟨w.heap.size, 0, none⟩ = some (.int .u64 0) := (blk_cell hs9 0).trans rfl; have hs1 : (((w1.alloc (.cells #[.int .i64 v, .pointer (some ⟨gW, 0, none⟩)] 92)).setCell ⟨w.heap.size, 0, none⟩ (.int .u64 0)).setCell ⟨w.heap.size, 1, none⟩ (.int .i64 0)).cell? ⟨w.heap.size, 1, none⟩ = some (.int .i64 0) := (blk_cell hs9 1).trans rfl; clear hs9; clear hb hR hC hat))
  refine bodyPost_ret (by simp [results, Try.results9, go_sem, hs0, hs1]; try rfl) rfl ?_
  exact ⟨rfl, (HX.out.setCell (p := ⟨w.heap.size, 0, none⟩) (Nat.le_refl _) _).setCell (p := ⟨w.heap.size, 1, none⟩) (Nat.le_refl _) _⟩
set_option maxRecDepth 1000000 in
theorem cnext_done (base g b n : Nat) (most last : Int) (D : DataW Value) (i v : Int) (gW : Nat) (S : Nat → Prop) (hi : (Lit.int .u64 i).wf = true) (w : World) (h : Tab w base g b n most last D) (hh : Maps.has D (.int .u64 i) = true)
    (hat : D.atKey (.int .u64 i) (.held (curV 0 none)) = .held (curV v (some ⟨gW, 0, none⟩))) (hw : Wk w base gW .nilFunc [] 0 S) :
    Calls Try.prog 9 #[.pointer (some ⟨g, 0, none⟩), .int .u64 i, .int .i64 v] w fun e w' => e = .returned (.tuple #[.agg #[.int .u64 0, .int .i64 0], .int .i64 9]) ∧ Below w.heap.size w w' := by
  have hu31 := Try.underlying31
  have hu92 := Try.underlying92
  have HB := Aside0.mk (below_alloc (Below.refl w.heap.size w) (.cells #[.int .u64 0, .int .i64 0] 31))
  have HR := Aside0.mk (blk_new w (.cells #[.int .u64 0, .int .i64 0] 31))
  have HT1 := Aside0.mk (h.below HB.out)
  have HI := Aside0.mk hi
  have HH := Aside0.mk hh
  have HAT := Aside0.mk hat
  have HWK := Aside0.mk hw
  clear h hi hh hat hw
  go_enter Try.func9, Try.ntmps9
  go_wp2_with (first | (go_at_call 38; (with_reducible refine (find_calls base g b n most last D i HI.out _ HT1.out).mono ?_); rintro e w1 ⟨hb, hx⟩; rcases hx with ⟨h9, _⟩ | ⟨v_, p_, _, hat, rfl⟩; exact absurd (h9.symm.trans HH.out) (by decide); have hvp := curV_inj (HAT.out.symm.trans hat); obtain ⟨rfl, rfl⟩ := hvp; have hR := blk_alloc (blk_below HR.out hb) (.cells #[.int .i64 v, .pointer (some ⟨gW, 0, none⟩)] 92); have hC := blk_new w1 (.cells #[.int .i64 v, .pointer (some ⟨gW, 0, none⟩)] 92); have hc0 : (w1.alloc (.cells #[.int .i64 v, .pointer (some ⟨gW, 0, none⟩)] 92)).cell? ⟨w1.heap.size, 0, none⟩ = some (.int .i64 v) := (blk_cell hC 0).trans rfl; have hc1 : (w1.alloc (.cells #[.int .i64 v, .pointer (some ⟨gW, 0, none⟩)] 92)).cell? ⟨w1.heap.size, 1, none⟩ = some (.pointer (some ⟨gW, 0, none⟩)) := (blk_cell hC 1).trans rfl; have HX := Aside0.mk (below_alloc (below_step HB.out hb) (.cells #[.int .i64 v, .pointer (some ⟨gW, 0, none⟩)] 92)); have RB := Aside0.mk hR; have WB := Aside0.mk ((HWK.out.bound.below (below_alloc (Below.refl w.heap.size w) (.cells #[.int .u64 0, .int .i64 0] 31))).below (below_alloc hb (.cells #[.int .i64 v, .pointer (some ⟨gW, 0, none⟩)] 92))); clear hb hR hC hat) | (go_at_call 18; (with_reducible refine (next_no gW base .nilFunc 0 _ _ WB.out).mono ?_); rintro e w2 ⟨rfl, hb⟩; have hR := blk_alloc (blk_below RB.out hb) (.cells #[.int .u64 0, .int .i64 0] 31); have hy0 := blk_frozen hR 0; have hy1 := blk_frozen hR 1; have hr0 : (w2.alloc (.cells #[.int .u64 0, .int .i64 0] 31)).cell? ⟨w.heap.size, 0, none⟩ = some (.int .u64 0) := (blk_cell hR 0).trans rfl; have hr1 : (w2.alloc (.cells #[.int .u64 0, .int .i64 0] 31)).cell? ⟨w.heap.size, 1, none⟩ = some (.int .i64 0) := (blk_cell hR 1).trans rfl; have hs9 := stored31' hR (.int .u64 0) (.int .i64 0); have hs0 : (((w2.alloc (.cells #[.int .u64 0, .int .i64 0] 31)).setCell ⟨w.heap.size, 0, none⟩ (.int .u64 0)).setCell ⟨w.heap.size, 1, none⟩ (.int .i64 0)).cell? ⟨w.heap.size, 0, none⟩ = some (.int .u64 0) := (blk_cell hs9 0).trans rfl; have hs1 : (((w2.alloc (.cells #[.int .u64 0, .int .i64 0] 31)).setCell ⟨w.heap.size, 0, none⟩ (.int .u64 0)).setCell ⟨w.heap.size, 1, none⟩ (.int .i64 0)).cell? ⟨w.heap.size, 1, none⟩ = some (.int .i64 0) := (blk_cell hs9 1).trans rfl; clear hs9; have HY := Aside0.mk (below_alloc (below_step HX.out hb) (.cells #[.int .u64 0, .int .i64 0] 31)); clear hb hR))
  refine bodyPost_ret (by simp [results, Try.results9, go_sem, hs0, hs1]; try rfl) rfl ?_
  exact ⟨rfl, (HY.out.setCell (p := ⟨w.heap.size, 0, none⟩) (Nat.le_refl _) _).setCell (p := ⟨w.heap.size, 1, none⟩) (Nat.le_refl _) _⟩
set_option maxRecDepth 1000000 in
set_option maxHeartbeats 4000000 in
theorem cnext_hit (base g b n : Nat) (most last : Int) (D : DataW Value) (i v : Int) (gW : Nat) (l : List Ent) (S : Nat → Prop) (hi : (Lit.int .u64 i).wf = true) (w0 w : World) (h : Tab w base g b n most last D) (hh : Maps.has D (.int .u64 i) = true)
    (hat : D.atKey (.int .u64 i) (.held (curV 0 none)) = .held (curV v (some ⟨gW, 0, none⟩))) (hw : Wk w base gW .nilFunc l 0 S) (hB : Below base w0 w) (hbw : base ≤ w.heap.size) (hn : 0 < l.length) (ht : (gt l 0).2.1 < 0) (hf : (gt l 0).1 ≤ 4611686018427387904) (hln : l.length < 4398046511104) :
    Calls Try.prog 9 #[.pointer (some ⟨g, 0, none⟩), .int .u64 i, .int .i64 v] w fun e w' => e = .returned (.tuple #[.agg #[.int .u64 (gt l 0).2.2, .int .i64 (gt l 0).1], .int .i64 0]) ∧
      ∃ l', Aside0 (Wk w' base gW .nilFunc l' 0 S) ∧ Aside0 ((gt l 0 :: l').Perm l) ∧ Aside0 (Below base w0 w') ∧ Aside0 (Kept w w' S) := by
  have hu31 := Try.underlying31
  have hu92 := Try.underlying92
  have HB := Aside0.mk (below_alloc (Below.refl w.heap.size w) (.cells #[.int .u64 0, .int .i64 0] 31))
  have HR := Aside0.mk (blk_new w (.cells #[.int .u64 0, .int .i64 0] 31))
  have HT1 := Aside0.mk (h.below HB.out)
  have HI := Aside0.mk hi
  have HH := Aside0.mk hh
  have HAT := Aside0.mk hat
  have HWK := Aside0.mk hw
  have HB00 := Aside0.mk hB
  have HBW := Aside0.mk hbw
  have HN := Aside0.mk hn
  have HTH := Aside0.mk ht
  have HFAR := Aside0.mk hf
  have HLN := Aside0.mk hln
  clear h hi hh hat hw hB hbw hn ht hf hln
  go_enter Try.func9, Try.ntmps9
  go_wp2_with (first | (go_at_call 38; (with_reducible refine (find_calls base g b n most last D i HI.out _ HT1.out).mono ?_); rintro e w1 ⟨hb, hx⟩; rcases hx with ⟨h9, _⟩ | ⟨v_, p_, _, hat, rfl⟩; exact absurd (h9.symm.trans HH.out) (by decide); have hvp := curV_inj (HAT.out.symm.trans hat); obtain ⟨rfl, rfl⟩ := hvp; have hR := blk_alloc (blk_below HR.out hb) (.cells #[.int .i64 v, .pointer (some ⟨gW, 0, none⟩)] 92); have hC := blk_new w1 (.cells #[.int .i64 v, .pointer (some ⟨gW, 0, none⟩)] 92); have hc0 : (w1.alloc (.cells #[.int .i64 v, .pointer (some ⟨gW, 0, none⟩)] 92)).cell? ⟨w1.heap.size, 0, none⟩ = some (.int .i64 v) := (blk_cell hC 0).trans rfl; have hc1 : (w1.alloc (.cells #[.int .i64 v, .pointer (some ⟨gW, 0, none⟩)] 92)).cell? ⟨w1.heap.size, 1, none⟩ = some (.pointer (some ⟨gW, 0, none⟩)) := (blk_cell hC 1).trans rfl; have HX := Aside0.mk (below_alloc (below_step HB.out hb) (.cells #[.int .i64 v, .pointer (some ⟨gW, 0, none⟩)] 92)); have RB := Aside0.mk hR; have WB := Aside0.mk ((HWK.out.bound.below (below_alloc (Below.refl w.heap.size w) (.cells #[.int .u64 0, .int .i64 0] 31))).below (below_alloc hb (.cells #[.int .i64 v, .pointer (some ⟨gW, 0, none⟩)] 92))); have BB := Aside0.mk (below_then (HB00.out.alloc HBW.out (.cells #[.int .u64 0, .int .i64 0] 31)) (Nat.le_trans HBW.out (by simp)) (hb.alloc hb.size (.cells #[.int .i64 v, .pointer (some ⟨gW, 0, none⟩)] 92))); have KB := Aside0.mk (((Kept.refl w (fun k => S k ∧ k < w.heap.size)).alloc (.cells #[.int .u64 0, .int .i64 0] 31)).below (hb.alloc hb.size (.cells #[.int .i64 v, .pointer (some ⟨gW, 0, none⟩)] 92))); have SB : Aside0 (base ≤ (w1.alloc (.cells #[.int .i64 v, .pointer (some ⟨gW, 0, none⟩)] 92)).heap.size) := ⟨Nat.le_trans HBW.out (kept_size KB.out)⟩; clear hb hR hC hat) | (go_at_call 18; (with_reducible refine (next_yes gW base .nilFunc l 0 _ w0 _ WB.out BB.out SB.out HN.out HTH.out HFAR.out HLN.out).mono ?_); rintro e w2 ⟨rfl, l1, h1, h2, h3, h4⟩; have U1 := h1; have U2 := h2; have U3 := h3; have U4 := Aside0.mk (KB.out.then_ h4.out (fun _ h => .inl h)); have hR := blk_alloc (blk_kept RB.out h4.out (fun h => Nat.lt_irrefl _ h.2)) (.cells #[.int .u64 (gt l 0).2.2, .int .i64 (gt l 0).1] 31); have hQ := blk_new w2 (.cells #[.int .u64 (gt l 0).2.2, .int .i64 (gt l 0).1] 31); have hq0 : (w2.alloc (.cells #[.int .u64 (gt l 0).2.2, .int .i64 (gt l 0).1] 31)).cell? ⟨w2.heap.size, 0, none⟩ = some (.int .u64 (gt l 0).2.2) := (blk_cell hQ 0).trans rfl; have hq1 : (w2.alloc (.cells #[.int .u64 (gt l 0).2.2, .int .i64 (gt l 0).1] 31)).cell? ⟨w2.heap.size, 1, none⟩ = some (.int .i64 (gt l 0).1) := (blk_cell hQ 1).trans rfl; have hy0 := blk_frozen hR 0; have hy1 := blk_frozen hR 1; have hr0 : (w2.alloc (.cells #[.int .u64 (gt l 0).2.2, .int .i64 (gt l 0).1] 31)).cell? ⟨w.heap.size, 0, none⟩ = some (.int .u64 0) := (blk_cell hR 0).trans rfl; have hr1 : (w2.alloc (.cells #[.int .u64 (gt l 0).2.2, .int .i64 (gt l 0).1] 31)).cell? ⟨w.heap.size, 1, none⟩ = some (.int .i64 0) := (blk_cell hR 1).trans rfl; have hs9 := stored31' hR (.int .u64 (gt l 0).2.2) (.int .i64 (gt l 0).1); have hs0 : (((w2.alloc (.cells #[.int .u64 (gt l 0).2.2, .int .i64 (gt l 0).1] 31)).setCell ⟨w.heap.size, 0, none⟩ (.int .u64 (gt l 0).2.2)).setCell ⟨w.heap.size, 1, none⟩ (.int .i64 (gt l 0).1)).cell? ⟨w.heap.size, 0, none⟩ = some (.int .u64 (gt l 0).2.2) := (blk_cell hs9 0).trans rfl; have hs1 : (((w2.alloc (.cells #[.int .u64 (gt l 0).2.2, .int .i64 (gt l 0).1] 31)).setCell ⟨w.heap.size, 0, none⟩ (.int .u64 (gt l 0).2.2)).setCell ⟨w.heap.size, 1, none⟩ (.int .i64 (gt l 0).1)).cell? ⟨w.heap.size, 1, none⟩ = some (.int .i64 (gt l 0).1) := (blk_cell hs9 1).trans rfl; clear hs9; clear h1 h2 h3 h4 hR hQ))
  refine bodyPost_ret (by simp [results, Try.results9, go_sem, hs0, hs1]; try rfl) rfl ?_
  have hbE := below_alloc (Below.refl w2.heap.size w2) (.cells #[.int .u64 (gt l 0).2.2, .int .i64 (gt l 0).1] 31)
  refine ⟨rfl, l1, ⟨?_⟩, U2, ?_, ?_⟩
  · exact ((U1.out.below hbE).move (fun k hk _ => by
      have hne : k ≠ w.heap.size := fun e => by have := hk.2; omega
      rw [Below.heap_setCell _ ⟨w.heap.size, 1, none⟩ _ k hne, Below.heap_setCell _ ⟨w.heap.size, 0, none⟩ _ k hne])).mono (fun k hk => hk.1)
  · exact ⟨((U3.out.alloc (Nat.le_trans HBW.out (kept_size U4.out)) _).setCell (p := ⟨w.heap.size, 0, none⟩) HBW.out _).setCell (p := ⟨w.heap.size, 1, none⟩) HBW.out _⟩
  · exact ⟨(((U4.out.alloc _).setCell (p := ⟨w.heap.size, 0, none⟩) (.inr (Nat.le_refl _)) _).setCell (p := ⟨w.heap.size, 1, none⟩) (.inr (Nat.le_refl _)) _).mono (fun _ h => h.1)⟩
end Go.Proofs.Ytncbnejldlfbdaa.PCur
