/- What ahead, Next, Low and Opened of a walk answer whose first entry is a thing, of fewer than 2^42 entries. -/
import Derived.Test.YtncbnejldlfbdaaFW
namespace Go.Proofs.Ytncbnejldlfbdaa.PHeap
open Go.RowKit Go.Proofs.YtncbnejldlfbdaaW.PrintWords Go.Proofs.YtncbnejldlfbdaaW.PrintLast Go.Proofs.YtncbnejldlfbdaaW.PrintMore
open Go.Proofs.Ytncbnejldlfbdaa.PRef
set_option linter.unusedVariables false
set_option linter.unusedSimpArgs false
theorem thing_calls (x : Ent) (w : World) : Calls Try.prog 56 #[.agg #[.int .i64 x.1, .int .i64 x.2.1, .int .u64 x.2.2]] w fun e w' => e = .returned (.int .i64 (thingI x)) ∧ Below w.heap.size w w' :=
  front_thing.calls _ _ _ _ w (thing_f x)
theorem thing_one (x : Ent) (h : x.2.1 < 0) (w : World) : Calls Try.prog 56 #[.agg #[.int .i64 x.1, .int .i64 x.2.1, .int .u64 x.2.2]] w fun e w' => e = .returned (.int .i64 1) ∧ Below w.heap.size w w' := by
  have := thing_calls x w
  rwa [show thingI x = 1 from by unfold thingI; rw [if_pos h]] at this
theorem thing_zero (x : Ent) (h : 0 ≤ x.2.1) (w : World) : Calls Try.prog 56 #[.agg #[.int .i64 x.1, .int .i64 x.2.1, .int .u64 x.2.2]] w fun e w' => e = .returned (.int .i64 0) ∧ Below w.heap.size w w' := by
  have := thing_calls x w
  rwa [show thingI x = 0 from by unfold thingI; rw [if_neg (by omega)]] at this
theorem stored2 {W : World} {r : Nat} {a b : Value} (h : W.heap[r]? = some (.cells #[a, b] 31 (0, 0))) (x y : Value) :
    ((W.setCell ⟨r, 0, none⟩ x).setCell ⟨r, 1, none⟩ y).heap[r]? = some (.cells #[x, y] 31 (0, 0)) := by
  simpa using blk_set (blk_set h 0 x) 1 y
set_option maxRecDepth 1000000 in
theorem ahead_yes (gW base : Nat) (fv : Value) (l : List Ent) (n : Int) (S : Nat → Prop) (r : Int) (w : World) (h : Wk w base gW fv l n S) (hn : 0 < l.length) (ht : (gt l 0).2.1 < 0) (hr : (gt l 0).1 ≤ r) :
    Calls Try.prog 43 #[.pointer (some ⟨gW, 0, none⟩), .int .i64 r] w fun e w' => e = .returned (.bool true) ∧ Below w.heap.size w w' := by
  have hu98 := Try.underlying98
  have hu106 := Try.underlying106
  obtain ⟨gH, hg, hb, s, hh, ho, hne⟩ := h
  have hc1 : w.cell? ⟨gW, 1, none⟩ = some (.pointer (some ⟨gH, 0, none⟩)) := (blk_cell hg 1).trans rfl
  have HH := Aside0.mk hh
  have HN := Aside0.mk hn
  have HT := Aside0.mk ht
  clear hg hb s hh ho hne hn ht
  go_enter Try.func43, Try.ntmps43
  go_wp2
  go_loopw [] (fun wr => wr = w) (fun _ => 0)
  case atStart => rfl
  case round =>
    subst hrel
    go_wp2_with (first | (go_at_call 45; (with_reducible refine (top_yes gH base l S _ HH.out HN.out).mono ?_); rintro e w1 ⟨rfl, hb⟩; have HX := Aside0.mk (below_alloc hb (.cells #[.int .i64 (gt l 0).1, .int .i64 (gt l 0).2.1, .int .u64 (gt l 0).2.2] 98)); clear hb) | (go_at_call 56; (with_reducible refine (thing_one (gt l 0) HT.out _).mono ?_); rintro e w2 ⟨rfl, hb⟩; have HY := Aside0.mk (below_step HX.out hb); clear hb))
    go_ret
    exact ⟨rfl, HY.out⟩
set_option maxRecDepth 1000000 in
theorem ahead_far (gW base : Nat) (fv : Value) (l : List Ent) (n : Int) (S : Nat → Prop) (r : Int) (w : World) (h : Wk w base gW fv l n S) (hn : 0 < l.length) (hr : r < (gt l 0).1) :
    Calls Try.prog 43 #[.pointer (some ⟨gW, 0, none⟩), .int .i64 r] w fun e w' => e = .returned (.bool false) ∧ Below w.heap.size w w' := by
  have hu98 := Try.underlying98
  have hu106 := Try.underlying106
  obtain ⟨gH, hg, hb, s, hh, ho, hne⟩ := h
  have hc1 : w.cell? ⟨gW, 1, none⟩ = some (.pointer (some ⟨gH, 0, none⟩)) := (blk_cell hg 1).trans rfl
  have HH := Aside0.mk hh
  have HN := Aside0.mk hn
  clear hg hb s hh ho hne hn
  go_enter Try.func43, Try.ntmps43
  go_wp2
  go_loopw [] (fun wr => wr = w) (fun _ => 0)
  case atStart => rfl
  case round =>
    subst hrel
    go_wp2_with ((go_at_call 45; (with_reducible refine (top_yes gH base l S _ HH.out HN.out).mono ?_); rintro e w1 ⟨rfl, hb⟩; have HX := Aside0.mk (below_alloc hb (.cells #[.int .i64 (gt l 0).1, .int .i64 (gt l 0).2.1, .int .u64 (gt l 0).2.2] 98)); clear hb))
    go_ret
    exact ⟨rfl, HX.out⟩
set_option maxRecDepth 1000000 in
theorem ahead_no (gW base : Nat) (fv : Value) (n : Int) (S : Nat → Prop) (r : Int) (w : World) (h : Wk w base gW fv [] n S) :
    Calls Try.prog 43 #[.pointer (some ⟨gW, 0, none⟩), .int .i64 r] w fun e w' => e = .returned (.bool false) ∧ Below w.heap.size w w' := by
  have hu98 := Try.underlying98
  have hu106 := Try.underlying106
  obtain ⟨gH, hg, hb, s, hh, ho, hne⟩ := h
  have hc1 : w.cell? ⟨gW, 1, none⟩ = some (.pointer (some ⟨gH, 0, none⟩)) := (blk_cell hg 1).trans rfl
  have HH := Aside0.mk hh
  clear hg hb s hh ho hne
  go_enter Try.func43, Try.ntmps43
  go_wp2
  go_loopw [] (fun wr => wr = w) (fun _ => 0)
  case atStart => rfl
  case round =>
    subst hrel
    go_wp2_with ((go_at_call 45; (with_reducible refine (top_no gH base S _ HH.out).mono ?_); rintro e w1 ⟨rfl, hb⟩; have HX := Aside0.mk (below_alloc hb (.cells #[.int .i64 0, .int .i64 0, .int .u64 0] 98)); clear hb))
    go_ret
    exact ⟨rfl, HX.out⟩
set_option maxRecDepth 1000000 in
theorem low_yes (gW base : Nat) (fv : Value) (l : List Ent) (n : Int) (S : Nat → Prop) (w : World) (h : Wk w base gW fv l n S) (hn : 0 < l.length) :
    Calls Try.prog 19 #[.pointer (some ⟨gW, 0, none⟩)] w fun e w' => e = .returned (.int .i64 (gt l 0).1) ∧ Below w.heap.size w w' := by
  have hu98 := Try.underlying98
  have hu106 := Try.underlying106
  obtain ⟨gH, hg, hb, s, hh, ho, hne⟩ := h
  have hc1 : w.cell? ⟨gW, 1, none⟩ = some (.pointer (some ⟨gH, 0, none⟩)) := (blk_cell hg 1).trans rfl
  have HH := Aside0.mk hh
  have HN := Aside0.mk hn
  clear hg hb s hh ho hne hn
  go_enter Try.func19, Try.ntmps19
  go_wp2_with ((go_at_call 45; (with_reducible refine (top_yes gH base l S _ HH.out HN.out).mono ?_); rintro e w1 ⟨rfl, hb⟩; have HX := Aside0.mk (below_alloc hb (.cells #[.int .i64 (gt l 0).1, .int .i64 (gt l 0).2.1, .int .u64 (gt l 0).2.2] 98)); clear hb))
  go_ret
  exact ⟨rfl, HX.out⟩
theorem next_nil (w : World) : Calls Try.prog 18 #[.pointer none] w fun e w' => e = .returned (.tuple #[.agg #[.int .u64 0, .int .i64 0], .bool false]) ∧ Below w.heap.size w w' := by
  have hu31 := Try.underlying31
  have HB := Aside0.mk (below_alloc (Below.refl w.heap.size w) (.cells #[.int .u64 0, .int .i64 0] 31))
  go_enter Try.func18, Try.ntmps18
  go_wp2
  go_returns
  exact ⟨rfl, HB.out⟩
theorem low_nil (w : World) : Calls Try.prog 19 #[.pointer none] w fun e w' => e = .returned (.int .i64 1125899906842624) ∧ w = w' := by
  go_enter Try.func19, Try.ntmps19
  go_wp2
  go_ret
  exact ⟨rfl, rfl⟩
theorem opened_nil (w : World) : Calls Try.prog 20 #[.pointer none] w fun e w' => e = .returned (.int .i64 0) ∧ w = w' := by
  go_enter Try.func20, Try.ntmps20
  go_wp2
  go_ret
  exact ⟨rfl, rfl⟩
theorem upto_nil (r : Int) (w : World) : Calls Try.prog 21 #[.pointer none, .int .i64 r] w fun e w' => e = .returned (.slice none 0 0) ∧ w = w' := by
  go_enter Try.func21, Try.ntmps21
  go_wp2
  go_loopw [5] (fun v5 wr => v5 = .slice none 0 0 ∧ wr = w) (fun _ _ => 0)
  case atStart => exact ⟨rfl, rfl⟩
  case round =>
    obtain ⟨rfl, rfl⟩ := hrel
    go_wp2
    go_ret
    exact ⟨rfl, rfl⟩
set_option maxRecDepth 1000000 in
theorem take_nil (k : Int) (w : World) : Calls Try.prog 17 #[.pointer none, .int .i64 k] w fun e w' => e = .returned (.slice none 0 0) ∧ Below w.heap.size w w' := by
  have hu31 := Try.underlying31
  go_enter Try.func17, Try.ntmps17
  go_wp2
  go_loopw [5] (fun v5 wr => v5 = .slice none 0 0 ∧ wr = w) (fun _ _ => 0)
  case atStart => exact ⟨rfl, rfl⟩
  case round =>
    obtain ⟨rfl, rfl⟩ := hrel
    by_cases hk : 0 < k
    · go_wp2_with ((go_at_call 18; (with_reducible refine (next_nil _).mono ?_); rintro e w1 ⟨rfl, hb⟩; have HX := Aside0.mk (below_alloc hb (.cells #[.int .u64 0, .int .i64 0] 31)); clear hb))
      go_ret
      exact ⟨rfl, HX.out⟩
    · go_wp2
      go_ret
      exact ⟨rfl, Below.refl _ _⟩
set_option maxRecDepth 1000000 in
theorem next_no (gW base : Nat) (fv : Value) (n : Int) (S : Nat → Prop) (w : World) (h : Wk w base gW fv [] n S) :
    Calls Try.prog 18 #[.pointer (some ⟨gW, 0, none⟩)] w fun e w' => e = .returned (.tuple #[.agg #[.int .u64 0, .int .i64 0], .bool false]) ∧ Below w.heap.size w w' := by
  have hu31 := Try.underlying31
  have HB := Aside0.mk (below_alloc (Below.refl w.heap.size w) (.cells #[.int .u64 0, .int .i64 0] 31))
  have HG := Aside0.mk (blk_new w (.cells #[.int .u64 0, .int .i64 0] 31))
  have HW := Aside0.mk (h.below HB.out)
  clear h
  go_enter Try.func18, Try.ntmps18
  go_wp2_with ((go_at_call 43; (with_reducible refine (ahead_no gW base fv n S _ _ HW.out).mono ?_); rintro e w1 ⟨rfl, hb⟩; have hG := blk_below HG.out hb; have hr0 : w1.cell? ⟨w.heap.size, 0, none⟩ = some (.int .u64 0) := (blk_cell hG 0).trans rfl; have hr1 : w1.cell? ⟨w.heap.size, 1, none⟩ = some (.int .i64 0) := (blk_cell hG 1).trans rfl; have hy0 := blk_frozen hG 0; have hy1 := blk_frozen hG 1; have hs9 := stored2 hG (.int .u64 0) (.int .i64 0); have hs0 : ((w1.setCell ⟨w.heap.size, 0, none⟩ (.int .u64 0)).setCell ⟨w.heap.size, 1, none⟩ (.int .i64 0)).cell? ⟨w.heap.size, 0, none⟩ = some (.int .u64 0) := (blk_cell hs9 0).trans rfl; have hs1 : ((w1.setCell ⟨w.heap.size, 0, none⟩ (.int .u64 0)).setCell ⟨w.heap.size, 1, none⟩ (.int .i64 0)).cell? ⟨w.heap.size, 1, none⟩ = some (.int .i64 0) := (blk_cell hs9 1).trans rfl; have HX := Aside0.mk (below_step HB.out hb); clear hb hG hs9))
  refine bodyPost_ret (by simp [results, Try.results18, go_sem, hs0, hs1]; try rfl) rfl ?_
  exact ⟨rfl, (HX.out.setCell (p := ⟨w.heap.size, 0, none⟩) (Nat.le_refl _) _).setCell (p := ⟨w.heap.size, 1, none⟩) (Nat.le_refl _) _⟩
set_option maxHeartbeats 4000000 in
set_option maxRecDepth 1000000 in
/-- a thing is first: it is told -/
theorem next_yes (gW base : Nat) (fv : Value) (l : List Ent) (n : Int) (S : Nat → Prop) (w0 w : World) (h : Wk w base gW fv l n S) (hB : Below base w0 w) (hbw : base ≤ w.heap.size) (hn : 0 < l.length) (ht : (gt l 0).2.1 < 0) (hr : (gt l 0).1 ≤ 4611686018427387904) (hlen : l.length < 4398046511104) :
    Calls Try.prog 18 #[.pointer (some ⟨gW, 0, none⟩)] w fun e w' => e = .returned (.tuple #[.agg #[.int .u64 (gt l 0).2.2, .int .i64 (gt l 0).1], .bool true]) ∧
      ∃ l', Aside0 (Wk w' base gW fv l' n S) ∧ Aside0 ((gt l 0 :: l').Perm l) ∧ Aside0 (Below base w0 w') ∧ Aside0 (Kept w w' S) := by
  have hu31 := Try.underlying31
  have hu98 := Try.underlying98
  have hu106 := Try.underlying106
  have hbA := below_alloc (Below.refl w.heap.size w) (.cells #[.int .u64 0, .int .i64 0] 31)
  have HA := Aside0.mk (h.bound.below hbA)
  have BA := Aside0.mk (hB.alloc hbw (.cells #[.int .u64 0, .int .i64 0] 31))
  have RA := Aside0.mk (blk_new w (.cells #[.int .u64 0, .int .i64 0] 31))
  have KA := Aside0.mk ((Kept.refl w (fun k => S k ∧ k < w.heap.size)).alloc (.cells #[.int .u64 0, .int .i64 0] 31))
  have WA : Aside0 (base ≤ (w.alloc (.cells #[.int .u64 0, .int .i64 0] 31)).heap.size) := ⟨by simp; omega⟩
  have W0 := Aside0.mk hbw
  have HN := Aside0.mk hn
  have HTH := Aside0.mk ht
  have HFAR := Aside0.mk hr
  have HLN := Aside0.mk hlen
  have HLT := Aside0.mk h.lt
  clear h hB hbw hn ht hr hlen hbA
  go_enter Try.func18, Try.ntmps18
  go_wp2_with (first | (go_at_call 43; (with_reducible refine (ahead_yes gW base fv l n (fun k => S k ∧ k < w.heap.size) 4611686018427387904 _ HA.out HN.out HTH.out HFAR.out).mono ?_); rintro e w1 ⟨rfl, hb⟩; have X1 := Aside0.mk (HA.out.below hb); have X2 := Aside0.mk (below_then BA.out WA.out hb); have X3 := Aside0.mk (KA.out.below hb); have X5 := Aside0.mk (blk_below RA.out hb); have X6 : Aside0 (w.heap.size + 1 ≤ w1.heap.size) := ⟨by have := hb.size; simpa using this⟩; obtain ⟨gH, hg, hbg, s1, hh, ho, hne⟩ := X1.out; have X7 := Aside0.mk hg; have X8 := Aside0.mk hbg; have X9 := Aside0.mk s1; have XA := Aside0.mk (hh.off hg); have XB := Aside0.mk ho; have XD := Aside0.mk hne; have XC : Aside0 (base ≤ w1.heap.size) := ⟨Nat.le_trans W0.out (kept_size X3.out)⟩; have hc1 : w1.cell? ⟨gW, 1, none⟩ = some (.pointer (some ⟨gH, 0, none⟩)) := (blk_cell hg 1).trans rfl; clear hb hg hbg s1 hh ho hne) | (go_at_call 44; (with_reducible refine (pop_calls gH base l (fun k => (S k ∧ k < w.heap.size) ∧ k ≠ gW) w0 _ XA.out X2.out XC.out HN.out XB.out HLN.out).mono ?_); rintro e w2 ⟨rfl, l1, h1, h2, h3, h4, h5⟩; have V1 := h1; have V2 := h2; have V3 := h3; have V4 := h4; have V5 := h5; have nr : ¬ ((S w.heap.size ∧ w.heap.size < w.heap.size) ∧ w.heap.size ≠ gW) := (by omega); have hR := blk_alloc (blk_kept X5.out h5.out nr) (.cells #[.int .i64 (gt l 0).1, .int .i64 (gt l 0).2.1, .int .u64 (gt l 0).2.2] 98); have VW := Aside0.mk (blk_kept X7.out h5.out (fun h => h.2 rfl)); have VK := Aside0.mk ((X3.out.then_ h5.out (fun _ h => .inl h.1))); have hy0 := blk_frozen hR 0; have hr0 : (w2.alloc (.cells #[.int .i64 (gt l 0).1, .int .i64 (gt l 0).2.1, .int .u64 (gt l 0).2.2] 98)).cell? ⟨w.heap.size, 0, none⟩ = some (.int .u64 0) := (blk_cell hR 0).trans rfl; have hy1 := blk_frozen hR 1; have hr1 : (w2.alloc (.cells #[.int .i64 (gt l 0).1, .int .i64 (gt l 0).2.1, .int .u64 (gt l 0).2.2] 98)).cell? ⟨w.heap.size, 1, none⟩ = some (.int .i64 0) := (blk_cell hR 1).trans rfl; have hs9 := stored2 hR (.int .u64 (gt l 0).2.2) (.int .i64 (gt l 0).1); have hs0 : (((w2.alloc (.cells #[.int .i64 (gt l 0).1, .int .i64 (gt l 0).2.1, .int .u64 (gt l 0).2.2] 98)).setCell ⟨w.heap.size, 0, none⟩ (.int .u64 (gt l 0).2.2)).setCell ⟨w.heap.size, 1, none⟩ (.int .i64 (gt l 0).1)).cell? ⟨w.heap.size, 0, none⟩ = some (.int .u64 (gt l 0).2.2) := (blk_cell hs9 0).trans rfl; have hs1 : (((w2.alloc (.cells #[.int .i64 (gt l 0).1, .int .i64 (gt l 0).2.1, .int .u64 (gt l 0).2.2] 98)).setCell ⟨w.heap.size, 0, none⟩ (.int .u64 (gt l 0).2.2)).setCell ⟨w.heap.size, 1, none⟩ (.int .i64 (gt l 0).1)).cell? ⟨w.heap.size, 1, none⟩ = some (.int .i64 (gt l 0).1) := (blk_cell hs9 1).trans rfl; clear hs9; clear h1 h2 h3 h4 h5 nr hR))
  refine bodyPost_ret (by simp [results, Try.results18, go_sem, hs0, hs1]; try rfl) rfl ?_
  have Z1 := V1.out.below (below_alloc (Below.refl w2.heap.size w2) (.cells #[.int .i64 (gt l 0).1, .int .i64 (gt l 0).2.1, .int .u64 (gt l 0).2.2] 98))
  have ZW := blk_alloc VW.out (.cells #[.int .i64 (gt l 0).1, .int .i64 (gt l 0).2.1, .int .u64 (gt l 0).2.2] 98)
  refine ⟨rfl, l1, ⟨Wk.mono (S := fun k => S k ∧ k < w.heap.size) ⟨gH, blk_far (p := ⟨w.heap.size, 1, none⟩) (blk_far (p := ⟨w.heap.size, 0, none⟩) ZW (by have := HLT.out; show gW ≠ w.heap.size; omega) _) (by have := HLT.out; show gW ≠ w.heap.size; omega) _, X8.out, X9.out, ((Z1.far (p := ⟨w.heap.size, 0, none⟩) (fun h => absurd h.1.2 (Nat.lt_irrefl _)) _).far (p := ⟨w.heap.size, 1, none⟩) (fun h => absurd h.1.2 (Nat.lt_irrefl _)) _).mono (fun k h => h.1), V2.out, XD.out⟩ (fun k h => h.1)⟩, V3, ?_, ?_⟩
  · exact ⟨((V4.out.alloc (Nat.le_trans XC.out (kept_size V5.out)) _).setCell (p := ⟨w.heap.size, 0, none⟩) W0.out _).setCell (p := ⟨w.heap.size, 1, none⟩) W0.out _⟩
  · exact ⟨(((VK.out.alloc _).setCell (p := ⟨w.heap.size, 0, none⟩) (.inr (Nat.le_refl _)) _).setCell (p := ⟨w.heap.size, 1, none⟩) (.inr (Nat.le_refl _)) _).mono (fun _ h => h.1)⟩
end Go.Proofs.Ytncbnejldlfbdaa.PHeap
