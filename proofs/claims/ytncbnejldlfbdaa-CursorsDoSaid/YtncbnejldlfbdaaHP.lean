/- What Push of a heap leaves, of fewer than 2^42 entries. -/
import Derived.Test.YtncbnejldlfbdaaHU
namespace Go.Proofs.Ytncbnejldlfbdaa.PHeap
open Go.RowKit Go.Proofs.YtncbnejldlfbdaaW.PrintWords Go.Proofs.YtncbnejldlfbdaaW.PrintLast Go.Proofs.YtncbnejldlfbdaaW.PrintMore
set_option linter.unusedVariables false
set_option linter.unusedSimpArgs false
theorem info98 : (Try.prog.info? 98).map (fun i => (i.zero, i.size, i.bytes)) = some (some (.agg #[.int .i64 0, .int .i64 0, .int .u64 0]), 3, 24) := by kernel_rfl
theorem cells3_snoc (l : List Ent) (x : Ent) : cells3 (l ++ [x]) = cells3 l ++ [.int .i64 x.1, .int .i64 x.2.1, .int .u64 x.2.2] := by rw [cells3_append]; rfl
set_option maxHeartbeats 8000000 in
set_option maxRecDepth 1000000 in
theorem push_calls (g base : Nat) (l : List Ent) (S : Nat → Prop) (x : Ent) (w0 w : World) (h : Hp w base g l S) (hB : Below base w0 w) (hbw : base ≤ w.heap.size) (hh : Heaped l) (hlen : l.length < 4398046511104) :
    Calls Try.prog 55 #[.pointer (some ⟨g, 0, none⟩), .agg #[.int .i64 x.1, .int .i64 x.2.1, .int .u64 x.2.2]] w fun e w' => e = .returned (.tuple #[]) ∧ ∃ l', Aside0 (Hp w' base g l' (fun k => S k ∨ w.heap.size ≤ k)) ∧ Aside0 (Heaped l') ∧ Aside0 (l'.Perm (x :: l)) ∧ Aside0 (Below base w0 w') ∧ Aside0 (Kept w w' S) := by
  have hu98 := Try.underlying98
  have hu119 := Try.underlying119
  obtain ⟨vL, hg, hbase, hL, s1, s2⟩ := h
  obtain ⟨A, c, rfl, hnc⟩ := hL.form
  have G1 := blk_alloc hg (.cells #[.int .i64 x.1, .int .i64 x.2.1, .int .u64 x.2.2] 98)
  have hc1 : (w.alloc (.cells #[.int .i64 x.1, .int .i64 x.2.1, .int .u64 x.2.2] 98)).cell? ⟨g, 1, none⟩ = some (.slice A l.length c) := (blk_cell G1 1).trans rfl
  have N1 := blk_new w (.cells #[.int .i64 x.1, .int .i64 x.2.1, .int .u64 x.2.2] 98)
  have hx0 : (w.alloc (.cells #[.int .i64 x.1, .int .i64 x.2.1, .int .u64 x.2.2] 98)).cell? ⟨w.heap.size, 0, none⟩ = some (.int .i64 x.1) := (blk_cell N1 0).trans rfl
  have hx1 : (w.alloc (.cells #[.int .i64 x.1, .int .i64 x.2.1, .int .u64 x.2.2] 98)).cell? ⟨w.heap.size, 1, none⟩ = some (.int .i64 x.2.1) := (blk_cell N1 1).trans rfl
  have hx2 : (w.alloc (.cells #[.int .i64 x.1, .int .i64 x.2.1, .int .u64 x.2.2] 98)).cell? ⟨w.heap.size, 2, none⟩ = some (.int .u64 x.2.2) := (blk_cell N1 2).trans rfl
  have L2 : Aside0 (Row (w.alloc (.cells #[.int .i64 x.1, .int .i64 x.2.1, .int .u64 x.2.2] 98)).drew base 98 3 (.slice A l.length c) l.length (cells3 l)) := ⟨hL.below (below_drew1 (below_alloc (Below.refl _ _) _))⟩
  have B2 : Aside0 (Below base w0 (w.alloc (.cells #[.int .i64 x.1, .int .i64 x.2.1, .int .u64 x.2.2] 98)).drew) := ⟨(hB.alloc hbw _).drew⟩
  have S2 : Aside0 (base ≤ (w.alloc (.cells #[.int .i64 x.1, .int .i64 x.2.1, .int .u64 x.2.2] 98)).drew.heap.size) := ⟨by simp; omega⟩
  have G2 : Aside0 (((w.alloc (.cells #[.int .i64 x.1, .int .i64 x.2.1, .int .u64 x.2.2] 98)).drew).heap[g]? = some (.cells #[.func (.func 54) #[] #[], .slice A l.length c] 119 (0, 0))) := ⟨G1⟩
  have K2 : Aside0 (Kept w (w.alloc (.cells #[.int .i64 x.1, .int .i64 x.2.1, .int .u64 x.2.2] 98)).drew S) := ⟨((Kept.refl w S).alloc _).drew⟩
  have Z2 : Aside0 ((w.alloc (.cells #[.int .i64 x.1, .int .i64 x.2.1, .int .u64 x.2.2] 98)).drew.heap.size = w.heap.size + 1) := ⟨by simp⟩
  have M0 := Aside0.mk hlen
  have T1 := Aside0.mk s1
  have T2 := Aside0.mk s2
  have HBS := Aside0.mk hbase
  have HH := Aside0.mk hh
  have HW := Aside0.mk hbw
  clear hg hL hB hbw hh hlen s1 s2 hbase G1 N1 hnc
  go_enter Try.func55, Try.ntmps55
  go_wp2
  refine start_ (n := 11) (S := fun w' => w'.cell? ⟨g, 1, none⟩ = some (.slice A l.length c) ∧ w'.cell? ⟨w.heap.size, 0, none⟩ = some (.int .i64 x.1) ∧ w'.cell? ⟨w.heap.size, 1, none⟩ = some (.int .i64 x.2.1) ∧ w'.cell? ⟨w.heap.size, 2, none⟩ = some (.int .u64 x.2.2)) (ds := [7, 10]) #[false, false, false, false, false, false, false, false, false, false, false] (by kernel_rfl) rfl rfl ⟨hc1, hx0, hx1, hx2⟩ (fun hHeld => ?_)
  refine pure_ (i := 0) (N := some 6) (v := ?_) (a' := ?_) #[true, false, false, false, false, false, false, false, false, false, false] rfl rfl (by kernel_rfl) (fun _ _ _ h => h) (Or.inl ⟨by rfl, ?_⟩) ?_ ?_
  rotate_left
  · intro w'
    go_simp
    with_reducible rfl
  rotate_left
  · simp only [Act.put, List.setIfInBounds_toArray, List.set_cons_zero, List.set_cons_succ, i64_w, i32_w]
    rfl
  refine pure_ (i := 1) (N := some 7) (v := ?_) (a' := ?_) #[true, true, false, false, false, false, false, false, false, false, false] rfl rfl (by kernel_rfl) (fun _ _ _ h => h) (Or.inl ⟨by rfl, ?_⟩) ?_ ?_
  rotate_left
  · intro w'
    go_simp
    with_reducible rfl
  rotate_left
  · simp only [Act.put, List.setIfInBounds_toArray, List.set_cons_zero, List.set_cons_succ, i64_w, i32_w]
    rfl
  refine pure_ (i := 2) (N := some 8) (v := ?_) (a' := ?_) #[true, true, true, false, false, false, false, false, false, false, false] rfl rfl (by kernel_rfl) (fun _ _ _ h => h) (Or.inl ⟨by rfl, ?_⟩) ?_ ?_
  rotate_left
  · intro w'
    go_simp
    with_reducible rfl
  rotate_left
  · simp only [Act.put, List.setIfInBounds_toArray, List.set_cons_zero, List.set_cons_succ, i64_w, i32_w]
    rfl
  refine pure_ (i := 3) (N := some 9) (v := ?_) (a' := ?_) #[true, true, true, true, false, false, false, false, false, false, false] rfl rfl (by kernel_rfl) (fun _ _ _ h => h) (Or.inl ⟨by rfl, ?_⟩) ?_ ?_
  rotate_left
  · intro w'
    go_simp
    with_reducible rfl
  rotate_left
  · simp only [Act.put, List.setIfInBounds_toArray, List.set_cons_zero, List.set_cons_succ, i64_w, i32_w]
    rfl
  refine take_ (i := 4) (N := some 10) (v := ?_) (a' := ?_) #[true, true, true, true, true, false, false, false, false, false, false] rfl rfl (by kernel_rfl) (fun _ _ _ h => h) (Or.inl ⟨by rfl, ?_⟩) hHeld ?_ ?_
  rotate_left
  · rintro w' ⟨s0, s1, s2, s3⟩
    go_simp
    with_reducible rfl
  rotate_left
  · simp only [Act.put, List.setIfInBounds_toArray, List.set_cons_zero, List.set_cons_succ, i64_w, i32_w]
    rfl
  refine take_ (i := 5) (N := some 11) (v := ?_) (a' := ?_) #[true, true, true, true, true, true, false, false, false, false, false] rfl rfl (by kernel_rfl) (fun _ _ _ h => h) (Or.inl ⟨by rfl, ?_⟩) hHeld ?_ ?_
  rotate_left
  · rintro w' ⟨s0, s1, s2, s3⟩
    go_simp
    with_reducible rfl
  rotate_left
  · simp only [Act.put, List.setIfInBounds_toArray, List.set_cons_zero, List.set_cons_succ, i64_w, i32_w]
    rfl
  refine one_ (i := 6) (N := some 12) #[true, true, true, true, true, true, true, false, false, false, false] rfl rfl (by kernel_rfl) (by decide) (fun K hK => ?_)
  refine value_ (w1 := ?_) (v := ?_) (by rfl) rfl ?_ ?_
  rotate_left 2
  · go_simp
    constructor
    · rfl
    · rfl
  refine hK.out _ _ ⟨(pw_cell_below (below_alloc (Below.refl _ _) _) hc1), (pw_cell_below (below_alloc (Below.refl _ _) _) hx0), (pw_cell_below (below_alloc (Below.refl _ _) _) hx1), (pw_cell_below (below_alloc (Below.refl _ _) _) hx2)⟩ (fun hHeld => ?_)
  clear hK K
  refine norm_ (a' := ?_) ?_ ?_
  rotate_left
  · show Act.put _ (some 12) _ = _
    simp only [Act.put, List.setIfInBounds_toArray, List.set_cons_zero, List.set_cons_succ, i64_w, i32_w]
    rfl
  refine last_ (i := 7) (N := some 13) #[true, true, true, true, true, true, true, true, false, false, false] rfl rfl (by kernel_rfl) (by decide) (fun K hK => ?_)
  refine step_append_cells (w0 := w0) (W := (w.alloc (.cells #[.int .i64 x.1, .int .i64 x.2.1, .int .u64 x.2.2] 98)).drew) base (by rfl) (.tmp 10) (.tmp 12) 40 98 (.agg #[.int .i64 0, .int .i64 0, .int .u64 0]) 3 24 rfl Try.underlying40 info98 rfl (by decide) (by decide) (.slice A l.length c) l.length (cells3 l) [.int .i64 x.1, .int .i64 x.2.1, .int .u64 x.2.2] rfl (by rw [Z2.out]; rfl) rfl (by simp [Value.oneCell']) L2.out B2.out S2.out (by have := M0.out; omega) ?_
  intro v1 w1 hr hb1 hgr hat
  obtain ⟨A1, c1, rfl, hnc1⟩ := Row.form (Row.of_own hr)
  have hG := blk_grown G2.out hgr (fun e_ => L2.out.ne G2.out (by decide) _ e_.symm rfl)
  have hcg := blk_cell hG 1
  have hfz := blk_frozen hG 1
  have R3 := Aside0.mk (Row.of_own hr)
  have B3 := Aside0.mk hb1
  have G3 := Aside0.mk hG
  have K3 := Aside0.mk (Kept.of_grown hgr K2.out (fun k hk => .inl (T2.out k hk)))
  have T4 : Aside0 (∀ k, (Value.slice A1 (l.length + 1) c1).ownBlock = some k → S k ∨ w.heap.size ≤ k) := ⟨fun k hk => hat.elim (fun e_ => .inl (T2.out k (e_.symm.trans hk))) (fun ⟨b, e_, hb_⟩ => .inr (by have h5 := Option.some.inj (e_.symm.trans hk); have h6 := Z2.out; omega))⟩
  clear hr hb1 hgr hat hG
  refine hK.out _ _ ?_
  clear hK K
  refine norm_ (a' := ?_) ?_ ?_
  rotate_left
  · show Act.put _ (some 13) _ = _
    simp only [Act.put, List.setIfInBounds_toArray, List.set_cons_zero, List.set_cons_succ, i64_w, i32_w]
    rfl
  refine pure_ (i := 8) (N := some 14) (v := ?_) (a' := ?_) #[true, true, true, true, true, true, true, true, true, false, false] rfl rfl (by kernel_rfl) (fun _ _ _ h => h) (Or.inl ⟨by rfl, ?_⟩) ?_ ?_
  rotate_left
  · intro w'
    go_simp
    with_reducible rfl
  rotate_left
  · simp only [Act.put, List.setIfInBounds_toArray, List.set_cons_zero, List.set_cons_succ, i64_w, i32_w]
    rfl
  refine pure_ (i := 9) (N := some 15) (v := ?_) (a' := ?_) #[true, true, true, true, true, true, true, true, true, true, false] rfl rfl (by kernel_rfl) (fun _ _ _ h => h) (Or.inl ⟨by rfl, ?_⟩) ?_ ?_
  rotate_left
  · intro w'
    go_simp
    with_reducible rfl
  rotate_left
  · simp only [Act.put, List.setIfInBounds_toArray, List.set_cons_zero, List.set_cons_succ, i64_w, i32_w]
    rfl
  refine last_ (i := 10) (N := none) #[true, true, true, true, true, true, true, true, true, true, true] rfl rfl (by kernel_rfl) (by decide) (fun K hK => ?_)
  refine skip_ (w1 := ?_) (by rfl) rfl ?_ ?_
  rotate_left
  · go_simp
    rfl
  refine hK.out _ _ ?_
  clear hK K
  refine done_ (by kernel_rfl) ?_
  have H4 : Aside0 (Hp (w1.setCell ⟨g, 1, none⟩ (.slice A1 (l.length + 1) c1)) base g (l ++ [x]) (fun k => S k ∨ w.heap.size ≤ k)) := ⟨by
    refine ⟨.slice A1 (l.length + 1) c1, by simpa using blk_set G3.out 1 (.slice A1 (l.length + 1) c1), HBS.out, ?_, .inl T1.out, T4.out⟩
    rw [List.length_append, cells3_snoc]
    exact R3.out.far (fun k hk => R3.out.ne G3.out (by decide) k hk) _⟩
  have hc5 : (w1.setCell ⟨g, 1, none⟩ (.slice A1 (l.length + 1) c1)).cell? ⟨g, 1, none⟩ = some (.slice A1 (l.length + 1) c1) := (blk_cell (blk_set G3.out 1 _) 1).trans rfl
  have B4 := Aside0.mk (B3.out.setCell (p := ⟨g, 1, none⟩) HBS.out (.slice A1 (l.length + 1) c1))
  have K4 := Aside0.mk (K3.out.setCell (p := ⟨g, 1, none⟩) (.inl T1.out) (.slice A1 (l.length + 1) c1))
  have hz4 : Aside0 (base ≤ (w1.setCell ⟨g, 1, none⟩ (.slice A1 (l.length + 1) c1)).heap.size) := ⟨Nat.le_trans HW.out (kept_size K4.out)⟩
  have U4 : Aside0 (UpBut (l ++ [x]) l.length) := ⟨UpBut.last HH.out x⟩
  have M1 : Aside0 ((l ++ [x]).length < 35184372088832) := ⟨by simp; have := M0.out; omega⟩
  have M2 : Aside0 (l.length < (l ++ [x]).length) := ⟨by simp⟩
  have P1 : Aside0 ((l ++ [x]).Perm (x :: l)) := ⟨List.perm_append_comm (l₁ := l) (l₂ := [x])⟩
  have hb62 : (l.length : Int) ≤ 4398046511104 := by have := M0.out; omega
  have hb63 : (0 : Int) ≤ (l.length : Int) := by omega
  clear B3 K3 hcg hfz G3 R3
  generalize (w1.setCell ⟨g, 1, none⟩ (.slice A1 (l.length + 1) c1)) = W at *
  go_wp2_with ((go_at_call 66; (with_reducible refine (up_calls g base (l ++ [x]) _ l.length w0 W H4.out B4.out hz4.out M2.out U4.out M1.out).mono ?_); rintro e w2 ⟨rfl, l', h1, h2, h3, h4, h5⟩; have H6 := h1; have H7 := h2; have H8 := h3; have H9 := h4; have H10 := h5; clear h1 h2 h3 h4 h5))
  go_returns
  exact ⟨rfl, l', H6, H7, ⟨H8.out.trans P1.out⟩, H9, ⟨K4.out.then_ H10.out (fun k hk => hk)⟩⟩
end Go.Proofs.Ytncbnejldlfbdaa.PHeap
