/- What step of a walk leaves; of fewer than 2^41 entries. -/
import Derived.Test.YtncbnejldlfbdaaGA
namespace Go.Proofs.Ytncbnejldlfbdaa.PHeap
open Go.RowKit Go.Proofs.YtncbnejldlfbdaaW.PrintWords Go.Proofs.YtncbnejldlfbdaaW.PrintLast Go.Proofs.YtncbnejldlfbdaaW.PrintMore
set_option linter.unusedVariables false
set_option linter.unusedSimpArgs false
attribute [local go_sem] max2_int max_two
/-- a graph that lies in w0 -/
structure Good (w0 : World) (gG : Nat) (bs : List (List Ent)) : Prop where
  at_ : ∃ V A c1, w0.heap[gG]? = some (.cells #[V, .slice A bs.length c1] 43 (0, 0)) ∧ Behind w0 A bs
  forw : Forw bs
theorem Good.opens {w0 w : World} {gG : Nat} {bs : List (List Ent)} (h : Good w0 gG bs) (hb : Below w0.heap.size w0 w) (v : Int) :
    Calls Try.prog 41 #[.int .i64 v, .pointer (some ⟨gG, 0, none⟩)] w fun e w' => ∃ B c, e = .returned (.slice B (openL bs v).length c) ∧ Ents w0 B (openL bs v) ∧ (openL bs v).length ≤ c ∧ c ≤ maxLen ∧ w = w' := by
  obtain ⟨V, A, c1, hg, hbh⟩ := h.at_
  exact opener_calls gG V A c1 bs v w0 w (blk_below hg hb) hbh hb
theorem eq_nilf (gG : Nat) (w : World) : (binOp .eql 101 (.func (.func 41) #[] #[.pointer (some ⟨gG, 0, none⟩)]) .nilFunc).run Try.prog w = .ok (.bool false) w := by
  kernel_rfl
set_option maxHeartbeats 8000000 in
set_option maxRecDepth 1000000 in
theorem step_calls (gW gG : Nat) (bs : List (List Ent)) (l : List Ent) (n : Int) (S : Nat → Prop) (e : Ent) (w0 w : World) (hG : Good w0 gG bs) (h : Wk w w0.heap.size gW (.func (.func 41) #[] #[.pointer (some ⟨gG, 0, none⟩)]) l n S) (hB : Below w0.heap.size w0 w) (hn : l.length + (openL bs e.2.1).length < 2199023255552) :
    Calls Try.prog 57 #[.pointer (some ⟨gW, 0, none⟩), .agg #[.int .i64 e.1, .int .i64 e.2.1, .int .u64 e.2.2]] w fun r w' => r = .returned (.tuple #[]) ∧ ∃ l' n', Aside0 (Wk w' w0.heap.size gW (.func (.func 41) #[] #[.pointer (some ⟨gG, 0, none⟩)]) l' n' (fun k => S k ∨ w.heap.size ≤ k)) ∧ Aside0 (l'.Perm (l ++ (openL bs e.2.1).map (raise e.1))) ∧ Aside0 (Below w0.heap.size w0 w') ∧ Aside0 (Kept w w' S) := by
  have hu98 := Try.underlying98
  have hu106 := Try.underlying106
  have hu101 := Try.underlying101
  have heqn := eq_nilf gG
  have hop : ∀ W : World, Below w0.heap.size w0 W → Calls Try.prog 41 #[.int .i64 e.2.1, .pointer (some ⟨gG, 0, none⟩)] W fun e_ w' => ∃ B c, e_ = .returned (.slice B (openL bs e.2.1).length c) ∧ Ents w0 B (openL bs e.2.1) ∧ (openL bs e.2.1).length ≤ c ∧ c ≤ maxLen ∧ W = w' := fun W hb => hG.opens hb e.2.1
  generalize openL bs e.2.1 = es at *
  have HOP := Aside0.mk hop
  clear hop
  obtain ⟨gH, hg, hbg, s, hh, ho, hne⟩ := h.bound
  have HO := Aside0.mk ho
  have HNE := Aside0.mk hne
  have HBG := Aside0.mk hbg
  have HSW := Aside0.mk s
  have HGD := Aside0.mk hG
  have HNN := Aside0.mk hn
  have hbX := below_alloc (Below.refl w.heap.size w) (.cells #[.int .i64 e.1, .int .i64 e.2.1, .int .u64 e.2.2] 98)
  have hg1 := blk_below hg hbX
  have hx := blk_new w (.cells #[.int .i64 e.1, .int .i64 e.2.1, .int .u64 e.2.2] 98)
  have hgr : w.heap.size ≠ gW := by have := s.2; omega
  have hc0 : ((w.alloc (.cells #[.int .i64 e.1, .int .i64 e.2.1, .int .u64 e.2.2] 98)).setCell ⟨gW, 2, none⟩ (.int .i64 (wrap64 (n + 1)))).cell? ⟨gW, 0, none⟩ = some (.func (.func 41) #[] #[.pointer (some ⟨gG, 0, none⟩)]) := (blk_cell (blk_set hg1 2 _) 0).trans rfl
  have hc2 : (w.alloc (.cells #[.int .i64 e.1, .int .i64 e.2.1, .int .u64 e.2.2] 98)).cell? ⟨gW, 2, none⟩ = some (.int .i64 n) := (blk_cell hg1 2).trans rfl
  have hz2 := blk_frozen hg1 2
  have G1 : Aside0 (((w.alloc (.cells #[.int .i64 e.1, .int .i64 e.2.1, .int .u64 e.2.2] 98)).setCell ⟨gW, 2, none⟩ (.int .i64 (wrap64 (n + 1)))).heap[gW]? = some (.cells #[.func (.func 41) #[] #[.pointer (some ⟨gG, 0, none⟩)], .pointer (some ⟨gH, 0, none⟩), .int .i64 (wrap64 (n + 1))] 106 (0, 0))) := ⟨by simpa using blk_set hg1 2 (.int .i64 (wrap64 (n + 1)))⟩
  have X1 := Aside0.mk (blk_far (p := ⟨gW, 2, none⟩) hx hgr (.int .i64 (wrap64 (n + 1))))
  have hx1 : ((w.alloc (.cells #[.int .i64 e.1, .int .i64 e.2.1, .int .u64 e.2.2] 98)).setCell ⟨gW, 2, none⟩ (.int .i64 (wrap64 (n + 1)))).cell? ⟨w.heap.size, 1, none⟩ = some (.int .i64 e.2.1) := (blk_cell X1.out 1).trans rfl
  have H1 : Aside0 (Hp ((w.alloc (.cells #[.int .i64 e.1, .int .i64 e.2.1, .int .u64 e.2.2] 98)).setCell ⟨gW, 2, none⟩ (.int .i64 (wrap64 (n + 1)))) w0.heap.size gH l (fun k => (S k ∧ k < w.heap.size) ∧ k ≠ gW)) := ⟨((hh.off hg).below hbX).far (p := ⟨gW, 2, none⟩) (fun h => h.2 rfl) _⟩
  have B1 := Aside0.mk (((hB.alloc hB.size (.cells #[.int .i64 e.1, .int .i64 e.2.1, .int .u64 e.2.2] 98)).setCell (p := ⟨gW, 2, none⟩) hbg (.int .i64 (wrap64 (n + 1)))))
  have K1 := Aside0.mk (((Kept.refl w (fun k => S k ∧ k < w.heap.size)).alloc (.cells #[.int .i64 e.1, .int .i64 e.2.1, .int .u64 e.2.2] 98)).setCell (p := ⟨gW, 2, none⟩) (.inl s) (.int .i64 (wrap64 (n + 1))))
  have Z1 : Aside0 (w.heap.size + 1 ≤ ((w.alloc (.cells #[.int .i64 e.1, .int .i64 e.2.1, .int .u64 e.2.2] 98)).setCell ⟨gW, 2, none⟩ (.int .i64 (wrap64 (n + 1)))).heap.size) := ⟨by simp [World.setCell]⟩
  clear hg hbg s hh ho hne hg1 hbX hx hgr hB hG hn h
  go_enter Try.func57, Try.ntmps57
  go_wp2
  generalize ((w.alloc (.cells #[.int .i64 e.1, .int .i64 e.2.1, .int .u64 e.2.2] 98)).setCell ⟨gW, 2, none⟩ (.int .i64 (wrap64 (n + 1)))) = W at *
  go_region_held3 (fun w' => w'.cell? ⟨gW, 0, none⟩ = some (.func (.func 41) #[] #[.pointer (some ⟨gG, 0, none⟩)]) ∧ w'.cell? ⟨w.heap.size, 1, none⟩ = some (.int .i64 e.2.1)) (go_keep) ((go_at_call 41; (with_reducible refine (HOP.out _ B1.out.drew).mono ?_); rintro e_ w' ⟨B, c, rfl, h1, h2, h3, rfl⟩; have E1 := Aside0.mk h1; have E2 := Aside0.mk h2; have E3 := Aside0.mk h3; clear h1 h2 h3))
  go_wp2
  have hnb : (es.length : Int) < 2199023255552 := by have := HNN.out; omega
  go_loopw [26] (fun v26 wr => ∃ (j : Nat) (l2 : List Ent), v26 = .int .i64 (j : Int) ∧ Aside0 (j ≤ es.length) ∧ Aside0 (wr.heap[gW]? = some (.cells #[.func (.func 41) #[] #[.pointer (some ⟨gG, 0, none⟩)], .pointer (some ⟨gH, 0, none⟩), .int .i64 (wrap64 (n + 1))] 106 (0, 0))) ∧
    Aside0 (wr.heap[w.heap.size]? = some (.cells #[.int .i64 e.1, .int .i64 e.2.1, .int .u64 e.2.2] 98 (0, 0))) ∧ Aside0 (Hp wr w0.heap.size gH l2 (fun k => ((S k ∧ k < w.heap.size) ∧ k ≠ gW) ∨ w.heap.size + 1 ≤ k)) ∧ Aside0 (Heaped l2) ∧ Aside0 (l2.Perm (l ++ (es.take j).map (raise e.1))) ∧ Aside0 (Below w0.heap.size w0 wr) ∧ Aside0 (Kept w wr (fun k => S k ∧ k < w.heap.size)) ∧ Aside0 (w.heap.size + 1 ≤ wr.heap.size)  ) (fun v _ => es.length - (intOf v).toNat)
  case atStart => exact ⟨0, l, rfl, ⟨Nat.zero_le _⟩, ⟨G1.out⟩, ⟨X1.out⟩, ⟨(H1.out.drew).mono (fun k h => Or.inl h)⟩, HO, ⟨by simp⟩, ⟨B1.out.drew⟩, ⟨K1.out.drew⟩, Z1⟩
  case round =>
    clear H1 X1 B1 K1 Z1 G1 hc0 hx1
    obtain ⟨j, l2, rfl, HJ, HG1, HX1, HH, HO1, HP, HB, HK, HZ⟩ := hrel
    by_cases hlt : j < es.length
    · obtain ⟨ad, rfl, x0, x1, x2⟩ := (E1.out.below HB.out) j hlt
      rw [add_field _ _ 1 (by omega)] at x1
      rw [add_field _ _ 2 (by omega)] at x2
      have hjb : (j : Int) < 2199023255552 := by omega
      have c1 : decide (j < es.length) = true := decide_eq_true hlt
      have hbA := below_alloc (Below.refl wr.heap.size wr) (.cells #[.int .i64 (gt es j).1, .int .i64 (gt es j).2.1, .int .u64 (gt es j).2.2] 98)
      have QB := Aside0.mk (blk_new wr (.cells #[.int .i64 (gt es j).1, .int .i64 (gt es j).2.1, .int .u64 (gt es j).2.2] 98))
      have XB := Aside0.mk (blk_alloc HX1.out (.cells #[.int .i64 (gt es j).1, .int .i64 (gt es j).2.1, .int .u64 (gt es j).2.2] 98))
      have GB := Aside0.mk (blk_alloc HG1.out (.cells #[.int .i64 (gt es j).1, .int .i64 (gt es j).2.1, .int .u64 (gt es j).2.2] 98))
      have HB5 := Aside0.mk (HH.out.bound.below hbA)
      have BB := Aside0.mk (HB.out.alloc HB.out.size (.cells #[.int .i64 (gt es j).1, .int .i64 (gt es j).2.1, .int .u64 (gt es j).2.2] 98))
      have KB := Aside0.mk (HK.out.alloc (.cells #[.int .i64 (gt es j).1, .int .i64 (gt es j).2.1, .int .u64 (gt es j).2.2] 98))
      have ZB : Aside0 (w.heap.size + 1 ≤ (wr.alloc (.cells #[.int .i64 (gt es j).1, .int .i64 (gt es j).2.1, .int .u64 (gt es j).2.2] 98)).heap.size) := ⟨by have := HZ.out; simp; omega⟩
      have ZC : Aside0 (wr.heap.size ≤ (wr.alloc (.cells #[.int .i64 (gt es j).1, .int .i64 (gt es j).2.1, .int .u64 (gt es j).2.2] 98)).heap.size) := ⟨by simp⟩
      have hnn : ¬ w.heap.size = wr.heap.size := by have := HZ.out; omega
      have hnn2 : ¬ wr.heap.size = w.heap.size := fun h => hnn h.symm
      have NW : Aside0 (gW ≠ wr.heap.size) := ⟨by have := blk_lt HG1.out; omega⟩
      have NX : Aside0 (w.heap.size ≠ wr.heap.size) := ⟨hnn⟩
      clear hbA
      go_upto_region 6 with (fail)
      generalize (wr.alloc (.cells #[.int .i64 (gt es j).1, .int .i64 (gt es j).2.1, .int .u64 (gt es j).2.2] 98)) = W5 at *
      obtain ⟨q, hq⟩ : ∃ q, wr.heap.size = q := ⟨_, rfl⟩
      have hq0 : W5.cell? ⟨q, 0, none⟩ = some (.int .i64 (gt es j).1) := by rw [← hq]; exact (blk_cell QB.out 0).trans rfl
      have hz0 : W5.frozen? ⟨q, 0, none⟩ = false := by rw [← hq]; exact blk_frozen QB.out 0
      have hb0 : W5.cell? ⟨w.heap.size, 0, none⟩ = some (.int .i64 e.1) := (blk_cell XB.out 0).trans rfl
      rw [hq]
      rw [hq] at hnn hnn2
      have HQ := Aside0.mk hq
      clear hq
      by_cases hmx : (gt es j).1 < e.1
      · have HR : Aside0 ((raise e.1 (gt es j)).1 = e.1) := ⟨by unfold raise; first | rw [if_pos hmx] | rw [if_neg hmx]⟩
        go_upto_region 7 with (fail)
        have QC : Aside0 ((W5.setCell ⟨q, 0, none⟩ (.int .i64 e.1)).heap[q]? = some (.cells #[.int .i64 e.1, .int .i64 (gt es j).2.1, .int .u64 (gt es j).2.2] 98 (0, 0))) := ⟨by have := QB.out; rw [HQ.out] at this; simpa using blk_set this 0 (.int .i64 e.1)⟩
        have GC := Aside0.mk (blk_far (p := ⟨q, 0, none⟩) GB.out (by rw [← HQ.out]; exact NW.out) (.int .i64 e.1))
        have XC := Aside0.mk (blk_far (p := ⟨q, 0, none⟩) XB.out (by rw [← HQ.out]; exact NX.out) (.int .i64 e.1))
        have HC := Aside0.mk (HB5.out.far (p := ⟨q, 0, none⟩) (fun h => by have h2 := h.2; rw [HQ.out] at h2; exact Nat.lt_irrefl _ h2) (.int .i64 e.1))
        have BC := Aside0.mk (BB.out.setCell (p := ⟨q, 0, none⟩) (by show w0.heap.size ≤ q; rw [← HQ.out]; exact HB.out.size) (.int .i64 e.1))
        have KC := Aside0.mk (KB.out.setCell (p := ⟨q, 0, none⟩) (.inr (by show w.heap.size ≤ q; rw [← HQ.out]; have := HZ.out; omega)) (.int .i64 e.1))
        have ZD : Aside0 (w.heap.size + 1 ≤ (W5.setCell ⟨q, 0, none⟩ (.int .i64 e.1)).heap.size) := ⟨by have := ZB.out; simpa [World.setCell] using this⟩
        clear hq0 hz0 hb0
        generalize (W5.setCell ⟨q, 0, none⟩ (.int .i64 e.1)) = W6 at *
        have hq0 : W6.cell? ⟨q, 0, none⟩ = some (.int .i64 e.1) := (blk_cell QC.out 0).trans rfl
        have hq1 : W6.cell? ⟨q, 1, none⟩ = some (.int .i64 (gt es j).2.1) := (blk_cell QC.out 1).trans rfl
        have hq2 : W6.cell? ⟨q, 2, none⟩ = some (.int .u64 (gt es j).2.2) := (blk_cell QC.out 2).trans rfl
        have hgc : W6.cell? ⟨gW, 1, none⟩ = some (.pointer (some ⟨gH, 0, none⟩)) := (blk_cell GC.out 1).trans rfl
        have HLN : Aside0 (l2.length < 4398046511104) := ⟨by have h1 := HP.out.length_eq; rw [List.length_append, List.length_map, List.length_take] at h1; have := HNN.out; omega⟩
        have BS : Aside0 (w0.heap.size ≤ W6.drew.heap.size) := ⟨BC.out.size⟩
        have HT := Aside0.mk (take_snoc hlt)
        go_still_tail 5, (by kernel_rfl)
        go_wp2_with ((go_at_call 55; (with_reducible refine (push_calls gH w0.heap.size l2 _ (e.1, (gt es j).2) w0 _ HC.out.drew BC.out.drew BS.out HO1.out HLN.out).mono ?_); rintro e_ w2 ⟨rfl, l3, h1, h2, h3, h4, h5⟩))
        have ng : ¬ ((((S gW ∧ gW < w.heap.size) ∧ gW ≠ gW) ∨ w.heap.size + 1 ≤ gW) ∧ gW < wr.heap.size) := fun h => h.1.elim (fun h => h.2 rfl) (fun h => by have := HSW.out.2; omega)
        have nx : ¬ ((((S w.heap.size ∧ w.heap.size < w.heap.size) ∧ w.heap.size ≠ gW) ∨ w.heap.size + 1 ≤ w.heap.size) ∧ w.heap.size < wr.heap.size) := fun h => h.1.elim (fun h => Nat.lt_irrefl _ h.1.2) (fun h => by omega)
        go_roundw
        case rel => exact ⟨j + 1, l3, by go_num, ⟨by omega⟩, ⟨blk_kept GC.out h5.out ng⟩, ⟨blk_kept XC.out h5.out nx⟩, ⟨h1.out.mono (fun k hk => hk.elim (fun h => h.1) (fun h => .inr (Nat.le_trans ZD.out h)))⟩, h2, ⟨by
            rw [HT.out, List.map_append, List.map_singleton, ← List.append_assoc]
            have h6 : raise e.1 (gt es j) = (e.1, (gt es j).2) := Prod.ext HR.out rfl
            rw [h6]
            exact h3.out.trans ((HP.out.cons _).trans (List.perm_append_comm (l₁ := [(e.1, (gt es j).2)])))⟩, h4, ⟨KC.out.then_ h5.out (fun k hk => hk.1.elim (fun h => .inl h.1) (fun h => .inr (by omega)))⟩, ⟨Nat.le_trans ZD.out (kept_size h5.out)⟩⟩
        case measure => simp [intOf]; omega
      · have HR : Aside0 ((raise e.1 (gt es j)).1 = (gt es j).1) := ⟨by unfold raise; first | rw [if_pos hmx] | rw [if_neg hmx]⟩
        go_upto_region 7 with (fail)
        have QC : Aside0 ((W5.setCell ⟨q, 0, none⟩ (.int .i64 (gt es j).1)).heap[q]? = some (.cells #[.int .i64 (gt es j).1, .int .i64 (gt es j).2.1, .int .u64 (gt es j).2.2] 98 (0, 0))) := ⟨by have := QB.out; rw [HQ.out] at this; simpa using blk_set this 0 (.int .i64 (gt es j).1)⟩
        have GC := Aside0.mk (blk_far (p := ⟨q, 0, none⟩) GB.out (by rw [← HQ.out]; exact NW.out) (.int .i64 (gt es j).1))
        have XC := Aside0.mk (blk_far (p := ⟨q, 0, none⟩) XB.out (by rw [← HQ.out]; exact NX.out) (.int .i64 (gt es j).1))
        have HC := Aside0.mk (HB5.out.far (p := ⟨q, 0, none⟩) (fun h => by have h2 := h.2; rw [HQ.out] at h2; exact Nat.lt_irrefl _ h2) (.int .i64 (gt es j).1))
        have BC := Aside0.mk (BB.out.setCell (p := ⟨q, 0, none⟩) (by show w0.heap.size ≤ q; rw [← HQ.out]; exact HB.out.size) (.int .i64 (gt es j).1))
        have KC := Aside0.mk (KB.out.setCell (p := ⟨q, 0, none⟩) (.inr (by show w.heap.size ≤ q; rw [← HQ.out]; have := HZ.out; omega)) (.int .i64 (gt es j).1))
        have ZD : Aside0 (w.heap.size + 1 ≤ (W5.setCell ⟨q, 0, none⟩ (.int .i64 (gt es j).1)).heap.size) := ⟨by have := ZB.out; simpa [World.setCell] using this⟩
        clear hq0 hz0 hb0
        generalize (W5.setCell ⟨q, 0, none⟩ (.int .i64 (gt es j).1)) = W6 at *
        have hq0 : W6.cell? ⟨q, 0, none⟩ = some (.int .i64 (gt es j).1) := (blk_cell QC.out 0).trans rfl
        have hq1 : W6.cell? ⟨q, 1, none⟩ = some (.int .i64 (gt es j).2.1) := (blk_cell QC.out 1).trans rfl
        have hq2 : W6.cell? ⟨q, 2, none⟩ = some (.int .u64 (gt es j).2.2) := (blk_cell QC.out 2).trans rfl
        have hgc : W6.cell? ⟨gW, 1, none⟩ = some (.pointer (some ⟨gH, 0, none⟩)) := (blk_cell GC.out 1).trans rfl
        have HLN : Aside0 (l2.length < 4398046511104) := ⟨by have h1 := HP.out.length_eq; rw [List.length_append, List.length_map, List.length_take] at h1; have := HNN.out; omega⟩
        have BS : Aside0 (w0.heap.size ≤ W6.drew.heap.size) := ⟨BC.out.size⟩
        have HT := Aside0.mk (take_snoc hlt)
        go_still_tail 5, (by kernel_rfl)
        go_wp2_with ((go_at_call 55; (with_reducible refine (push_calls gH w0.heap.size l2 _ ((gt es j).1, (gt es j).2) w0 _ HC.out.drew BC.out.drew BS.out HO1.out HLN.out).mono ?_); rintro e_ w2 ⟨rfl, l3, h1, h2, h3, h4, h5⟩))
        have ng : ¬ ((((S gW ∧ gW < w.heap.size) ∧ gW ≠ gW) ∨ w.heap.size + 1 ≤ gW) ∧ gW < wr.heap.size) := fun h => h.1.elim (fun h => h.2 rfl) (fun h => by have := HSW.out.2; omega)
        have nx : ¬ ((((S w.heap.size ∧ w.heap.size < w.heap.size) ∧ w.heap.size ≠ gW) ∨ w.heap.size + 1 ≤ w.heap.size) ∧ w.heap.size < wr.heap.size) := fun h => h.1.elim (fun h => Nat.lt_irrefl _ h.1.2) (fun h => by omega)
        go_roundw
        case rel => exact ⟨j + 1, l3, by go_num, ⟨by omega⟩, ⟨blk_kept GC.out h5.out ng⟩, ⟨blk_kept XC.out h5.out nx⟩, ⟨h1.out.mono (fun k hk => hk.elim (fun h => h.1) (fun h => .inr (Nat.le_trans ZD.out h)))⟩, h2, ⟨by
            rw [HT.out, List.map_append, List.map_singleton, ← List.append_assoc]
            have h6 : raise e.1 (gt es j) = ((gt es j).1, (gt es j).2) := Prod.ext HR.out rfl
            rw [h6]
            exact h3.out.trans ((HP.out.cons _).trans (List.perm_append_comm (l₁ := [((gt es j).1, (gt es j).2)])))⟩, h4, ⟨KC.out.then_ h5.out (fun k hk => hk.1.elim (fun h => .inl h.1) (fun h => .inr (by omega)))⟩, ⟨Nat.le_trans ZD.out (kept_size h5.out)⟩⟩
        case measure => simp [intOf]; omega
    · have hl := HJ.out
      obtain rfl : j = es.length := by omega
      have HP2 : Aside0 (l2.Perm (l ++ es.map (raise e.1))) := ⟨by have := HP.out; rwa [List.take_length] at this⟩
      go_wp2
      go_returns
      exact ⟨rfl, l2, _, ⟨⟨gH, HG1.out, HBG.out, .inl HSW.out.1, HH.out.mono (fun k h => h.elim (fun h => .inl h.1.1) (fun h => .inr (by omega))), HO1.out, HNE.out⟩⟩, HP2, HB, ⟨HK.out.mono (fun k h => h.1)⟩⟩
end Go.Proofs.Ytncbnejldlfbdaa.PHeap
