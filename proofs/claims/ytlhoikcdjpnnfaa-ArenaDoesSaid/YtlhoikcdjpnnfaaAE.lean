/- What Put of an arena answers and leaves, where slots are fewer than 2^43. -/
import Derived.Test.YtlhoikcdjpnnfaaAD
namespace Go.Proofs.Ytlhoikcdjpnnfaa.PArena
open Go.RowKit Go.Proofs.YtlhoikcdjpnnfaaW.PrintWords Go.Proofs.YtlhoikcdjpnnfaaW.PrintLast Go.Proofs.YtlhoikcdjpnnfaaW.PrintMore
set_option linter.unusedVariables false
set_option linter.unusedSimpArgs false
theorem info61' : (Try.prog.info? 61).map (fun i => (i.zero, i.size, i.bytes)) = some (some (.agg #[.bool false, .int .i64 0]), 2, 16) := by kernel_rfl
set_option maxHeartbeats 4000000 in
/-- nothing is free: a new slot -/
theorem put_new (g base : Nat) (sl : List Slot) (x : Int) (w0 w : World) (h : Ar w base g sl []) (hB : Below base w0 w) (hbw : base ≤ w.heap.size) (hs : sl.length < 8796093022208) :
    Calls Try.prog 16 #[.pointer (some ⟨g, 0, none⟩), .int .i64 x] w fun e w' => e = .returned (.int .i64 (sl.length : Int)) ∧ Ar w' base g (sl ++ [(true, x)]) [] ∧ Below base w0 w' := by
  obtain ⟨vL, vF, hg, hbase, hL, hF⟩ := h
  have hc0 : w.cell? ⟨g, 0, none⟩ = some vL := blk_cell hg 0
  have hc1 : w.cell? ⟨g, 1, none⟩ = some vF := blk_cell hg 1
  obtain ⟨A, c, rfl, hnc⟩ := hL.form
  obtain ⟨A1, c1, rfl, hnc1⟩ := hF.form
  have G2 := Aside0.mk (blk_alloc hg (.cells #[.bool true, .int .i64 x] 61))
  have L2 := Aside0.mk (hL.below (below_alloc (Below.refl _ _) (.cells #[.bool true, .int .i64 x] 61)))
  have F2 := Aside0.mk (hF.below (below_alloc (Below.refl _ _) (.cells #[.bool true, .int .i64 x] 61)))
  have B2 := Aside0.mk (hB.alloc hbw (.cells #[.bool true, .int .i64 x] 61))
  have N2 : Aside0 (∀ j u, [Value.bool true, .int .i64 x][j]? = some u → (w.alloc (.cells #[.bool true, .int .i64 x] 61)).cell? ((⟨w.heap.size, 0, none⟩ : Addr).add j) = some u) := ⟨fun j u hj => by
    rw [add_plain]
    refine (blk_cell (blk_new _ _) j).trans ?_
    rw [← hj]; simp⟩
  have S2 : Aside0 (base ≤ (w.alloc (.cells #[.bool true, .int .i64 x] 61)).heap.size) := ⟨by simp; omega⟩
  have HM := Aside0.mk hs
  have HG := Aside0.mk hbase
  have hb62 : ((sl.length : Int) + 1) ≤ 8796093022208 := by omega
  clear hg hL hF hB hbw hs hbase hnc1
  go_enter Try.func16, Try.ntmps16
  go_wp2_with ((with_reducible refine gate_builtin (b := .append) (xs := #[.tmp 21, .tmp 24]) rfl ?_); refine Row.append base rfl (.tmp 21) (.tmp 24) 57 61 (.agg #[.bool false, .int .i64 0]) 2 16 rfl Try.underlying57 info61' rfl (by decide) (.slice A sl.length c) sl.length (cells2 sl) ⟨w.heap.size, 0, none⟩ 1 [.bool true, .int .i64 x] rfl rfl rfl N2.out (by simp [Value.oneCell']) L2.out B2.out S2.out (by have := HM.out; simp only [maxLen]; omega) (by have := HM.out; omega) ?_; intro v' w' hr hb1 hgr hat; obtain ⟨A', c', rfl, hnc'⟩ := hr.form; clear hnc'; have hG := blk_grown G2.out hgr (fun e_ => L2.out.ne G2.out (by decide) _ e_.symm rfl); have hF' := F2.out.grown hgr (fun k hk e_ => (F2.out.ne (L2.out.typed k e_.symm).2.choose_spec (by decide) k hk) rfl); have hcg := blk_cell hG 0; have hfz := blk_frozen hG 0; have R3 := Aside0.mk hr; have B3 := Aside0.mk hb1; have G3 := Aside0.mk hG; have F3 := Aside0.mk hF'; clear hr hb1 hgr hat hG hF')
  go_ret
  refine ⟨?_, Ar.setL G3.out HG.out ?_ F3.out, B3.out.setCell HG.out _⟩
  · first | rfl | (congr 2; omega) | (simp; done)
  · rw [List.length_append, cells2_append]; exact R3.out
set_option maxHeartbeats 4000000 in
/-- the slot that became free last -/
theorem put_free (g base : Nat) (sl : List Slot) (fr : List Int) (j : Nat) (x : Int) (w0 w : World) (h : Ar w base g sl (fr ++ [(j : Int)])) (hB : Below base w0 w) (hj : j < sl.length) (hs : sl.length < 8796093022208) (hf : fr.length < 8796093022208) :
    Calls Try.prog 16 #[.pointer (some ⟨g, 0, none⟩), .int .i64 x] w fun e w' => e = .returned (.int .i64 (j : Int)) ∧ Ar w' base g (sl.set j (true, x)) fr ∧ Below base w0 w' := by
  obtain ⟨vL, vF, hg, hbase, hL, hF⟩ := h
  have hc0 : w.cell? ⟨g, 0, none⟩ = some vL := blk_cell hg 0
  have hc1 : w.cell? ⟨g, 1, none⟩ = some vF := blk_cell hg 1
  rw [List.length_append, show fr.length + [(j : Int)].length = fr.length + 1 from rfl] at hF
  obtain ⟨gL, cap, cur, rfl, hbL, hgL, hcell, hfr⟩ := hL.at_ (by omega)
  obtain ⟨gF, capF, curF, rfl, hbF, hgF, hcellF, hfrF⟩ := hF.at_ (by omega)
  obtain ⟨p, hp⟩ : ∃ p, sl[j]? = some p := ⟨sl[j], List.getElem?_eq_getElem hj⟩
  have hx0 : w.cell? ⟨gL, j * 2, none⟩ = some (.bool p.1) := (hcell _ (by omega)).trans (cells2_at sl j _ hp).1
  have hx : w.cell? ⟨gL, j * 2 + 1, none⟩ = some (.int .i64 p.2) := (hcell _ (by omega)).trans (cells2_at sl j _ hp).2
  have hz0 : w.frozen? ⟨gL, j * 2, none⟩ = false := hfr _
  have hz : w.frozen? ⟨gL, j * 2 + 1, none⟩ = false := hfr _
  have hy : w.cell? ⟨gF, fr.length, none⟩ = some (.int .i64 (j : Int)) := (hcellF _ (by omega)).trans (by rw [nums_append]; simp [nums])
  have hgz : w.frozen? ⟨g, 1, none⟩ = false := blk_frozen hg 1
  have hne : g ≠ gL := blk_ne hg hgL (by decide)
  have hne2 : gL ≠ g := fun e => hne e.symm
  have hneF : gF ≠ g := blk_ne hgF hg (by decide)
  have hcapF : fr.length + 1 ≤ capF := by
    obtain ⟨A, c, e, h1⟩ := hF.form
    simp only [Value.slice.injEq, Option.some.injEq, true_and] at e
    omega
  obtain ⟨c', hc', hcut⟩ := hF.cut (m := fr.length) (by omega)
  rw [if_neg (by simp)] at hc'
  rw [hc', nums_append, Nat.mul_one, List.take_append_of_le_length (by rw [nums_length]; exact Nat.le_refl _), List.take_of_length_le (by rw [nums_length]; exact Nat.le_refl _)] at hcut
  have HX := Aside0.mk (Ar.setF hg hbase hL hcut)
  have G1 : Aside0 ((w.setCell ⟨g, 1, none⟩ (.slice (some ⟨gF, 0, none⟩) fr.length fr.length)).heap[g]? = some (.cells #[.slice (some ⟨gL, 0, none⟩) sl.length cap, .slice (some ⟨gF, 0, none⟩) fr.length fr.length] 59 (0, 0))) := ⟨by simpa using blk_set hg 1 _⟩
  have L1 := Aside0.mk (hL.far (p := ⟨g, 1, none⟩) (fun k hk => hL.ne hg (by decide) k hk) (.slice (some ⟨gF, 0, none⟩) fr.length fr.length))
  have F1 := Aside0.mk (hcut.far (p := ⟨g, 1, none⟩) (fun k hk => hcut.ne hg (by decide) k hk) (.slice (some ⟨gF, 0, none⟩) fr.length fr.length))
  have GL1 := Aside0.mk (blk_far hgL (p := ⟨g, 1, none⟩) hne2 (.slice (some ⟨gF, 0, none⟩) fr.length fr.length))
  have B1 := Aside0.mk (((hB.setCell (p := ⟨g, 1, none⟩) hbase (.slice (some ⟨gF, 0, none⟩) fr.length fr.length)).setCell (p := ⟨gL, j * 2, none⟩) hbL (.bool true)).setCell (p := ⟨gL, j * 2 + 1, none⟩) hbL (.int .i64 x))
  have HG := Aside0.mk hbase
  have NE := Aside0.mk hne
  have d0 : decide ((fr.length : Int) < 0) = false := decide_eq_false (by omega)
  have q1 : (0 : Int) ≤ (fr.length : Int) := by omega
  clear hcell hg hgL hL hF hp hfr hbL hB hs hc' hcut hcellF hfrF hgF hbF
  go_enter Try.func16, Try.ntmps16
  go_wp2
  go_ret
  refine ⟨rfl, ⟨_, _, blk_far (blk_far G1.out NE.out _) NE.out _, HG.out, ?_, ?_⟩, B1.out⟩
  · rw [List.length_set]
    exact L1.out.two j (true, x)
  · exact (F1.out.far (fun k hk => F1.out.ne GL1.out (by decide) k hk) _).far (fun k hk => F1.out.ne GL1.out (by decide) k hk) _
end Go.Proofs.Ytlhoikcdjpnnfaa.PArena
