/- What Put of an arena leaves where a slot is free, and that nothing but the arena's own blocks turns, where slots are fewer than 2^43. -/
import Derived.Test.YtlhoikcdjpnnfaaAW
namespace Go.Proofs.Ytlhoikcdjpnnfaa.PArena
open Go.RowKit Go.Proofs.YtlhoikcdjpnnfaaW.PrintWords Go.Proofs.YtlhoikcdjpnnfaaW.PrintLast Go.Proofs.YtlhoikcdjpnnfaaW.PrintMore
set_option linter.unusedVariables false
set_option linter.unusedSimpArgs false
set_option maxHeartbeats 4000000 in
/-- the slot that became free last -/
theorem putS_free (g base : Nat) (sl : List Slot) (fr : List Int) (S : Nat → Prop) (j : Nat) (x : Int) (w0 w : World) (h : ArS w base g sl (fr ++ [(j : Int)]) S) (hB : Below base w0 w) (hj : j < sl.length) (hs : sl.length < 8796093022208) (hf : fr.length < 8796093022208) :
    Calls Try.prog 16 #[.pointer (some ⟨g, 0, none⟩), .int .i64 x] w fun e w' => e = .returned (.int .i64 (j : Int)) ∧ ArS w' base g (sl.set j (true, x)) fr S ∧ Below base w0 w' ∧ Kept w w' S := by
  obtain ⟨vL, vF, hg, hbase, hL, hF, s1, s2, s3⟩ := h
  have hc0 : w.cell? ⟨g, 0, none⟩ = some vL := blk_cell hg 0
  have hc1 : w.cell? ⟨g, 1, none⟩ = some vF := blk_cell hg 1
  rw [List.length_append, show fr.length + [(j : Int)].length = fr.length + 1 from rfl] at hF
  obtain ⟨gL, cap, cur, rfl, hbL, hgL, hcell, hfr⟩ := hL.at_ (by omega)
  obtain ⟨gF, capF, curF, rfl, hbF, hgF, hcellF, hfrF⟩ := hF.at_ (by omega)
  obtain ⟨p, hp⟩ : ∃ p, sl[j]? = some p := ⟨sl[j], List.getElem?_eq_getElem hj⟩
  have hx0 : w.cell? ⟨gL, j * 2, none⟩ = some (.bool p.1) := (hcell _ (by omega)).trans (cells2_at sl j _ hp).1
  have hx : w.cell? ⟨gL, j * 2 + 1, none⟩ = some (.int .i64 p.2) := (hcell _ (by omega)).trans (cells2_at sl j _ hp).2
  have hz0 : w.frozen? ⟨gL, j * 2, none⟩ = false := hfr _
  have hz : w.frozen? ⟨gL, j * 2 + 1, none⟩ = false := hfr _
  have hy : w.cell? ⟨gF, fr.length, none⟩ = some (.int .i64 (j : Int)) := (hcellF _ (by omega)).trans (by rw [nums_append]; simp [nums])
  have hgz : w.frozen? ⟨g, 1, none⟩ = false := blk_frozen hg 1
  have hne : g ≠ gL := blk_ne hg hgL (by decide)
  have hne2 : gL ≠ g := fun e => hne e.symm
  have hneF : gF ≠ g := blk_ne hgF hg (by decide)
  have hcapF : fr.length + 1 ≤ capF := by
    obtain ⟨A, c, e, h1⟩ := hF.form
    simp only [Value.slice.injEq, Option.some.injEq, true_and] at e
    omega
  obtain ⟨c', hc', hcut⟩ := hF.cut (m := fr.length) (by omega)
  rw [if_neg (by simp)] at hc'
  rw [hc', nums_append, Nat.mul_one, List.take_append_of_le_length (by rw [nums_length]; exact Nat.le_refl _), List.take_of_length_le (by rw [nums_length]; exact Nat.le_refl _)] at hcut
  have K1 := Aside0.mk ((((Kept.refl w S).setCell (p := ⟨g, 1, none⟩) (.inl s1) (.slice (some ⟨gF, 0, none⟩) fr.length fr.length)).setCell (p := ⟨gL, j * 2, none⟩) (.inl (s2 gL rfl)) (.bool true)).setCell (p := ⟨gL, j * 2 + 1, none⟩) (.inl (s2 gL rfl)) (.int .i64 x))
  have T1 := Aside0.mk s1
  have T2 : Aside0 (S gL) := ⟨s2 gL rfl⟩
  have T3 : Aside0 (S gF) := ⟨s3 gF rfl⟩
  have G1 : Aside0 ((w.setCell ⟨g, 1, none⟩ (.slice (some ⟨gF, 0, none⟩) fr.length fr.length)).heap[g]? = some (.cells #[.slice (some ⟨gL, 0, none⟩) sl.length cap, .slice (some ⟨gF, 0, none⟩) fr.length fr.length] 59 (0, 0))) := ⟨by simpa using blk_set hg 1 _⟩
  have L1 := Aside0.mk (hL.far (p := ⟨g, 1, none⟩) (fun k hk => hL.ne hg (by decide) k hk) (.slice (some ⟨gF, 0, none⟩) fr.length fr.length))
  have F1 := Aside0.mk (hcut.far (p := ⟨g, 1, none⟩) (fun k hk => hcut.ne hg (by decide) k hk) (.slice (some ⟨gF, 0, none⟩) fr.length fr.length))
  have GL1 := Aside0.mk (blk_far hgL (p := ⟨g, 1, none⟩) hne2 (.slice (some ⟨gF, 0, none⟩) fr.length fr.length))
  have B1 := Aside0.mk (((hB.setCell (p := ⟨g, 1, none⟩) hbase (.slice (some ⟨gF, 0, none⟩) fr.length fr.length)).setCell (p := ⟨gL, j * 2, none⟩) hbL (.bool true)).setCell (p := ⟨gL, j * 2 + 1, none⟩) hbL (.int .i64 x))
  have HG := Aside0.mk hbase
  have NE := Aside0.mk hne
  have d0 : decide ((fr.length : Int) < 0) = false := decide_eq_false (by omega)
  have q1 : (0 : Int) ≤ (fr.length : Int) := by omega
  clear hcell hg hgL hL hF hp hfr hbL hB hs hc' hcut hcellF hfrF hgF hbF s1 s2 s3
  go_enter Try.func16, Try.ntmps16
  go_wp2
  go_ret
  refine ⟨rfl, ⟨_, _, blk_far (blk_far G1.out NE.out _) NE.out _, HG.out, ?_, ?_, T1.out, fun k hk => ?_, fun k hk => ?_⟩, B1.out, K1.out⟩
  · rw [List.length_set]
    exact L1.out.two j (true, x)
  · exact (F1.out.far (fun k hk => F1.out.ne GL1.out (by decide) k hk) _).far (fun k hk => F1.out.ne GL1.out (by decide) k hk) _
  · obtain rfl : gL = k := by simpa [Value.ownBlock] using hk
    exact T2.out
  · obtain rfl : gF = k := by simpa [Value.ownBlock] using hk
    exact T3.out
end Go.Proofs.Ytlhoikcdjpnnfaa.PArena
