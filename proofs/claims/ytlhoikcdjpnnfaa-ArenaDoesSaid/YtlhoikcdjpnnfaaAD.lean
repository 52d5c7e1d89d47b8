/- What Cut of an arena answers and leaves, where fewer than 2^44 slots are free. -/
import Derived.Test.YtlhoikcdjpnnfaaAC
namespace Go.Proofs.Ytlhoikcdjpnnfaa.PArena
open Go.RowKit Go.Proofs.YtlhoikcdjpnnfaaW.PrintWords Go.Proofs.YtlhoikcdjpnnfaaW.PrintLast Go.Proofs.YtlhoikcdjpnnfaaW.PrintMore
set_option linter.unusedVariables false
set_option linter.unusedSimpArgs false
theorem info3' : (Try.prog.info? 3).map (fun i => (i.zero, i.size, i.bytes)) = some (some (.int .i64 0), 1, 8) := by kernel_rfl
theorem Ar.setF {w : World} {base g : Nat} {vL vF v' : Value} {sl : List Slot} {fr' : List Int} (hg : w.heap[g]? = some (.cells #[vL, vF] 59 (0, 0))) (hbase : base ≤ g)
    (hL : Row w base 61 2 vL sl.length (cells2 sl)) (hF : Row w base 3 1 v' fr'.length (nums .i64 fr')) : Ar (w.setCell ⟨g, 1, none⟩ v') base g sl fr' :=
  ⟨vL, v', by simpa using blk_set hg 1 v', hbase, hL.far (fun k hk => hL.ne hg (by decide) k hk) _, hF.far (fun k hk => hF.ne hg (by decide) k hk) _⟩
theorem Ar.setL {w : World} {base g : Nat} {vL vF v' : Value} {sl' : List Slot} {fr : List Int} (hg : w.heap[g]? = some (.cells #[vL, vF] 59 (0, 0))) (hbase : base ≤ g)
    (hL : Row w base 61 2 v' sl'.length (cells2 sl')) (hF : Row w base 3 1 vF fr.length (nums .i64 fr)) : Ar (w.setCell ⟨g, 0, none⟩ v') base g sl' fr :=
  ⟨v', vF, by simpa using blk_set hg 0 v', hbase, hL.far (fun k hk => hL.ne hg (by decide) k hk) _, hF.far (fun k hk => hF.ne hg (by decide) k hk) _⟩
/-- a slot is another one: both of its cells are written -/
theorem Row.two {w : World} {base gL n cap : Nat} {sl : List Slot} (h : Row w base 61 2 (.slice (some ⟨gL, 0, none⟩) n cap) n (cells2 sl)) (i : Nat) (p : Slot) :
    Row ((w.setCell ⟨gL, i * 2, none⟩ (.bool p.1)).setCell ⟨gL, i * 2 + 1, none⟩ (.int .i64 p.2)) base 61 2 (.slice (some ⟨gL, 0, none⟩) n cap) n (cells2 (sl.set i p)) := by
  rw [cells2_set]
  exact (h.put _ _).put _ _
def cutS (sl : List Slot) (i : Int) : List Slot := if hasB sl i = true then sl.set i.toNat (false, 0) else sl
def cutF (sl : List Slot) (fr : List Int) (i : Int) : List Int := if hasB sl i = true then fr ++ [i] else fr
set_option maxHeartbeats 4000000 in
theorem cut_calls (g base : Nat) (sl : List Slot) (fr : List Int) (i : Int) (w0 w : World) (h : Ar w base g sl fr) (hB : Below base w0 w) (hbw : base ≤ w.heap.size) (hf : fr.length < 17592186044416) :
    Calls Try.prog 17 #[.pointer (some ⟨g, 0, none⟩), .int .i64 i] w fun e w' => e = .returned (.bool (hasB sl i)) ∧ Ar w' base g (cutS sl i) (cutF sl fr i) ∧ Below base w0 w' := by
  have HA := Aside0.mk h
  have HB0 := Aside0.mk hB
  have HC := Aside0.mk (fun (W : World) (hW : Ar W base g sl fr) => has_calls g base sl fr i W hW)
  obtain ⟨vL, vF, hg, hbase, hL, hF⟩ := h
  have hc0 : w.cell? ⟨g, 0, none⟩ = some vL := blk_cell hg 0
  have hc1 : w.cell? ⟨g, 1, none⟩ = some vF := blk_cell hg 1
  cases hb : hasB sl i with
  | true =>
    obtain ⟨n, y, rfl, hp⟩ := hasB_yes hb
    have h2 : n < sl.length := (List.getElem?_eq_some_iff.1 hp).1
    obtain ⟨gL, cap, cur, rfl, hbL, hgL, hcell, hfr⟩ := hL.at_ (by omega)
    have hx0 : w.cell? ⟨gL, n * 2, none⟩ = some (.bool true) := (hcell _ (by omega)).trans (cells2_at sl n _ hp).1
    have hx : w.cell? ⟨gL, n * 2 + 1, none⟩ = some (.int .i64 y) := (hcell _ (by omega)).trans (cells2_at sl n _ hp).2
    have hz0 : w.frozen? ⟨gL, n * 2, none⟩ = false := hfr _
    have hz : w.frozen? ⟨gL, n * 2 + 1, none⟩ = false := hfr _
    have hne : g ≠ gL := blk_ne hg hgL (by decide)
    obtain ⟨A, c, rfl, hnc⟩ := hF.form
    -- behind the two stores, and the new element's block
    have e1 : cutS sl (n : Int) = sl.set n (false, 0) := by simp [cutS, hb]
    have e2 : cutF sl fr (n : Int) = fr ++ [(n : Int)] := by simp [cutF, hb]
    have hsz : ((w.setCell ⟨gL, n * 2, none⟩ (.bool false)).setCell ⟨gL, n * 2 + 1, none⟩ (.int .i64 0)).heap.size = w.heap.size := by simp [World.setCell]
    have G2 := Aside0.mk (blk_alloc (blk_far (blk_far hg (p := ⟨gL, n * 2, none⟩) hne (.bool false)) (p := ⟨gL, n * 2 + 1, none⟩) hne (.int .i64 0)) (.cells #[.int .i64 (n : Int)] 3))
    have L2 := Aside0.mk ((hL.two n (false, 0)).below (below_alloc (Below.refl _ _) (.cells #[.int .i64 (n : Int)] 3)))
    have F2 := Aside0.mk (((hF.far (p := ⟨gL, n * 2, none⟩) (fun k hk => hF.ne hgL (by decide) k hk) (.bool false)).far (p := ⟨gL, n * 2 + 1, none⟩) (fun k hk => hF.ne hgL (by decide) k hk) (.int .i64 0)).below (below_alloc (Below.refl _ _) (.cells #[.int .i64 (n : Int)] 3)))
    have B2 := Aside0.mk (((hB.setCell (p := ⟨gL, n * 2, none⟩) hbL (.bool false)).setCell (p := ⟨gL, n * 2 + 1, none⟩) hbL (.int .i64 0)).alloc (by rw [hsz]; exact hbw) (.cells #[.int .i64 (n : Int)] 3))
    have N2 : Aside0 (∀ j u, [Value.int .i64 (n : Int)][j]? = some u → (((w.setCell ⟨gL, n * 2, none⟩ (.bool false)).setCell ⟨gL, n * 2 + 1, none⟩ (.int .i64 0)).alloc (.cells #[.int .i64 (n : Int)] 3)).cell? ((⟨w.heap.size, 0, none⟩ : Addr).add j) = some u) := ⟨fun j u hj => by
      rw [add_plain, ← hsz]
      refine (blk_cell (blk_new _ _) j).trans ?_
      rw [← hj]; simp⟩
    have S2 : Aside0 (base ≤ (((w.setCell ⟨gL, n * 2, none⟩ (.bool false)).setCell ⟨gL, n * 2 + 1, none⟩ (.int .i64 0)).alloc (.cells #[.int .i64 (n : Int)] 3)).heap.size) := ⟨by simp [World.setCell]; omega⟩
    have HB := Aside0.mk hb
    have HM := Aside0.mk hf
    have HG := Aside0.mk hbase
    have E1 := Aside0.mk e1
    have E2 := Aside0.mk e2
    clear hcell hg hgL hL hF hp hfr hbL hB hb hsz e1 e2 hf hbase hbw
    go_enter Try.func17, Try.ntmps17
    go_wp2_with (first | (go_at_call 30; (with_reducible refine (HC.out _ HA.out).mono ?_); rintro e w' ⟨rfl, rfl⟩; rw [HB.out]) | ((with_reducible refine gate_builtin (b := .append) (xs := #[.tmp 20, .tmp 22]) rfl ?_); refine Row.append base rfl (.tmp 20) (.tmp 22) 22 3 (.int .i64 0) 1 8 rfl Try.underlying22 info3' rfl (by decide) (.slice A fr.length c) fr.length (nums .i64 fr) ⟨w.heap.size, 0, none⟩ 1 [.int .i64 (n : Int)] rfl rfl rfl N2.out (by simp [Value.oneCell']) F2.out B2.out S2.out (by have := HM.out; simp only [maxLen]; omega) (by have := HM.out; omega) ?_; intro v' w' hr hb1 hgr hat; obtain ⟨A', c', rfl, hnc'⟩ := hr.form; clear hnc'; have hG := blk_grown G2.out hgr (fun e_ => F2.out.ne G2.out (by decide) _ e_.symm rfl); have hL' := L2.out.grown hgr (fun k hk e_ => (F2.out.ne (L2.out.typed k hk).2.choose_spec (by decide) k e_.symm) rfl); have hcg := blk_cell hG 1; have hfz := blk_frozen hG 1; have R3 := Aside0.mk hr; have B3 := Aside0.mk hb1; have G3 := Aside0.mk hG; have L3 := Aside0.mk hL'; clear hr hb1 hgr hat hG hL'))
    go_ret
    refine ⟨rfl, ?_, B3.out.setCell HG.out _⟩
    rw [E1.out, E2.out]
    refine Ar.setF G3.out HG.out ?_ ?_
    · rw [List.length_set]; exact L3.out
    · rw [List.length_append, nums_append]; exact R3.out
  | false =>
    have e1 : Aside0 (cutS sl i = sl) := ⟨by simp [cutS, hb]⟩
    have e2 : Aside0 (cutF sl fr i = fr) := ⟨by simp [cutF, hb]⟩
    have HB := Aside0.mk hb
    clear hg hL hF hb hB
    rw [e1.out, e2.out]
    clear e1 e2
    go_enter Try.func17, Try.ntmps17
    go_wp2_with ((go_at_call 30; (with_reducible refine (HC.out _ HA.out).mono ?_); rintro e w' ⟨rfl, rfl⟩; rw [HB.out]))
    go_ret
    exact ⟨rfl, HA.out, HB0.out⟩
end Go.Proofs.Ytlhoikcdjpnnfaa.PArena
