/- An argument that is a slice of entries, or a graph, opened to what its memory holds; no condition. -/
import Derived.Test.YtncbnejldlfbdaaGI
import Derived.Deep.Slices
import Derived.Deep.Fields
import Derived.ProofKit
import Derived.Lib.SmallJoins
namespace Go.Proofs.Ytncbnejldlfbdaa.PHeap
open Go.RowKit Go.ChangeShapes Go.WideShapes Go.Joins Go.Deep Go.Proofs.YtncbnejldlfbdaaW.PrintWords
set_option linter.unusedVariables false
def numOf : Option Value → Int
  | some (.int _ v) => v
  | _ => 0
section
variable {H : Type} {enc : TypeId × Value → H} {W : World} {base : Nat} {spare : Nat → Bool} {held : Bool}
theorem ent_cells {n : Nat} {a : Addr} {cs' : List Value} {y : DataW H × List MemPlace} (hc : W.cells? base a 3 = some cs') (ht : DataW.trod enc Try.prog W base spare held n 98 cs' = some y) :
    ∃ v0 v1 v2 : Int, W.cell? a = some (.int .i64 v0) ∧ W.cell? (a.add 1) = some (.int .i64 v1) ∧ W.cell? (a.add 2) = some (.int .u64 v2) := by
  have hc1 : Try.prog.cellsOf 3 = 1 := by kernel_rfl
  have hc2 : Try.prog.cellsOf 22 = 1 := by kernel_rfl
  obtain ⟨ys, n', _, _, hlen, hyl, hfs⟩ := DataW.trod_struct Try.underlying98 ht
  obtain ⟨_, hcl, hat⟩ := World.cells?_some hc
  have f0 : DataW.trod enc Try.prog W base spare held n' 3 ((cs'.drop 0).take (Try.prog.cellsOf 3)) = ys[0]? := hfs 0 _ rfl
  have f1 : DataW.trod enc Try.prog W base spare held n' 3 ((cs'.drop 1).take (Try.prog.cellsOf 3)) = ys[1]? := hfs 1 _ rfl
  have f2 : DataW.trod enc Try.prog W base spare held n' 22 ((cs'.drop 2).take (Try.prog.cellsOf 22)) = ys[2]? := hfs 2 _ rfl
  rw [hc1] at f0 f1
  rw [hc2] at f2
  have hy : ys.length = 3 := hyl
  have e0 : ys[0]? = some (ys[0]'(by omega)) := List.getElem?_eq_getElem (by omega)
  have e1 : ys[1]? = some (ys[1]'(by omega)) := List.getElem?_eq_getElem (by omega)
  have e2 : ys[2]? = some (ys[2]'(by omega)) := List.getElem?_eq_getElem (by omega)
  obtain ⟨v0, g0, _, _⟩ := DataW.trod_int Try.underlying3 (f0.trans e0)
  obtain ⟨v1, g1, _, _⟩ := DataW.trod_int Try.underlying3 (f1.trans e1)
  obtain ⟨v2, g2, _, _⟩ := DataW.trod_int Try.underlying22 (f2.trans e2)
  have pick (o : Nat) (v : Value) (g : (cs'.drop o).take 1 = [v]) : cs'[o]? = some v := by
    have := congrArg (fun q => q[0]?) g
    simpa using this
  refine ⟨v0, v1, v2, ?_, (hat 1 (by omega)).trans (pick 1 _ g1), (hat 2 (by omega)).trans (pick 2 _ g2)⟩
  have := (hat 0 (by omega)).trans (pick 0 _ g0)
  rwa [show a.add 0 = a from by unfold Addr.add; simp] at this
theorem ents_open {fuel : Nat} {v : Value} {x : DataW H × List MemPlace} (hf : DataW.trod enc Try.prog W base spare held fuel 40 [v] = some x) :
    ∃ A es c, v = .slice A (List.length es) c ∧ Ents W A es ∧ List.length es ≤ c ∧ c ≤ maxLen := by
  rcases open_slice Try.underlying40 hf with ⟨hcs, _⟩ | ⟨a, len, cap, m, n, D, Pl, hcs, _, hl, hm, hmm, hx, hi⟩
  · cases hcs
    exact ⟨none, [], 0, rfl, fun i hi => absurd hi (by simp), Nat.le_refl _, by simp [maxLen]⟩
  · cases hcs
    have hC : Try.prog.cellsOf 98 = 3 := by kernel_rfl
    have hlm : len ≤ m := by rw [hmm]; split <;> omega
    have key : ∀ i, i < len → ∃ v0 v1 v2 : Int, W.cell? (a.add (i * 3)) = some (.int .i64 v0) ∧ W.cell? (a.add (i * 3 + 1)) = some (.int .i64 v1) ∧ W.cell? (a.add (i * 3 + 2)) = some (.int .u64 v2) := by
      intro i hil
      obtain ⟨cs', hc, ht⟩ := hi i (by omega)
      rw [hC] at hc
      obtain ⟨v0, v1, v2, h0, h1, h2⟩ := ent_cells hc ht
      rw [Go.Deep.add_add] at h1 h2
      exact ⟨v0, v1, v2, h0, h1, h2⟩
    refine ⟨some a, (List.range len).map (fun i => (numOf (W.cell? (a.add (i * 3))), numOf (W.cell? (a.add (i * 3 + 1))), numOf (W.cell? (a.add (i * 3 + 2))))), cap, by simp, fun q hq => ⟨a, rfl, ?_⟩, by simpa using hl, hm⟩
    have hq2 : q < len := by simpa using hq
    obtain ⟨v0, v1, v2, h0, h1, h2⟩ := key q hq2
    have hg := gt_some hq
    rw [List.getElem?_map, List.getElem?_range hq2, Option.map_some, Option.some.injEq] at hg
    rw [← hg]
    simp only [h0, h1, h2, numOf, and_self]
open Classical in
theorem behind_open {fuel : Nat} {v : Value} {x : DataW H × List MemPlace} (hf : DataW.trod enc Try.prog W base spare held fuel 41 [v] = some x) :
    ∃ A bs c, v = .slice A (List.length bs) c ∧ Behind W A bs ∧ List.length bs ≤ 9223372036854775807 := by
  rcases open_slice Try.underlying41 hf with ⟨hcs, _⟩ | ⟨a, len, cap, m, n, D, Pl, hcs, _, hl, hm, hmm, hx, hi⟩
  · cases hcs
    exact ⟨none, [], 0, rfl, fun i hi => absurd hi (by simp), by simp⟩
  · cases hcs
    have hC : Try.prog.cellsOf 40 = 1 := by kernel_rfl
    have hlm : len ≤ m := by rw [hmm]; split <;> omega
    have key : ∀ i, ∃ es : List Ent, i < len → ∃ B c, W.cell? (a.add i) = some (.slice B es.length c) ∧ Ents W B es ∧ es.length ≤ c ∧ c ≤ maxLen := by
      intro i
      by_cases hil : i < len
      · obtain ⟨cs', hc, ht⟩ := hi i (by omega)
        rw [hC, Nat.mul_one] at hc
        obtain ⟨_, hcl, hat⟩ := World.cells?_some hc
        obtain ⟨u, rfl⟩ : ∃ u, cs' = [u] := List.length_eq_one_iff.1 hcl
        obtain ⟨A, es, c, rfl, he, hl2, hm2⟩ := ents_open ht
        refine ⟨es, fun _ => ⟨A, c, ?_, he, hl2, hm2⟩⟩
        have := hat 0 (by omega)
        rw [show (a.add i).add 0 = a.add i from by unfold Addr.add; simp] at this
        exact this
      · exact ⟨[], fun h => absurd h hil⟩
    refine ⟨some a, (List.range len).map (fun i => Classical.choose (key i)), cap, by simp, fun j hj => ?_, by simp only [List.length_map, List.length_range]; have : maxLen = 9223372036854775807 := rfl; omega⟩
    have hj2 : j < len := by simpa using hj
    have hg : gb ((List.range len).map (fun i => Classical.choose (key i))) j = Classical.choose (key j) := by
      unfold gb
      rw [List.getD_eq_getElem?_getD, List.getElem?_map, List.getElem?_range hj2]
      rfl
    rw [hg]
    obtain ⟨B, c, h0, h1, h2, h3⟩ := Classical.choose_spec (key j) hj2
    exact ⟨a, B, c, rfl, h0, h1, h2, h3⟩
set_option maxRecDepth 100000 in
theorem graph_open {r : Reach} {b0 : Nat} {v : Value} {d : DataW H} {p : List MemPlace} (hv : Value.okWide Try.prog W r b0 43 v) (h : DataW.Trod enc Try.prog W base spare held 43 v d p) :
    ∃ A0 A1 es bs c0 c1, v = .agg #[.slice A0 (List.length es) c0, .slice A1 (List.length bs) c1] ∧ Ents W A0 es ∧ Behind W A1 bs ∧ List.length es ≤ c0 ∧ c0 ≤ maxLen ∧ List.length bs ≤ 9223372036854775807 := by
  obtain ⟨v0, v1, y0, y1, n, rfl, _, _, h0, h1⟩ := open_agg2 Try.underlying43 (by kernel_rfl) (by kernel_rfl) hv h
  obtain ⟨A0, es, c0, rfl, he, hl, hm⟩ := ents_open h0
  obtain ⟨A1, bs, c1, rfl, hb, hbl⟩ := behind_open h1
  exact ⟨A0, A1, es, bs, c0, c1, rfl, he, hb, hl, hm, hbl⟩
end
end Go.Proofs.Ytncbnejldlfbdaa.PHeap
