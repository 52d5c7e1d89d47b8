/- An argument that is a slice of deeds, opened to what its memory holds; and the law CursorsDo's row: for every input true, and its arguments read as they did; no condition. -/
import Derived.Test.YtncbnejldlfbdaaKI
import Derived.Test.YtncbnejldlfbdaaWSized
import Derived.Deep.Slices
import Derived.Deep.Fields
import Derived.ProofKit
import Derived.SizedLaws
namespace Go.Proofs.Ytncbnejldlfbdaa.PCur
open Go.RowKit Go.ChangeShapes Go.WideShapes Go.Deep Go.Proofs.YtncbnejldlfbdaaW.PrintWords Go.Proofs.YtncbnejldlfbdaaW.PrintLast Go.Proofs.YtncbnejldlfbdaaW.PrintMore
open Go.Proofs.Ytncbnejldlfbdaa.PCursorsDo
set_option linter.unusedVariables false
def numOf : Option Value → Int
  | some (.int _ v) => v
  | _ => 0
theorem rng_u64 {n : Int} (h : (Lit.int .u64 n).wf = true) : 0 ≤ n ∧ n < 18446744073709551616 := by
  unfold Lit.wf at h
  simp [IntKind.min, IntKind.max, IntKind.signed, IntKind.bits] at h
  omega
section
variable {H : Type} {enc : TypeId × Value → H} {W : World} {base : Nat} {spare : Nat → Bool} {held : Bool}
theorem pick1 {cs' : List Value} {o : Nat} {v : Value} (g : (cs'.drop o).take 1 = [v]) : cs'[o]? = some v := by
  have := congrArg (fun q => q[0]?) g
  simpa using this
theorem hit_cells {n : Nat} {a : Addr} {cs' : List Value} {y : DataW H × List MemPlace} (hc : W.cells? base a 2 = some cs') (ht : DataW.trod enc Try.prog W base spare held n 31 cs' = some y) :
    ∃ v0 v1 : Int, W.cell? (a.add 0) = some (.int .u64 v0) ∧ W.cell? (a.add 1) = some (.int .i64 v1) := by
  have hc1 : Try.prog.cellsOf 3 = 1 := by kernel_rfl
  have hc2 : Try.prog.cellsOf 22 = 1 := by kernel_rfl
  obtain ⟨ys, n', _, _, hlen, hyl, hfs⟩ := DataW.trod_struct Try.underlying31 ht
  obtain ⟨_, hcl, hat⟩ := World.cells?_some hc
  have f0 : DataW.trod enc Try.prog W base spare held n' 22 ((cs'.drop 0).take (Try.prog.cellsOf 22)) = ys[0]? := hfs 0 _ rfl
  have f1 : DataW.trod enc Try.prog W base spare held n' 3 ((cs'.drop 1).take (Try.prog.cellsOf 3)) = ys[1]? := hfs 1 _ rfl
  rw [hc2] at f0
  rw [hc1] at f1
  have hy : ys.length = 2 := hyl
  have e0 : ys[0]? = some (ys[0]'(by omega)) := List.getElem?_eq_getElem (by omega)
  have e1 : ys[1]? = some (ys[1]'(by omega)) := List.getElem?_eq_getElem (by omega)
  obtain ⟨v0, g0, _, _⟩ := DataW.trod_int Try.underlying22 (f0.trans e0)
  obtain ⟨v1, g1, _, _⟩ := DataW.trod_int Try.underlying3 (f1.trans e1)
  exact ⟨v0, v1, (hat 0 (by omega)).trans (pick1 g0), (hat 1 (by omega)).trans (pick1 g1)⟩
theorem hits_open {fuel : Nat} {v : Value} {x : DataW H × List MemPlace} (hf : DataW.trod enc Try.prog W base spare held fuel 23 [v] = some x) :
    ∃ A hs c, v = .slice A (List.length hs) c ∧ Kd.C k31 W A (List.length hs) hs ∧ List.length hs ≤ c := by
  rcases open_slice Try.underlying23 hf with ⟨hcs, _⟩ | ⟨a, len, cap, m, n, D, Pl, hcs, _, hl, hm, hmm, hx, hi⟩
  · cases hcs
    exact ⟨none, [], 0, rfl, Kd.C_nil _ _, Nat.le_refl _⟩
  · cases hcs
    have hC : Try.prog.cellsOf 31 = 2 := by kernel_rfl
    have hlm : len ≤ m := by rw [hmm]; split <;> omega
    have key : ∀ i, i < len → ∃ v0 v1 : Int, W.cell? (a.add (i * 2 + 0)) = some (.int .u64 v0) ∧ W.cell? (a.add (i * 2 + 1)) = some (.int .i64 v1) := by
      intro i hil
      obtain ⟨cs', hc, ht⟩ := hi i (by omega)
      rw [hC] at hc
      obtain ⟨v0, v1, h0, h1⟩ := hit_cells hc ht
      rw [Go.Deep.add_add] at h0 h1
      exact ⟨v0, v1, h0, h1⟩
    refine ⟨some a, (List.range len).map (fun i => ⟨numOf (W.cell? (a.add (i * 2 + 0))), numOf (W.cell? (a.add (i * 2 + 1)))⟩), cap, by simp, ⟨rfl, by simp only [List.length_map, List.length_range]; have : maxLen = 9223372036854775807 := rfl; omega, fun hn => ⟨a, rfl, fun q p hp => ?_⟩⟩, by simpa using hl⟩
    have hq : q < len := by
      have := (List.getElem?_eq_some_iff.1 hp).1
      simpa using this
    obtain ⟨v0, v1, h0, h1⟩ := key q hq
    rw [List.getElem?_map, List.getElem?_range hq, Option.map_some, Option.some.injEq] at hp
    subst hp
    refine ⟨_, rfl, k31_mk W _, fun i u hiu => ?_⟩
    simp only [h0, h1, numOf] at hiu
    match i, hiu with
    | 0, hiu => simp at hiu; subst hiu; exact h0
    | 1, hiu => simp at hiu; subst hiu; exact h1
    | (i + 2), hiu => simp at hiu
theorem deed_cells {n : Nat} {a : Addr} {cs' : List Value} {y : DataW H × List MemPlace} (hc : W.cells? base a 4 = some cs') (ht : DataW.trod enc Try.prog W base spare held n 25 cs' = some y) :
    ∃ d : Dd, ∃ B c, W.cell? (a.add 0) = some (.int .i64 d.kd) ∧ W.cell? (a.add 1) = some (.int .u64 d.h) ∧ W.cell? (a.add 2) = some (.int .i64 d.ver) ∧ W.cell? (a.add 3) = some (.slice B d.hs.length c) ∧ Kd.C k31 W B d.hs.length d.hs ∧ d.hs.length ≤ c ∧ 0 ≤ d.h ∧ d.h < 18446744073709551616 := by
  have hc1 : Try.prog.cellsOf 3 = 1 := by kernel_rfl
  have hc2 : Try.prog.cellsOf 22 = 1 := by kernel_rfl
  have hc3 : Try.prog.cellsOf 23 = 1 := by kernel_rfl
  obtain ⟨ys, n', _, _, hlen, hyl, hfs⟩ := DataW.trod_struct Try.underlying25 ht
  obtain ⟨_, hcl, hat⟩ := World.cells?_some hc
  have f0 : DataW.trod enc Try.prog W base spare held n' 3 ((cs'.drop 0).take (Try.prog.cellsOf 3)) = ys[0]? := hfs 0 _ rfl
  have f1 : DataW.trod enc Try.prog W base spare held n' 22 ((cs'.drop 1).take (Try.prog.cellsOf 22)) = ys[1]? := hfs 1 _ rfl
  have f2 : DataW.trod enc Try.prog W base spare held n' 3 ((cs'.drop 2).take (Try.prog.cellsOf 3)) = ys[2]? := hfs 2 _ rfl
  have f3 : DataW.trod enc Try.prog W base spare held n' 23 ((cs'.drop 3).take (Try.prog.cellsOf 23)) = ys[3]? := hfs 3 _ rfl
  rw [hc1] at f0 f2
  rw [hc2] at f1
  rw [hc3] at f3
  have hy : ys.length = 4 := hyl
  have e0 : ys[0]? = some (ys[0]'(by omega)) := List.getElem?_eq_getElem (by omega)
  have e1 : ys[1]? = some (ys[1]'(by omega)) := List.getElem?_eq_getElem (by omega)
  have e2 : ys[2]? = some (ys[2]'(by omega)) := List.getElem?_eq_getElem (by omega)
  have e3 : ys[3]? = some (ys[3]'(by omega)) := List.getElem?_eq_getElem (by omega)
  obtain ⟨v0, g0, _, _⟩ := DataW.trod_int Try.underlying3 (f0.trans e0)
  obtain ⟨v1, g1, _, w1⟩ := DataW.trod_int Try.underlying22 (f1.trans e1)
  obtain ⟨v2, g2, _, _⟩ := DataW.trod_int Try.underlying3 (f2.trans e2)
  have hlen3 : ((cs'.drop 3).take 1).length = 1 := by rw [List.length_take, List.length_drop, hcl]; rfl
  obtain ⟨u, hu⟩ := List.length_eq_one_iff.1 hlen3
  rw [hu] at f3
  obtain ⟨B, hs, c, rfl, hC, hl⟩ := hits_open (f3.trans e3)
  exact ⟨⟨v0, v1, v2, hs⟩, B, c, (hat 0 (by omega)).trans (pick1 g0), (hat 1 (by omega)).trans (pick1 g1), (hat 2 (by omega)).trans (pick1 g2), (hat 3 (by omega)).trans (pick1 hu), hC, hl, (rng_u64 w1).1, (rng_u64 w1).2⟩
end
theorem deeds_open {H : Type} {enc : TypeId × Value → H} {W : World} {ts : List TypeId} {dts : List (DataW H)} {j : Nat} {a : Option Addr} {len cap : Nat} {d : DataW H} {p : List MemPlace}
    (hsz : (DataW.weightsEach Try.prog ts dts).all (· ≤ reachBytes) = true) (htj : ts[j]? = some 71) (hdj : dts[j]? = some d)
    (h : DataW.Trod enc Try.prog W 0 (fun _ => true) true 71 (.slice a len cap) d p) :
    ∃ l : List Dd, len = l.length ∧ DeedsAt W a l ∧ l.length ≤ cap ∧ l.length < 3000000000000 := by
  obtain ⟨fuel, hf⟩ := h
  rcases open_slice Try.underlying71 hf with ⟨hcs, _⟩ | ⟨x, l, c, m, n, D, Pl, hcs, _, hl, hm, hmm, hx, hi⟩
  · simp [Value.cells] at hcs
    obtain ⟨rfl, rfl, rfl⟩ := hcs
    exact ⟨[], rfl, fun i hi => absurd hi (by simp), Nat.le_refl _, by simp⟩
  · simp [Value.cells] at hcs
    obtain ⟨rfl, rfl, rfl⟩ := hcs
    have hd : d = .slice ((List.range len).map D) ((List.range (m - len)).map fun j => D (len + j)) := congrArg Prod.fst hx
    subst hd
    have z := sized_slice hsz htj hdj Try.underlying71
    rw [show Try.prog.bytesOf 25 = 48 from by kernel_rfl] at z
    have z2 : len * 48 ≤ reachBytes := Nat.le_trans (Nat.mul_le_mul_right _ (by simp)) z
    have hC : Try.prog.cellsOf 25 = 4 := by kernel_rfl
    have hlm : len ≤ m := by rw [hmm]; split <;> omega
    have key : ∀ i, ∃ d : Dd, i < len → ∃ B c, W.cell? (x.add (i * 4 + 0)) = some (.int .i64 d.kd) ∧ W.cell? (x.add (i * 4 + 1)) = some (.int .u64 d.h) ∧ W.cell? (x.add (i * 4 + 2)) = some (.int .i64 d.ver) ∧ W.cell? (x.add (i * 4 + 3)) = some (.slice B d.hs.length c) ∧ Kd.C k31 W B d.hs.length d.hs ∧ d.hs.length ≤ c ∧ 0 ≤ d.h ∧ d.h < 18446744073709551616 := by
      intro i
      by_cases hil : i < len
      · obtain ⟨cs', hc, ht⟩ := hi i (by omega)
        rw [hC] at hc
        obtain ⟨d, B, c, h0, h1, h2, h3, h4⟩ := deed_cells hc ht
        rw [Go.Deep.add_add] at h0 h1 h2 h3
        exact ⟨d, fun _ => ⟨B, c, h0, h1, h2, h3, h4⟩⟩
      · exact ⟨z0d, fun h => absurd h hil⟩
    refine ⟨(List.range len).map (fun i => Classical.choose (key i)), by simp, fun j hj => ?_, by simpa using hl, ?_⟩
    · have hj2 : j < len := by simpa using hj
      have hg : gd ((List.range len).map (fun i => Classical.choose (key i))) j = Classical.choose (key j) := by
        unfold gd
        rw [List.getD_eq_getElem?_getD, List.getElem?_map, List.getElem?_range hj2]
        rfl
      rw [hg]
      obtain ⟨B, c, h0, h1, h2, h3, h4⟩ := Classical.choose_spec (key j) hj2
      exact ⟨x, B, c, rfl, h0, by rw [← add_field _ _ 1 (by omega)]; exact h1, by rw [← add_field _ _ 2 (by omega)]; exact h2, by rw [← add_field _ _ 3 (by omega)]; exact h3, h4⟩
    · simp only [List.length_map, List.length_range]
      have : reachBytes = 140737488351232 := rfl
      omega
end Go.Proofs.Ytncbnejldlfbdaa.PCur
