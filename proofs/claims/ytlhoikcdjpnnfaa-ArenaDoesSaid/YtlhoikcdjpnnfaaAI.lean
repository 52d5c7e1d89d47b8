/- A list of deeds among the arguments, opened to its numbers; no condition. -/
import Derived.Test.YtlhoikcdjpnnfaaAG
import Derived.Test.YtlhoikcdjpnnfaaRows
import Derived.Test.YtlhoikcdjpnnfaaWSized
import Derived.Deep.Slices
import Derived.Deep.Fields
import Derived.ProofKit
import Derived.SizedLaws
namespace Go.Proofs.Ytlhoikcdjpnnfaa.PArena
open Go.RowKit Go.ChangeShapes Go.WideShapes Go.Deep Go.Proofs.YtlhoikcdjpnnfaaW.PrintWords
def numOf : Option Value → Int
  | some (.int _ v) => v
  | _ => 0
theorem deeds_open {H : Type} {enc : TypeId × Value → H} {W : World} {ts : List TypeId} {dts : List (DataW H)} {j : Nat} {a : Option Addr} {len cap : Nat} {d : DataW H} {p : List MemPlace}
    (hsz : (DataW.weightsEach Try.prog ts dts).all (· ≤ reachBytes) = true) (htj : ts[j]? = some 32) (hdj : dts[j]? = some d)
    (h : DataW.Trod enc Try.prog W 0 (fun _ => true) true 32 (.slice a len cap) d p) :
    ∃ l : List Deed, len = l.length ∧ Deeds W a l.length l ∧ l.length ≤ cap ∧ l.length * 24 ≤ 140737488351232 := by
  obtain ⟨fuel, hf⟩ := h
  rcases open_slice Try.underlying32 hf with ⟨hcs, _⟩ | ⟨x, l, c, m, n, D, Pl, hcs, _, hl, hm, hmm, hx, hi⟩
  · simp [Value.cells] at hcs
    obtain ⟨rfl, rfl, rfl⟩ := hcs
    exact ⟨[], rfl, ⟨rfl, by simp, fun h => absurd h (Nat.lt_irrefl 0)⟩, Nat.le_refl _, by simp⟩
  · simp [Value.cells] at hcs
    obtain ⟨rfl, rfl, rfl⟩ := hcs
    have hd : d = .slice ((List.range len).map D) ((List.range (m - len)).map fun j => D (len + j)) := congrArg Prod.fst hx
    subst hd
    have z := sized_slice hsz htj hdj Try.underlying32
    rw [show Try.prog.bytesOf 36 = 24 from by kernel_rfl] at z
    have z2 : len * 24 ≤ reachBytes := Nat.le_trans (Nat.mul_le_mul_right _ (by simp)) z
    have hC : Try.prog.cellsOf 36 = 3 := by kernel_rfl
    have hc1 : Try.prog.cellsOf 3 = 1 := by kernel_rfl
    have hlm : len ≤ m := by rw [hmm]; split <;> omega
    have key : ∀ i, i < len → ∃ v0 v1 v2 : Int, W.cell? (x.add (i * 3)) = some (.int .i64 v0) ∧ W.cell? (x.add (i * 3 + 1)) = some (.int .i64 v1) ∧ W.cell? (x.add (i * 3 + 2)) = some (.int .i64 v2) := by
      intro i hil
      obtain ⟨cs', hc, ht⟩ := hi i (by omega)
      rw [hC] at hc
      obtain ⟨ys, n', _, _, hlen, hyl, hfs⟩ := DataW.trod_struct Try.underlying36 ht
      obtain ⟨_, hcl, hat⟩ := World.cells?_some hc
      have f0 : DataW.trod enc Try.prog W 0 (fun _ => true) true n' 3 ((cs'.drop 0).take (Try.prog.cellsOf 3)) = ys[0]? := hfs 0 _ rfl
      have f1 : DataW.trod enc Try.prog W 0 (fun _ => true) true n' 3 ((cs'.drop 1).take (Try.prog.cellsOf 3)) = ys[1]? := hfs 1 _ rfl
      have f2 : DataW.trod enc Try.prog W 0 (fun _ => true) true n' 3 ((cs'.drop 2).take (Try.prog.cellsOf 3)) = ys[2]? := hfs 2 _ rfl
      rw [hc1] at f0 f1 f2
      have hy : ys.length = 3 := hyl
      have e0 : ys[0]? = some (ys[0]'(by omega)) := List.getElem?_eq_getElem (by omega)
      have e1 : ys[1]? = some (ys[1]'(by omega)) := List.getElem?_eq_getElem (by omega)
      have e2 : ys[2]? = some (ys[2]'(by omega)) := List.getElem?_eq_getElem (by omega)
      obtain ⟨v0, g0, _, _⟩ := DataW.trod_int Try.underlying3 (f0.trans e0)
      obtain ⟨v1, g1, _, _⟩ := DataW.trod_int Try.underlying3 (f1.trans e1)
      obtain ⟨v2, g2, _, _⟩ := DataW.trod_int Try.underlying3 (f2.trans e2)
      have pick (o : Nat) (v : Value) (g : (cs'.drop o).take 1 = [v]) : cs'[o]? = some v := by
        have := congrArg (fun q => q[0]?) g
        simpa using this
      refine ⟨v0, v1, v2, ?_, ?_, ?_⟩
      · have := hat 0 (by omega)
        rw [Go.Deep.add_add] at this
        exact this.trans (pick 0 _ g0)
      · have := hat 1 (by omega)
        rw [Go.Deep.add_add] at this
        exact this.trans (pick 1 _ g1)
      · have := hat 2 (by omega)
        rw [Go.Deep.add_add] at this
        exact this.trans (pick 2 _ g2)
    refine ⟨(List.range len).map (fun i => (numOf (W.cell? (x.add (i * 3))), numOf (W.cell? (x.add (i * 3 + 1))), numOf (W.cell? (x.add (i * 3 + 2))))), by simp, ⟨rfl, ?_, fun hn => ⟨x, rfl, fun q p hp => ?_⟩⟩, by simpa using hl, ?_⟩
    · simp only [List.length_map, List.length_range]; have : maxLen = 9223372036854775807 := rfl; omega
    · have hq : q < len := by
        have := (List.getElem?_eq_some_iff.1 hp).1
        simpa using this
      obtain ⟨v0, v1, v2, h0, h1, h2⟩ := key q hq
      rw [List.getElem?_map, List.getElem?_range hq, Option.map_some, Option.some.injEq] at hp
      subst hp
      simp only [h0, h1, h2, numOf, and_self]
    · simp only [List.length_map, List.length_range]; exact z2
end Go.Proofs.Ytlhoikcdjpnnfaa.PArena
