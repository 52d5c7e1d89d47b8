/- An argument that is a slice of items, opened to what its memory holds; no condition. -/
import Derived.Test.YtncbnejldlfbdaaJM
import Derived.Test.YtncbnejldlfbdaaWSized
import Derived.Deep.Slices
import Derived.Deep.Fields
import Derived.ProofKit
import Derived.SizedLaws
namespace Go.Proofs.Ytncbnejldlfbdaa.PIdx
open Go.RowKit Go.ChangeShapes Go.WideShapes Go.Deep Go.Proofs.YtncbnejldlfbdaaW.PrintWords Go.Proofs.YtncbnejldlfbdaaW.PrintLast Go.Proofs.YtncbnejldlfbdaaW.PrintMore
open Go.Proofs.Ytncbnejldlfbdaa.PIndexFresh
set_option linter.unusedVariables false
section
variable {H : Type} {enc : TypeId × Value → H} {W : World} {base : Nat} {spare : Nat → Bool} {held : Bool}
theorem pick1 {cs' : List Value} {o : Nat} {v : Value} (g : (cs'.drop o).take 1 = [v]) : cs'[o]? = some v := by
  have := congrArg (fun q => q[0]?) g
  simpa using this
theorem nums_open {fuel : Nat} {v : Value} {x : DataW H × List MemPlace} (hf : DataW.trod enc Try.prog W base spare held fuel 61 [v] = some x) :
    ∃ A hs c, v = .slice A (List.length hs) c ∧ List.length hs ≤ c ∧ (Kd.int .i32).C W A (List.length hs) hs := by
  rcases open_ints Try.underlying61 Try.underlying21 (by kernel_rfl) hf with ⟨hcs, _⟩ | ⟨a, len, cap, zs, hcs, _, hl, hm, hz, hx, hcell, hwz⟩
  · cases hcs
    exact ⟨none, [], 0, rfl, Nat.le_refl _, Kd.C_nil _ _⟩
  · cases hcs
    have hlz : len ≤ zs.length := by rw [hz]; split <;> omega
    have hl2 : (zs.take len).length = len := by rw [List.length_take]; omega
    refine ⟨some a, zs.take len, cap, by rw [hl2], by rw [hl2]; exact hl, ⟨rfl, by rw [hl2]; have : maxLen = 9223372036854775807 := rfl; omega, fun _ => ⟨a, rfl, fun j p hj => ⟨[.int .i32 p], rfl, rfl, fun i u hu => ?_⟩⟩⟩⟩
    have hj2 : j < len := by have := (List.getElem?_eq_some_iff.1 hj).1; omega
    match i with
    | 0 =>
      simp only [List.getElem?_cons_zero, Option.some.injEq] at hu
      subst hu
      rw [List.getElem?_take_of_lt hj2] at hj
      have h1 := hcell j (by omega)
      rw [List.getD_eq_getElem?_getD, hj] at h1
      show W.cell? (a.add (j * 1 + 0)) = _
      rw [Nat.mul_one, Nat.add_zero]
      exact h1
    | i + 1 => simp at hu
theorem item_cells {n : Nat} {a : Addr} {cs' : List Value} {y : DataW H × List MemPlace} (hc : W.cells? base a 4 = some cs') (ht : DataW.trod enc Try.prog W base spare held n 65 cs' = some y) :
    ∃ t : It, W.cell? (a.add 0) = some (.int .u64 t.x.f0) ∧ W.cell? (a.add 1) = some (.int .i64 t.x.f1.f0) ∧ W.cell? (a.add 2) = some (.slice t.A t.x.f1.f1.length t.c) ∧ W.cell? (a.add 3) = some (.string t.x.f1.f2) ∧ t.x.f1.f1.length ≤ t.c ∧ (Kd.int .i32).C W t.A t.x.f1.f1.length t.x.f1.f1 ∧ (Lit.int .u64 t.x.f0).wf = true := by
  have hc1 : Try.prog.cellsOf 3 = 1 := by kernel_rfl
  have hc2 : Try.prog.cellsOf 22 = 1 := by kernel_rfl
  have hc3 : Try.prog.cellsOf 61 = 1 := by kernel_rfl
  have hc4 : Try.prog.cellsOf 9 = 1 := by kernel_rfl
  have hc5 : Try.prog.cellsOf 63 = 3 := by kernel_rfl
  obtain ⟨ys, n', _, _, hlen, hyl, hfs⟩ := DataW.trod_struct Try.underlying65 ht
  obtain ⟨_, hcl, hat⟩ := World.cells?_some hc
  have f0 : DataW.trod enc Try.prog W base spare held n' 22 ((cs'.drop 0).take (Try.prog.cellsOf 22)) = ys[0]? := hfs 0 _ rfl
  have f1 : DataW.trod enc Try.prog W base spare held n' 63 ((cs'.drop 1).take (Try.prog.cellsOf 63)) = ys[1]? := hfs 1 _ rfl
  rw [hc2] at f0
  rw [hc5] at f1
  have hy : ys.length = 2 := hyl
  have e0 : ys[0]? = some (ys[0]'(by omega)) := List.getElem?_eq_getElem (by omega)
  have e1 : ys[1]? = some (ys[1]'(by omega)) := List.getElem?_eq_getElem (by omega)
  obtain ⟨v0, g0, _, w0⟩ := DataW.trod_int Try.underlying22 (f0.trans e0)
  obtain ⟨zs, n2, _, _, hlen2, hzl, hgs⟩ := DataW.trod_struct Try.underlying63 (f1.trans e1)
  generalize hds : (cs'.drop 1).take 3 = ds at hgs hlen2
  have k0 : DataW.trod enc Try.prog W base spare held n2 3 ((ds.drop 0).take (Try.prog.cellsOf 3)) = zs[0]? := hgs 0 _ rfl
  have k1 : DataW.trod enc Try.prog W base spare held n2 61 ((ds.drop 1).take (Try.prog.cellsOf 61)) = zs[1]? := hgs 1 _ rfl
  have k2 : DataW.trod enc Try.prog W base spare held n2 9 ((ds.drop 2).take (Try.prog.cellsOf 9)) = zs[2]? := hgs 2 _ rfl
  rw [hc1] at k0
  rw [hc3] at k1
  rw [hc4] at k2
  have hz : zs.length = 3 := hzl
  have q0 : zs[0]? = some (zs[0]'(by omega)) := List.getElem?_eq_getElem (by omega)
  have q1 : zs[1]? = some (zs[1]'(by omega)) := List.getElem?_eq_getElem (by omega)
  have q2 : zs[2]? = some (zs[2]'(by omega)) := List.getElem?_eq_getElem (by omega)
  obtain ⟨v1, g1, _, _⟩ := DataW.trod_int Try.underlying3 (k0.trans q0)
  obtain ⟨b, g3, _, _⟩ := DataW.trod_string Try.underlying9 (k2.trans q2)
  have hdl : ds.length = 3 := by rw [← hds, List.length_take, List.length_drop, hcl]; rfl
  have hlen3 : ((ds.drop 1).take 1).length = 1 := by rw [List.length_take, List.length_drop, hdl]; rfl
  obtain ⟨u, hu⟩ := List.length_eq_one_iff.1 hlen3
  rw [hu] at k1
  obtain ⟨B, hs, c, rfl, hl, hC⟩ := nums_open (k1.trans q1)
  have hd : ∀ i, i < 3 → cs'[1 + i]? = ds[i]? := fun i hi => by rw [← hds, List.getElem?_take_of_lt hi, List.getElem?_drop]
  exact ⟨⟨⟨v0, ⟨v1, hs, b⟩⟩, B, c⟩, (hat 0 (by omega)).trans (pick1 g0), (hat 1 (by omega)).trans ((hd 0 (by omega)).trans (pick1 g1)), (hat 2 (by omega)).trans ((hd 1 (by omega)).trans (pick1 hu)), (hat 3 (by omega)).trans ((hd 2 (by omega)).trans (pick1 g3)), hl, hC, w0⟩
end
theorem cells4_get {T : List It} : ∀ {j : Nat} {u : Value}, (cells4 T)[j]? = some u → ∃ i t, T[i]? = some t ∧ ((j = i * 4 ∧ u = .int .u64 t.x.f0) ∨ (j = i * 4 + 1 ∧ u = .int .i64 t.x.f1.f0) ∨ (j = i * 4 + 2 ∧ u = .slice t.A t.x.f1.f1.length t.c) ∨ (j = i * 4 + 3 ∧ u = .string t.x.f1.f2)) := by
  induction T with
  | nil => intro j u h; simp [cells4] at h
  | cons t T ih =>
    intro j u h
    match j, h with
    | 0, h => exact ⟨0, t, rfl, .inl ⟨rfl, by simpa [cells4] using h.symm⟩⟩
    | 1, h => exact ⟨0, t, rfl, .inr (.inl ⟨rfl, by simpa [cells4] using h.symm⟩)⟩
    | 2, h => exact ⟨0, t, rfl, .inr (.inr (.inl ⟨rfl, by simpa [cells4] using h.symm⟩))⟩
    | 3, h => exact ⟨0, t, rfl, .inr (.inr (.inr ⟨rfl, by simpa [cells4] using h.symm⟩))⟩
    | j + 4, h =>
      obtain ⟨i, t', h1, h2⟩ := ih (j := j) (u := u) (by simpa [cells4] using h)
      refine ⟨i + 1, t', by simpa using h1, ?_⟩
      rcases h2 with ⟨e, r⟩ | ⟨e, r⟩ | ⟨e, r⟩ | ⟨e, r⟩
      · exact .inl ⟨by omega, r⟩
      · exact .inr (.inl ⟨by omega, r⟩)
      · exact .inr (.inr (.inl ⟨by omega, r⟩))
      · exact .inr (.inr (.inr ⟨by omega, r⟩))
/-- items as they come in -/
def ItemsIn (W : World) (A : Option Addr) (T : List It) : Prop := Lie W A T ∧ Nums W T ∧ ∀ t ∈ T, (Lit.int .u64 t.x.f0).wf = true
theorem items_open {H : Type} {enc : TypeId × Value → H} {W : World} {ts : List TypeId} {dts : List (DataW H)} {j : Nat} {a : Option Addr} {len cap : Nat} {d : DataW H} {p : List MemPlace}
    (hsz : (DataW.weightsEach Try.prog ts dts).all (· ≤ reachBytes) = true) (htj : ts[j]? = some 54) (hdj : dts[j]? = some d)
    (h : DataW.Trod enc Try.prog W 0 (fun _ => true) true 54 (.slice a len cap) d p) :
    ∃ l : List It, len = l.length ∧ ItemsIn W a l ∧ l.length ≤ cap ∧ l.length ≤ 2513169434843 := by
  obtain ⟨fuel, hf⟩ := h
  rcases open_slice Try.underlying54 hf with ⟨hcs, _⟩ | ⟨x, l, c, m, n, D, Pl, hcs, _, hl, hm, hmm, hx, hi⟩
  · simp [Value.cells] at hcs
    obtain ⟨rfl, rfl, rfl⟩ := hcs
    exact ⟨[], rfl, ⟨fun h => absurd h (by simp), fun t h => absurd h (by simp), fun t h => absurd h (by simp)⟩, Nat.le_refl _, by simp⟩
  · simp [Value.cells] at hcs
    obtain ⟨rfl, rfl, rfl⟩ := hcs
    have hd : d = .slice ((List.range len).map D) ((List.range (m - len)).map fun j => D (len + j)) := congrArg Prod.fst hx
    subst hd
    have z := sized_slice hsz htj hdj Try.underlying54
    rw [show Try.prog.bytesOf 65 = 56 from by kernel_rfl] at z
    have z2 : len * 56 ≤ reachBytes := Nat.le_trans (Nat.mul_le_mul_right _ (by simp)) z
    have hC : Try.prog.cellsOf 65 = 4 := by kernel_rfl
    have hlm : len ≤ m := by rw [hmm]; split <;> omega
    have key : ∀ i, ∃ t : It, i < len → W.cell? (x.add (i * 4 + 0)) = some (.int .u64 t.x.f0) ∧ W.cell? (x.add (i * 4 + 1)) = some (.int .i64 t.x.f1.f0) ∧ W.cell? (x.add (i * 4 + 2)) = some (.slice t.A t.x.f1.f1.length t.c) ∧ W.cell? (x.add (i * 4 + 3)) = some (.string t.x.f1.f2) ∧ t.x.f1.f1.length ≤ t.c ∧ (Kd.int .i32).C W t.A t.x.f1.f1.length t.x.f1.f1 ∧ (Lit.int .u64 t.x.f0).wf = true := by
      intro i
      by_cases hil : i < len
      · obtain ⟨cs', hc, ht⟩ := hi i (by omega)
        rw [hC] at hc
        obtain ⟨t, h0, h1, h2, h3, h4⟩ := item_cells hc ht
        rw [Go.Deep.add_add] at h0 h1 h2 h3
        exact ⟨t, fun _ => ⟨h0, h1, h2, h3, h4⟩⟩
      · exact ⟨z0t, fun h => absurd h hil⟩
    have hall : ∀ t ∈ (List.range len).map (fun i => Classical.choose (key i)), ∃ i, i < len ∧ t = Classical.choose (key i) := fun t ht => by
      obtain ⟨i, h1, h2⟩ := List.mem_map.1 ht
      exact ⟨i, by simpa using h1, h2.symm⟩
    refine ⟨(List.range len).map (fun i => Classical.choose (key i)), by simp, ⟨fun h0 => ⟨x, rfl, fun j u hu => ?_⟩, fun t ht => ?_, fun t ht => ?_⟩, by simpa using hl, ?_⟩
    · obtain ⟨i, t, h1, h2⟩ := cells4_get hu
      have hil : i < len := by have := (List.getElem?_eq_some_iff.1 h1).1; simpa using this
      rw [List.getElem?_map, List.getElem?_range hil, Option.map_some, Option.some.injEq] at h1
      obtain ⟨c0, c1, c2, c3, _⟩ := Classical.choose_spec (key i) hil
      rw [h1] at c0 c1 c2 c3
      rcases h2 with ⟨rfl, rfl⟩ | ⟨rfl, rfl⟩ | ⟨rfl, rfl⟩ | ⟨rfl, rfl⟩
      · exact c0
      · exact c1
      · exact c2
      · exact c3
    · obtain ⟨i, hil, rfl⟩ := hall t ht
      obtain ⟨_, _, _, _, c4, c5, _⟩ := Classical.choose_spec (key i) hil
      exact ⟨c4, c5⟩
    · obtain ⟨i, hil, rfl⟩ := hall t ht
      obtain ⟨_, _, _, _, _, _, c6⟩ := Classical.choose_spec (key i) hil
      exact c6
    · simp only [List.length_map, List.length_range]
      have : reachBytes = 140737488351232 := rfl
      omega
end Go.Proofs.Ytncbnejldlfbdaa.PIdx
