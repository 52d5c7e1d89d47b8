/- Of any numbers and any bounds the law DrawsPick answers true, and its arguments read as they did; no condition. -/
import Derived.Test.YtlhoikcdjpnnfaaRows
import Derived.Test.YtlhoikcdjpnnfaaWSized
import Derived.Test.YtlhoikcdjpnnfaaDF
import Derived.Test.YtlhoikcdjpnnfaaDE
import Derived.WalkKit
import Derived.ProofKit
import Derived.OpenShut
import Derived.ShutString
import Derived.ChangeOld
import Derived.Below
import Derived.SizedLaws
import Derived.Carry
import Derived.JoinedCond
namespace Go.Proofs.Ytlhoikcdjpnnfaa.PDraws
open Go.RowKit Go.Proofs.YtlhoikcdjpnnfaaW.PrintWords Go.Proofs.YtlhoikcdjpnnfaaW.PrintLast Go.Proofs.YtlhoikcdjpnnfaaW.PrintMore

theorem used_f (l : List Int) (u : Int) : draws_Source_Used.f l u = some (u, u) := rfl
theorem pick_l0 (l m : List Int) (hl : ∀ x ∈ l, inI x) (hm : ∀ x ∈ m, inI x) (hn : m.length ≤ 17592186044416) (d : Nat) : ∀ i u : Nat, i + d = m.length → u ≤ i → Ev (fun k => waywiserlaw16_DrawsPick.l0 k l m (u : Int) (i : Int) l (u : Int)) true := by
  induction d with
  | zero =>
    intro i u hi hu
    refine Ev.step (f := fun _ => some true) (fun k => ?_) (Ev.now _)
    simp only [waywiserlaw16_DrawsPick.l0]; rw [if_neg (by omega)]
  | succ d ih =>
    intro i u hi hu
    have hlt : i < m.length := by omega
    have hx : inI (rd m (i : Int)) := by
      unfold rd
      rw [Int.toNat_natCast, List.getD_eq_getElem?_getD, List.getElem?_eq_getElem hlt, Option.getD_some]
      exact hm _ (List.getElem_mem hlt)
    generalize hxe : rd m (i : Int) = x at hx
    refine Ev.step (f := fun k => waywiserlaw16_DrawsPick.j1 k l m (u : Int) (i : Int) (0 != 0) l (if x < 1 then (u : Int) else wrap64 ((u : Int) + 1))) (fun k => ?_) ?_
    · simp only [waywiserlaw16_DrawsPick.l0]
      rw [if_pos (by omega), at_f, Option.bind_some, if_pos (by omega), hxe, rmod_f _ _ (at_inI l hl u) hx, Option.bind_some, pick_f l u x hx, Option.bind_some, if_pos rfl]
    · by_cases h1 : x < 1
      · refine Ev.step (f := fun k => waywiserlaw16_DrawsPick.l0 k l m (u : Int) ((i + 1 : Nat) : Int) l (u : Int)) (fun k => ?_) (ih (i + 1) u (by omega) (by omega))
        simp only [waywiserlaw16_DrawsPick.j1]
        rw [if_neg (by decide), if_pos (by omega), if_pos (by omega), hxe, if_neg (by omega), if_pos h1, used_f, Option.bind_some, if_pos rfl, if_pos trivial, show wrap64 ((i : Int) + 1) = ((i + 1 : Nat) : Int) from by rw [wrap_in _ (by omega) (by omega)]; omega]
      · refine Ev.step (f := fun k => waywiserlaw16_DrawsPick.l0 k l m ((u + 1 : Nat) : Int) ((i + 1 : Nat) : Int) l ((u + 1 : Nat) : Int)) (fun k => ?_) (ih (i + 1) (u + 1) (by omega) (by omega))
        simp only [waywiserlaw16_DrawsPick.j1]
        rw [if_neg (by decide), if_pos (by omega), if_pos (by omega), hxe, if_pos (by omega), if_neg h1, used_f, Option.bind_some, show wrap64 ((u : Int) + 1) = ((u + 1 : Nat) : Int) from by rw [wrap_in _ (by omega) (by omega)]; omega, if_pos rfl, if_pos trivial, show wrap64 ((i : Int) + 1) = ((i + 1 : Nat) : Int) from by rw [wrap_in _ (by omega) (by omega)]; omega]
theorem pick_walk (W : World) (A : Option Addr) (c : Nat) (l : List Int) (hr : Kd.C (Kd.int .i64) W A l.length l) (hc : l.length ≤ c) (hw : ∀ x ∈ l, (Lit.int .i64 x).wf = true) (hy : l.length * 8 ≤ 140737488351232)
    (B : Option Addr) (d : Nat) (m : List Int) (hr1 : Kd.C (Kd.int .i64) W B m.length m) (hd : m.length ≤ d) (hw1 : ∀ x ∈ m, (Lit.int .i64 x).wf = true) (hy1 : m.length * 8 ≤ 140737488351232) :
    Calls Try.prog 3 #[.slice A l.length c, .slice B m.length d] W fun e w' => e = .returned (.bool true) ∧ Below W.heap.size W w' := by
  obtain ⟨k, h⟩ := (pick_l0 l m (fun x hx => inI_of (hw x hx)) (fun x hx => inI_of (hw1 x hx)) (by omega) m.length 0 0 (by omega) (by omega)).rounds
  refine (waywiserlaw16_DrawsPick.calls k A c l B d m true W hr hc hr1 hd (by omega) h).mono ?_
  rintro e w' ⟨rfl, wB, h0, h1⟩
  exact ⟨rfl, below_step h0 h1⟩
end Go.Proofs.Ytlhoikcdjpnnfaa.PDraws
namespace Go.Proofs.Ytlhoikcdjpnnfaa.drawsPick
open Go.ChangeShapes Go.WideShapes Go.ChangeAt Go.RowKit Go.Proofs.YtlhoikcdjpnnfaaW.PrintWords
open Go.ChangeMaps (open_string shut_string)
set_option linter.unusedVariables false
theorem own : ownKnob Try.prog.godebug = none := by kernel_rfl
theorem laidOut : laidOutB Try.prog = true := by kernel_rfl
def IsRow (k : IntKind) (w : World) (a : Option Addr) (len cap : Nat) (zs : List Int) : Prop :=
  (a = none ∧ len = 0 ∧ cap = 0 ∧ zs = []) ∨
  ∃ x, a = some x ∧ len ≤ cap ∧ cap ≤ maxLen ∧ zs.length = cap ∧ (∀ i, i < zs.length → w.cell? (x.add i) = some (.int k (zs.getD i 0))) ∧ ∀ n ∈ zs, (Lit.int k n).wf = true
set_option maxRecDepth 100000 in
theorem lifted (os : Os) (started : os.Started) (H : Type) (enc : TypeId × Value → H) :
    ReturnsInHanded {} Try.checked os 3 .any (Rows.drawsPickSpec.pre6 enc Try.prog Try.f3 Rows.drawsPickRow.domain false) (Rows.drawsPickSpec.post enc Try.prog Try.f3 false true false false) := by
  refine returnsInHanded_of_change_sized (C := Try.checked) own started (by kernel_rfl) Try.func3
    (ChangeSpec.witness6 (enc := enc) (C := Try.checked) false ⟨#[], #[.slice none 0 0, .slice none 0 0], []⟩ 8 (by kernel_rfl) (by kernel_rfl) (by kernel_rfl) (by kernel_rfl)) ?_
  intro W base args ds gs before hval0 hW hcnd hsz0 _
  have hsz : (DataW.weightsEach Try.prog (Try.f3.params.toList ++ Rows.drawsPickSpec.plain.varTypes Try.prog) (ds ++ gs)).all (· ≤ reachBytes) = true := hsz0
  have hval : ∀ (j : Nat) t v, Try.f3.params[j]? = some t → args[j]? = some v → Value.okWide Try.prog W .any base t v := hval0
  have hW' := hW
  obtain ⟨p, q, hA0, hV, rfl, hfz, hnd⟩ := hW
  have hA : DataW.TrodAll enc Try.prog W 0 (fun _ => true) true Try.f3.params.toList args.toList ds p := hA0
  rw [Try.params3] at hA hval hsz
  obtain ⟨v0, vs0, d0, ds0, p0, q0, hargs, rfl, rfl, h0, r0⟩ := trodAll_cons hA
  obtain ⟨v1, vs1, d1, ds1, p1, q1, rfl, rfl, rfl, h1, r1⟩ := trodAll_cons r0
  obtain ⟨rfl, rfl, rfl⟩ := trodAll_nil r1
  obtain rfl : args = #[v0, v1] := by cases args; simp_all
  obtain ⟨rfl, rfl⟩ := trodVars_none hV
  obtain ⟨a0, len0, cap0, rfl⟩ := okWide_slice Try.underlying22 (hval 0 22 v0 rfl rfl)
  have k0 := h0
  have lt0 : ∀ x ∈ p0, x.block < W.heap.size := by obtain ⟨m, hm⟩ := k0; exact DataW.trod_lt m _ _ _ hm
  obtain ⟨z0, w0⟩ : ∃ zs, IsRow .i64 W a0 len0 cap0 zs := by
    obtain ⟨fuel, hf⟩ := h0
    rcases open_ints Try.underlying22 Try.underlying3 (by kernel_rfl) hf with ⟨hcs, _⟩ | ⟨x, l, c, zs, hcs, _, hl, hm, hz, hx, hcell, hwz⟩
    · simp [Value.cells] at hcs
      obtain ⟨rfl, rfl, rfl⟩ := hcs
      exact ⟨[], .inl ⟨rfl, rfl, rfl, rfl⟩⟩
    · simp [Value.cells] at hcs
      obtain ⟨rfl, rfl, rfl⟩ := hcs
      exact ⟨zs, .inr ⟨_, rfl, hl, hm, by simpa using hz, hcell, hwz⟩⟩
  have y0 : len0 * 8 ≤ 140737488351232 := sized_ints hsz (j := 0) (t := 22) rfl rfl Try.underlying22 Try.underlying3 (by kernel_rfl) (by kernel_rfl) h0
  obtain ⟨l0, rfl, hr0, hm0, hw0, hc0⟩ := ReadsInt.ofRowC w0
  obtain ⟨a1, len1, cap1, rfl⟩ := okWide_slice Try.underlying22 (hval 1 22 v1 rfl rfl)
  have k1 := h1
  have lt1 : ∀ x ∈ p1, x.block < W.heap.size := by obtain ⟨m, hm⟩ := k1; exact DataW.trod_lt m _ _ _ hm
  obtain ⟨z1, w1⟩ : ∃ zs, IsRow .i64 W a1 len1 cap1 zs := by
    obtain ⟨fuel, hf⟩ := h1
    rcases open_ints Try.underlying22 Try.underlying3 (by kernel_rfl) hf with ⟨hcs, _⟩ | ⟨x, l, c, zs, hcs, _, hl, hm, hz, hx, hcell, hwz⟩
    · simp [Value.cells] at hcs
      obtain ⟨rfl, rfl, rfl⟩ := hcs
      exact ⟨[], .inl ⟨rfl, rfl, rfl, rfl⟩⟩
    · simp [Value.cells] at hcs
      obtain ⟨rfl, rfl, rfl⟩ := hcs
      exact ⟨zs, .inr ⟨_, rfl, hl, hm, by simpa using hz, hcell, hwz⟩⟩
  have y1 : len1 * 8 ≤ 140737488351232 := sized_ints hsz (j := 1) (t := 22) rfl rfl Try.underlying22 Try.underlying3 (by kernel_rfl) (by kernel_rfl) h1
  obtain ⟨l1, rfl, hr1, hm1, hw1, hc1⟩ := ReadsInt.ofRowC w1
  clear hA0 hval0 hsz0 hsz
  refine (PDraws.pick_walk W a0 cap0 l0 (Kd.C_of_reads (d := (0 : Int)) (h1 := fun _ => rfl) hr0) hc0 hw0 y0 a1 cap1 l1 (Kd.C_of_reads (d := (0 : Int)) (h1 := fun _ => rfl) hr1) hc1 hw1 y1).mono fun e W' ⟨he, bel⟩ => ?_
  subst he
  exact ⟨_, rfl, _, _, _, [], _, [], hW', trodAll_mk1 (shut_bool Try.underlying4 _), (trodAll_cons_mk (Below.trod laidOut (by kernel_rfl) (of_decide_eq_true (by kernel_rfl)) k0 bel lt0) (trodAll_cons_mk (Below.trod laidOut (by kernel_rfl) (of_decide_eq_true (by kernel_rfl)) k1 bel lt1) trodAll_mk0)), rfl, bel.frame _, fun h => by cases h⟩
theorem over : Rows.drawsPickRow.holds Try.pinned (OpenSpec.ofChange Rows.drawsPickSpec) :=
  OpenClaim.holds_of_wide 3 Try.f3 rfl rfl rfl rfl rfl rfl rfl ⟨rfl, rfl, rfl, rfl, rfl⟩ rfl rfl rfl rfl rfl (by kernel_rfl) Try.func3 (by kernel_rfl)
    (of_decide_eq_true (by kernel_rfl)) (by unfold Func.isWrapper; first | (rw [if_pos (by decide +kernel)]; kernel_rfl) | (rw [if_neg (by decide +kernel)]; exact ⟨rfl, rfl⟩))
    (fun os started H enc _ => lifted os started H enc)
theorem proved : Rows.DrawsPickSaid := over
end Go.Proofs.Ytlhoikcdjpnnfaa.drawsPick
namespace Go.Proofs.Ytlhoikcdjpnnfaa
theorem drawsPick_holds : Rows.DrawsPickSaid := drawsPick.proved
#print axioms drawsPick_holds
end Go.Proofs.Ytlhoikcdjpnnfaa
