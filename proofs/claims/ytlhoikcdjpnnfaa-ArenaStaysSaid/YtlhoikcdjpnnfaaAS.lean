/- Of any number and any deeds the law ArenaStays answers true, and its arguments read as they did; no condition. -/
import Derived.Test.YtlhoikcdjpnnfaaRows
import Derived.Test.YtlhoikcdjpnnfaaAI
import Derived.Test.YtlhoikcdjpnnfaaAH
import Derived.WalkKit
import Derived.ProofKit
import Derived.OpenShut
import Derived.ShutString
import Derived.ChangeOld
import Derived.Below
import Derived.SizedLaws
import Derived.Carry
import Derived.JoinedCond
namespace Go.Proofs.Ytlhoikcdjpnnfaa.PArena
open Go.RowKit Go.Proofs.YtlhoikcdjpnnfaaW.PrintWords Go.Proofs.YtlhoikcdjpnnfaaW.PrintLast Go.Proofs.YtlhoikcdjpnnfaaW.PrintMore

theorem stays_walk (W : World) (x : Int) (_ : (Lit.int .i64 x).wf = true) (A : Option Addr) (c : Nat) (l : List Deed) (hr : Deeds W A l.length l) (hc : l.length ≤ c) (hy : l.length * 24 ≤ 140737488351232) :
    Calls Try.prog 5 #[.int .i64 x, .slice A l.length c] W fun e w' => e = .returned (.bool true) ∧ Below W.heap.size W w' := stays_calls x A c l W hr hc (by omega)
end Go.Proofs.Ytlhoikcdjpnnfaa.PArena
namespace Go.Proofs.Ytlhoikcdjpnnfaa.arenaStays
open Go.ChangeShapes Go.WideShapes Go.ChangeAt Go.RowKit Go.Proofs.YtlhoikcdjpnnfaaW.PrintWords
open Go.ChangeMaps (open_string shut_string)
set_option linter.unusedVariables false
theorem own : ownKnob Try.prog.godebug = none := by kernel_rfl
theorem laidOut : laidOutB Try.prog = true := by kernel_rfl
set_option maxRecDepth 100000 in
theorem lifted (os : Os) (started : os.Started) (H : Type) (enc : TypeId × Value → H) :
    ReturnsInHanded {} Try.checked os 5 .any (Rows.arenaStaysSpec.pre6 enc Try.prog Try.f5 Rows.arenaStaysRow.domain false) (Rows.arenaStaysSpec.post enc Try.prog Try.f5 false true false false) := by
  refine returnsInHanded_of_change_sized (C := Try.checked) own started (by kernel_rfl) Try.func5
    (ChangeSpec.witness6 (enc := enc) (C := Try.checked) false ⟨#[], #[.int .i64 0, .slice none 0 0], []⟩ 8 (by kernel_rfl) (by kernel_rfl) (by kernel_rfl) (by kernel_rfl)) ?_
  intro W base args ds gs before hval0 hW hcnd hsz0 _
  have hsz : (DataW.weightsEach Try.prog (Try.f5.params.toList ++ Rows.arenaStaysSpec.plain.varTypes Try.prog) (ds ++ gs)).all (· ≤ reachBytes) = true := hsz0
  have hval : ∀ (j : Nat) t v, Try.f5.params[j]? = some t → args[j]? = some v → Value.okWide Try.prog W .any base t v := hval0
  have hW' := hW
  obtain ⟨p, q, hA0, hV, rfl, hfz, hnd⟩ := hW
  have hA : DataW.TrodAll enc Try.prog W 0 (fun _ => true) true Try.f5.params.toList args.toList ds p := hA0
  rw [Try.params5] at hA hval hsz
  obtain ⟨v0, vs0, d0, ds0, p0, q0, hargs, rfl, rfl, h0, r0⟩ := trodAll_cons hA
  obtain ⟨v1, vs1, d1, ds1, p1, q1, rfl, rfl, rfl, h1, r1⟩ := trodAll_cons r0
  obtain ⟨rfl, rfl, rfl⟩ := trodAll_nil r1
  obtain rfl : args = #[v0, v1] := by cases args; simp_all
  obtain ⟨rfl, rfl⟩ := trodVars_none hV
  obtain ⟨a0, rfl, rfl, rfl, w0⟩ := open_int Try.underlying3 (hval 0 3 v0 rfl rfl) h0
  obtain ⟨a1, len1, cap1, rfl⟩ := okWide_slice Try.underlying32 (hval 1 32 v1 rfl rfl)
  have k1 := h1
  have lt1 : ∀ x ∈ p1, x.block < W.heap.size := by obtain ⟨m, hm⟩ := k1; exact DataW.trod_lt m _ _ _ hm
  obtain ⟨l1, rfl, hr1, hc1, y1⟩ := PArena.deeds_open hsz (j := 1) rfl rfl h1
  clear hA0 hval0 hsz0 hsz
  refine (PArena.stays_walk W a0 w0 a1 cap1 l1 hr1 hc1 y1).mono fun e W' ⟨he, bel⟩ => ?_
  subst he
  exact ⟨_, rfl, _, _, _, [], _, [], hW', trodAll_mk1 (shut_bool Try.underlying4 _), (trodAll_cons_mk (shut_int Try.underlying3 w0) (trodAll_cons_mk (Below.trod laidOut (by kernel_rfl) (of_decide_eq_true (by kernel_rfl)) k1 bel lt1) trodAll_mk0)), rfl, bel.frame _, fun h => by cases h⟩
theorem over : Rows.arenaStaysRow.holds Try.pinned (OpenSpec.ofChange Rows.arenaStaysSpec) :=
  OpenClaim.holds_of_wide 5 Try.f5 rfl rfl rfl rfl rfl rfl rfl ⟨rfl, rfl, rfl, rfl, rfl⟩ rfl rfl rfl rfl rfl (by kernel_rfl) Try.func5 (by kernel_rfl)
    (of_decide_eq_true (by kernel_rfl)) (by unfold Func.isWrapper; first | (rw [if_pos (by decide +kernel)]; kernel_rfl) | (rw [if_neg (by decide +kernel)]; exact ⟨rfl, rfl⟩))
    (fun os started H enc _ => lifted os started H enc)
theorem proved : Rows.ArenaStaysSaid := over
end Go.Proofs.Ytlhoikcdjpnnfaa.arenaStays
namespace Go.Proofs.Ytlhoikcdjpnnfaa
theorem arenaStays_holds : Rows.ArenaStaysSaid := arenaStays.proved
#print axioms arenaStays_holds
end Go.Proofs.Ytlhoikcdjpnnfaa
