/- Of any graph the law FrontRises answers true, and its argument reads as it did; no condition. -/
import Derived.Test.YtncbnejldlfbdaaRows
import Derived.Test.YtncbnejldlfbdaaGJ
import Derived.WalkKit
import Derived.ProofKit
import Derived.OpenShut
import Derived.ShutString
import Derived.ChangeOld
import Derived.Below
import Derived.SizedLaws
import Derived.Carry
import Derived.JoinedCond
import Derived.Lib.SmallJoins
import Derived.Deep.Slices
import Derived.Deep.Fields
namespace Go.Proofs.Ytncbnejldlfbdaa.PHeap
open Go.RowKit Go.ChangeShapes Go.WideShapes Go.Joins Go.Deep Go.Proofs.YtncbnejldlfbdaaW.PrintWords Go.Proofs.YtncbnejldlfbdaaW.PrintLast Go.Proofs.YtncbnejldlfbdaaW.PrintMore

set_option maxRecDepth 100000 in
theorem rises_walk (W : World) (A0 A1 : Option Addr) (es : List Ent) (bs : List (List Ent)) (c0 c1 : Nat) (he : Ents W A0 es) (hb : Behind W A1 bs) (hl : es.length ≤ c0) (hm : c0 ≤ maxLen) (hbl : bs.length ≤ 9223372036854775807) :
    Calls Try.prog 4 #[.agg #[.slice A0 es.length c0, .slice A1 bs.length c1]] W fun e w' => e = .returned (.bool true) ∧ Below W.heap.size W w' := rises_calls A0 A1 es bs c0 c1 W he hb hl hm hbl
end Go.Proofs.Ytncbnejldlfbdaa.PHeap
namespace Go.Proofs.Ytncbnejldlfbdaa.frontRises
open Go.ChangeShapes Go.WideShapes Go.ChangeAt Go.RowKit Go.Proofs.YtncbnejldlfbdaaW.PrintWords
open Go.ChangeMaps (open_string shut_string)
set_option linter.unusedVariables false
theorem own : ownKnob Try.prog.godebug = none := by kernel_rfl
theorem laidOut : laidOutB Try.prog = true := by kernel_rfl
set_option maxRecDepth 100000 in
theorem lifted (os : Os) (started : os.Started) (H : Type) (enc : TypeId × Value → H) :
    ReturnsInHanded {} Try.checked os 4 .any (Rows.frontRisesSpec.pre6 enc Try.prog Try.f4 Rows.frontRisesRow.domain false) (Rows.frontRisesSpec.post enc Try.prog Try.f4 false true false false) := by
  refine returnsInHanded_of_change_sized (C := Try.checked) own started (by kernel_rfl) Try.func4
    (ChangeSpec.witness6 (enc := enc) (C := Try.checked) false ⟨#[], #[.agg #[.slice none 0 0, .slice none 0 0]], []⟩ 8 (by kernel_rfl) (by kernel_rfl) (by kernel_rfl) (by kernel_rfl)) ?_
  intro W base args ds gs before hval0 hW hcnd hsz0 _
  have hsz : (DataW.weightsEach Try.prog (Try.f4.params.toList ++ Rows.frontRisesSpec.plain.varTypes Try.prog) (ds ++ gs)).all (· ≤ reachBytes) = true := hsz0
  have hval : ∀ (j : Nat) t v, Try.f4.params[j]? = some t → args[j]? = some v → Value.okWide Try.prog W .any base t v := hval0
  have hW' := hW
  obtain ⟨p, q, hA0, hV, rfl, hfz, hnd⟩ := hW
  have hA : DataW.TrodAll enc Try.prog W 0 (fun _ => true) true Try.f4.params.toList args.toList ds p := hA0
  rw [Try.params4] at hA hval hsz
  obtain ⟨v0, vs0, d0, ds0, p0, q0, hargs, rfl, rfl, h0, r0⟩ := trodAll_cons hA
  obtain ⟨rfl, rfl, rfl⟩ := trodAll_nil r0
  obtain rfl : args = #[v0] := by cases args; simp_all
  obtain ⟨rfl, rfl⟩ := trodVars_none hV
  have k0 := h0
  have lt0 : ∀ x ∈ p0, x.block < W.heap.size := by obtain ⟨m, hm⟩ := k0; exact DataW.trod_lt m _ _ _ hm
  obtain ⟨A0, A1, es, bs, c0, c1, rfl, he, hb, hl, hm, hbl⟩ := PHeap.graph_open (hval 0 43 v0 rfl rfl) h0
  clear hA0 hval0 hsz0 hsz
  refine (PHeap.rises_walk W A0 A1 es bs c0 c1 he hb hl hm hbl).mono fun e W' ⟨he, bel⟩ => ?_
  subst he
  exact ⟨_, rfl, _, _, _, [], _, [], hW', trodAll_mk1 (shut_bool Try.underlying4 _), (trodAll_cons_mk (Below.trod laidOut (by kernel_rfl) (of_decide_eq_true (by kernel_rfl)) k0 bel lt0) trodAll_mk0), rfl, bel.frame _, fun h => by cases h⟩
theorem over : Rows.frontRisesRow.holds Try.pinned (OpenSpec.ofChange Rows.frontRisesSpec) :=
  OpenClaim.holds_of_wide 4 Try.f4 rfl rfl rfl rfl rfl rfl rfl ⟨rfl, rfl, rfl, rfl, rfl⟩ rfl rfl rfl rfl rfl (by kernel_rfl) Try.func4 (by kernel_rfl)
    (of_decide_eq_true (by kernel_rfl)) (by unfold Func.isWrapper; first | (rw [if_pos (by decide +kernel)]; kernel_rfl) | (rw [if_neg (by decide +kernel)]; exact ⟨rfl, rfl⟩))
    (fun os started H enc _ => lifted os started H enc)
theorem proved : Rows.FrontRisesSaid := over
end Go.Proofs.Ytncbnejldlfbdaa.frontRises
namespace Go.Proofs.Ytncbnejldlfbdaa
theorem frontRises_holds : Rows.FrontRisesSaid := frontRises.proved
#print axioms frontRises_holds
end Go.Proofs.Ytncbnejldlfbdaa
