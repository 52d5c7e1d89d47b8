/- Of any start and any bytes the law CheckSums answers true, and its arguments read as they did; no condition. -/
import Derived.Test.YtlikohaeiehocaaRows
import Derived.Test.YtlikohaeiehocaaWSized
import Derived.Test.YtlikohaeiehocaaKN
import Derived.Test.YtlikohaeiehocaaKG
import Derived.WalkKit
import Derived.ProofKit
import Derived.OpenShut
import Derived.ShutString
import Derived.ChangeOld
import Derived.Below
import Derived.SizedLaws
import Derived.Carry
import Derived.JoinedCond
namespace Go.Proofs.Ytlikohaeiehocaa.PCheck
open Go.RowKit Go.Proofs.YtlikohaeiehocaaW.PrintWords Go.Proofs.YtlikohaeiehocaaW.PrintLast Go.Proofs.YtlikohaeiehocaaW.PrintMore
open Go.Proofs.Ytlikohaeiehocaa.MCheck
theorem isB_of {l : List Int} (h : ∀ x ∈ l, (Lit.int .u8 x).wf = true) : isB l := fun x hx => by
  have := h x hx
  have h2 : 0 ≤ x ∧ x ≤ 255 := by simpa [Lit.wf, IntKind.min, IntKind.max, IntKind.signed, IntKind.bits] using this
  omega
theorem sums_walk (W : World) (h0 : Int) (w0 : (Lit.int .u64 h0).wf = true) (A : Option Addr) (c : Nat) (l : List Int) (hr : Kd.C (Kd.int .u8) W A l.length l) (hc : l.length ≤ c) (hw : ∀ x ∈ l, (Lit.int .u8 x).wf = true) (hy : l.length * 1 ≤ 140737488351232) :
    Calls Try.prog 3 #[.int .u64 h0, .slice A l.length c] W fun e w' => e = .returned (.bool true) ∧ Below W.heap.size W w' := by
  have hl := isB_of hw
  have hh : 0 ≤ h0 ∧ h0 ≤ 18446744073709551615 := by simpa [Lit.wf, IntKind.min, IntKind.max, IntKind.signed, IntKind.bits] using w0
  obtain ⟨h, rfl⟩ : ∃ h : Nat, h0 = (h : Int) := ⟨h0.toNat, by omega⟩
  have hs := sealed_length l
  have ho : (opened l).1.length ≤ l.length := by
    unfold opened
    split
    · simp
    · split
      · simp only [List.length_take]; omega
      · simp
  obtain ⟨K1, a1⟩ := open_f l hl (by omega)
  obtain ⟨K2, a2⟩ := ropen_f l hl (by omega)
  obtain ⟨K3, a3⟩ := more_f h (by omega) l hl (by omega)
  obtain ⟨K4, a4⟩ := rmore_f h (by omega) l hl (by omega)
  obtain ⟨K5, a5⟩ := of_f l hl (by omega)
  obtain ⟨K6, a6⟩ := rof_f l hl (by omega)
  obtain ⟨K7, a7⟩ := seal_f l hl (by omega)
  obtain ⟨K8, a8⟩ := rseal_f l hl (by omega)
  obtain ⟨K9, a9⟩ := same_f (sealed l) (sealed l) (by omega)
  obtain ⟨K10, a10⟩ := same_f (opened l).1 (opened l).1 (by omega)
  obtain ⟨K11, a11⟩ := lives_f
  rw [decide_eq_true rfl] at a9 a10
  obtain ⟨k, k1, k2, k3, k4, k5, k6, k7, k8, k9, k10, k11⟩ : ∃ k, K1 ≤ k ∧ K2 ≤ k ∧ K3 ≤ k ∧ K4 ≤ k ∧ K5 ≤ k ∧ K6 ≤ k ∧ K7 ≤ k ∧ K8 ≤ k ∧ K9 ≤ k ∧ K10 ≤ k ∧ K11 ≤ k :=
    ⟨K1 + K2 + K3 + K4 + K5 + K6 + K7 + K8 + K9 + K10 + K11, by omega, by omega, by omega, by omega, by omega, by omega, by omega, by omega, by omega, by omega, by omega⟩
  exact sums_calls k (h : Int) A c l W hr hc (opened l).1 (opened l).2 _ _ _ (a1 k k1) (a2 k k2) (a3 k k3) (a4 k k4) (a5 k k5) (a6 k k6) (a7 k k7) (a8 k k8) (a9 k k9) (a10 k k10) (a11 k k11)
end Go.Proofs.Ytlikohaeiehocaa.PCheck
namespace Go.Proofs.Ytlikohaeiehocaa.checkSums
open Go.ChangeShapes Go.WideShapes Go.ChangeAt Go.RowKit Go.Proofs.YtlikohaeiehocaaW.PrintWords
open Go.ChangeMaps (open_string shut_string)
set_option linter.unusedVariables false
theorem own : ownKnob Try.prog.godebug = none := by kernel_rfl
theorem laidOut : laidOutB Try.prog = true := by kernel_rfl
def IsRow (k : IntKind) (w : World) (a : Option Addr) (len cap : Nat) (zs : List Int) : Prop :=
  (a = none ∧ len = 0 ∧ cap = 0 ∧ zs = []) ∨
  ∃ x, a = some x ∧ len ≤ cap ∧ cap ≤ maxLen ∧ zs.length = cap ∧ (∀ i, i < zs.length → w.cell? (x.add i) = some (.int k (zs.getD i 0))) ∧ ∀ n ∈ zs, (Lit.int k n).wf = true
set_option maxRecDepth 100000 in
theorem lifted (os : Os) (started : os.Started) (H : Type) (enc : TypeId × Value → H) :
    ReturnsInHanded {} Try.checked os 3 .any (Rows.checkSumsSpec.pre6 enc Try.prog Try.f3 Rows.checkSumsRow.domain false) (Rows.checkSumsSpec.post enc Try.prog Try.f3 false true false false) := by
  refine returnsInHanded_of_change_sized (C := Try.checked) own started (by kernel_rfl) Try.func3
    (ChangeSpec.witness6 (enc := enc) (C := Try.checked) false ⟨#[], #[.int .u64 0, .slice none 0 0], []⟩ 8 (by kernel_rfl) (by kernel_rfl) (by kernel_rfl) (by kernel_rfl)) ?_
  intro W base args ds gs before hval0 hW hcnd hsz0 _
  have hsz : (DataW.weightsEach Try.prog (Try.f3.params.toList ++ Rows.checkSumsSpec.plain.varTypes Try.prog) (ds ++ gs)).all (· ≤ reachBytes) = true := hsz0
  have hval : ∀ (j : Nat) t v, Try.f3.params[j]? = some t → args[j]? = some v → Value.okWide Try.prog W .any base t v := hval0
  have hW' := hW
  obtain ⟨p, q, hA0, hV, rfl, hfz, hnd⟩ := hW
  have hA : DataW.TrodAll enc Try.prog W 0 (fun _ => true) true Try.f3.params.toList args.toList ds p := hA0
  rw [Try.params3] at hA hval hsz
  obtain ⟨v0, vs0, d0, ds0, p0, q0, hargs, rfl, rfl, h0, r0⟩ := trodAll_cons hA
  obtain ⟨v1, vs1, d1, ds1, p1, q1, rfl, rfl, rfl, h1, r1⟩ := trodAll_cons r0
  obtain ⟨rfl, rfl, rfl⟩ := trodAll_nil r1
  obtain rfl : args = #[v0, v1] := by cases args; simp_all
  obtain ⟨rfl, rfl⟩ := trodVars_none hV
  obtain ⟨a0, rfl, rfl, rfl, w0⟩ := open_int Try.underlying22 (hval 0 22 v0 rfl rfl) h0
  obtain ⟨a1, len1, cap1, rfl⟩ := okWide_slice Try.underlying23 (hval 1 23 v1 rfl rfl)
  have k1 := h1
  have lt1 : ∀ x ∈ p1, x.block < W.heap.size := by obtain ⟨m, hm⟩ := k1; exact DataW.trod_lt m _ _ _ hm
  obtain ⟨z1, w1⟩ : ∃ zs, IsRow .u8 W a1 len1 cap1 zs := by
    obtain ⟨fuel, hf⟩ := h1
    rcases open_ints Try.underlying23 Try.underlying5 (by kernel_rfl) hf with ⟨hcs, _⟩ | ⟨x, l, c, zs, hcs, _, hl, hm, hz, hx, hcell, hwz⟩
    · simp [Value.cells] at hcs
      obtain ⟨rfl, rfl, rfl⟩ := hcs
      exact ⟨[], .inl ⟨rfl, rfl, rfl, rfl⟩⟩
    · simp [Value.cells] at hcs
      obtain ⟨rfl, rfl, rfl⟩ := hcs
      exact ⟨zs, .inr ⟨_, rfl, hl, hm, by simpa using hz, hcell, hwz⟩⟩
  have y1 : len1 * 1 ≤ 140737488351232 := sized_ints hsz (j := 1) (t := 23) rfl rfl Try.underlying23 Try.underlying5 (by kernel_rfl) (by kernel_rfl) h1
  obtain ⟨l1, rfl, hr1, hm1, hw1, hc1⟩ := ReadsInt.ofRowC w1
  clear hA0 hval0 hsz0 hsz
  refine (PCheck.sums_walk W a0 w0 a1 cap1 l1 (Kd.C_of_reads (d := (0 : Int)) (h1 := fun _ => rfl) hr1) hc1 hw1 y1).mono fun e W' ⟨he, bel⟩ => ?_
  subst he
  exact ⟨_, rfl, _, _, _, [], _, [], hW', trodAll_mk1 (shut_bool Try.underlying4 _), (trodAll_cons_mk (shut_int Try.underlying22 w0) (trodAll_cons_mk (Below.trod laidOut (by kernel_rfl) (of_decide_eq_true (by kernel_rfl)) k1 bel lt1) trodAll_mk0)), rfl, bel.frame _, fun h => by cases h⟩
theorem over : Rows.checkSumsRow.holds Try.pinned (OpenSpec.ofChange Rows.checkSumsSpec) :=
  OpenClaim.holds_of_wide 3 Try.f3 rfl rfl rfl rfl rfl rfl rfl ⟨rfl, rfl, rfl, rfl, rfl⟩ rfl rfl rfl rfl rfl (by kernel_rfl) Try.func3 (by kernel_rfl)
    (of_decide_eq_true (by kernel_rfl)) (by unfold Func.isWrapper; first | (rw [if_pos (by decide +kernel)]; kernel_rfl) | (rw [if_neg (by decide +kernel)]; exact ⟨rfl, rfl⟩))
    (fun os started H enc _ => lifted os started H enc)
theorem proved : Rows.CheckSumsSaid := over
end Go.Proofs.Ytlikohaeiehocaa.checkSums
namespace Go.Proofs.Ytlikohaeiehocaa
theorem checkSums_holds : Rows.CheckSumsSaid := checkSums.proved
#print axioms checkSums_holds
end Go.Proofs.Ytlikohaeiehocaa
