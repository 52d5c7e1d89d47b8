/- Of any two texts that are together of bulk at most 1048576, and any number, the law HamTells answers true, and its arguments read as they did. -/
import Derived.Test.YtlkjkfloodbkoaaBulk
import Derived.Test.YtlkjkfloodbkoaaHD
import Derived.Test.YtlkjkfloodbkoaaHU
import Derived.WalkKit
import Derived.ProofKit
import Derived.OpenShut
import Derived.ShutString
import Derived.ChangeOld
import Derived.Below
import Derived.JoinedCond
namespace Go.Proofs.Ytlkjkfloodbkoaa.PHam
open Go.RowKit Go.Proofs.YtlkjkfloodbkoaaW.PrintWords Go.Proofs.YtlkjkfloodbkoaaW.PrintLast Go.Proofs.YtlkjkfloodbkoaaW.PrintMore
open Go.Proofs.Ytlkjkfloodbkoaa.MHam
theorem pl_mono (a b : ByteArray) (i d : Nat) : (pl a b i).length ≤ (pl a b (i + d)).length := by
  induction d with
  | zero => exact Nat.le_refl _
  | succ d ih => rw [← Nat.add_assoc]; simp only [pl, List.length_append]; omega
/-- what ham.Upto answers -/
def tells (a b : ByteArray) (most : Int) : Int × Bool := if ((dist a b : Nat) : Int) ≤ most then (((dist a b : Nat) : Int), true) else (0, false)
theorem upto_l0 (a b : ByteArray) (most : Int) (n L : Nat) (ha : n ≤ a.size) (hb : n ≤ b.size) (hn : n ≤ 1048576) (hL : L ≤ 1048576) (hd : L + (pl a b n).length = dist a b) (d : Nat) : ∀ (k i : Nat), i + d = n → d < k →
    ham_Upto.l0 k a b most ((L + (pl a b i).length : Nat) : Int) (n : Int) (i : Int) = some (tells a b most) := by
  induction d with
  | zero =>
    intro k i hi hk
    obtain ⟨k, rfl⟩ : ∃ m, k = m + 1 := ⟨k - 1, by omega⟩
    obtain rfl : i = n := by omega
    simp only [ham_Upto.l0]; rw [if_neg (by omega), hd]
    unfold tells
    by_cases h : ((dist a b : Nat) : Int) ≤ most
    · rw [if_pos h, if_neg (by omega)]
    · rw [if_neg h, if_pos (by omega)]
  | succ d ih =>
    intro k i hi hk
    obtain ⟨k, rfl⟩ : ∃ m, k = m + 1 := ⟨k - 1, by omega⟩
    have hr := ih k (i + 1) (by omega) (by omega)
    have hl := pl_len_le a b i
    have hm := pl_mono a b i (n - i)
    rw [show i + (n - i) = n from by omega] at hm
    simp only [ham_Upto.l0]
    rw [if_pos (by omega)]
    by_cases hc : ((L + (pl a b i).length : Nat) : Int) > most
    · rw [if_pos hc]
      unfold tells
      rw [if_neg (by omega)]
    · rw [if_neg hc, if_pos (by omega), if_pos (by omega), if_pos (by omega), wrap_in ((i : Int) + 1) (by omega) (by omega), wrap_in _ (by omega) (by omega)]
      by_cases h : bt a i = bt b i
      · rw [if_pos h]
        simp only [pl] at hr
        rw [if_pos h, List.append_nil] at hr
        exact hr
      · rw [if_neg h]
        simp only [pl] at hr
        rw [if_neg h, List.length_append] at hr
        exact hr
theorem upto_f (a b : ByteArray) (most : Int) (ha : a.size ≤ 1048576) (hb : b.size ≤ 1048576) : Ev (fun k => ham_Upto.f k a b most) (tells a b most) := by
  refine Ev.of (ham_Upto.mono a b most) (k := min a.size b.size + 1) ?_
  unfold ham_Upto.f
  rw [longer_f a b (by omega) (by omega), mn_nat]
  have e := dist_eq a b
  exact upto_l0 a b most (min a.size b.size) (max a.size b.size - min a.size b.size) (by omega) (by omega) (by omega) (by omega) (by omega) (min a.size b.size) _ 0 (by omega) (by omega)
theorem tells_j2 (a b : ByteArray) (ha : a.size ≤ 1048576) (hb : b.size ≤ 1048576) : Ev (fun k => waywiserlaw07_HamTells.j2 k a b ((dist a b : Nat) : Int) (pl a b (min a.size b.size)) false) true := by
  have hp := pl_len_le a b (min a.size b.size)
  refine Ev.step (f := fun k => (ham_Dist.f k a b).bind fun t118 => (if t118 = ((dist a b : Nat) : Int) then ((ham_Places.f k a b).bind fun t119 => ((waywiserref07_Ints.f k t119 (pl a b (min a.size b.size))).bind fun t122 => (if t122 = true then ((waywiserlaw07_lives.f k).bind fun t123 => (some t123)) else (some false)))) else (some false))) (fun k => ?_) ?_
  · simp only [waywiserlaw07_HamTells.j2]; rw [if_neg (by decide)]
  · refine Ev.bind (dist_f a b (by omega) (by omega)) (ev_if rfl ?_)
    refine Ev.bind (places_f a b (by omega) (by omega)) (Ev.bind (ints_f _ (by omega)) ?_)
    exact ev_if rfl (Ev.bind lives_f (Ev.now _))
theorem tells_l0 (a b : ByteArray) (most : Int) (ha : a.size ≤ 1048576) (hb : b.size ≤ 1048576) (d : Nat) : ∀ i : Nat, i + d = min a.size b.size →
    Ev (fun k => waywiserlaw07_HamTells.l0 k a b most ((dist a b : Nat) : Int) (tells a b most).1 (tells a b most).2 (pl a b i) (i : Int)) true := by
  induction d with
  | zero =>
    intro i hi
    refine Ev.step (f := fun k => waywiserlaw07_HamTells.j1 k a b most ((dist a b : Nat) : Int) (tells a b most).1 (tells a b most).2 (pl a b i) (i : Int) false) (fun k => ?_) ?_
    · simp only [waywiserlaw07_HamTells.l0]
      by_cases h : (i : Int) < (a.size : Int)
      · rw [if_pos h, decide_eq_false (by omega)]
      · rw [if_neg h]
    · refine Ev.step (f := fun k => waywiserlaw07_HamTells.j2 k a b ((dist a b : Nat) : Int) (pl a b (min a.size b.size)) false) (fun k => ?_) (tells_j2 a b ha hb)
      simp only [waywiserlaw07_HamTells.j1]
      rw [if_neg (by decide)]
      rw [hi.symm, Nat.add_zero]
      unfold tells
      by_cases h : ((dist a b : Nat) : Int) ≤ most
      · rw [if_pos h, decide_eq_true h, if_neg (by simp), if_pos rfl, if_pos rfl]
      · rw [if_neg h, decide_eq_false h, if_neg (by decide)]
        rfl
  | succ d ih =>
    intro i hi
    have hr := ih (i + 1) (by omega)
    have hl := pl_len_le a b i
    refine Ev.step (f := fun k => waywiserlaw07_HamTells.j1 k a b most ((dist a b : Nat) : Int) (tells a b most).1 (tells a b most).2 (pl a b i) (i : Int) true) (fun k => ?_) ?_
    · simp only [waywiserlaw07_HamTells.l0]
      rw [if_pos (by omega), decide_eq_true (by omega)]
    · refine Ev.step (fun k => ?_) hr
      simp only [waywiserlaw07_HamTells.j1]
      rw [if_pos trivial, if_pos (by omega), if_pos (by omega), if_pos (by omega), wrap_in _ (by omega) (by omega)]
      by_cases h : bt a i = bt b i
      · rw [if_pos h]
        simp only [pl]
        rw [if_pos h, List.append_nil]
        rfl
      · rw [if_neg h, if_pos (by omega)]
        simp only [pl]
        rw [if_neg h]
        rfl
/-- THE LAW HamTells -/
theorem tells_law (a b : ByteArray) (most : Int) (ha : a.size ≤ 1048576) (hb : b.size ≤ 1048576) : Ev (fun k => waywiserlaw07_HamTells.f k a b most) true := by
  unfold waywiserlaw07_HamTells.f
  exact Ev.bind (ref_f a b (by omega) (by omega)) (Ev.bind (upto_f a b most ha hb) (tells_l0 a b most ha hb (min a.size b.size) 0 (by omega)))
end Go.Proofs.Ytlkjkfloodbkoaa.PHam

namespace Go.Proofs.Ytlkjkfloodbkoaa.hamTells
open Go.ChangeShapes Go.WideShapes Go.ChangeAt Go.RowKit Go.Proofs.YtlkjkfloodbkoaaW.PrintWords
open Go.ChangeMaps (open_string shut_string)
set_option linter.unusedVariables false

theorem own : ownKnob Try.prog.godebug = none := by kernel_rfl
theorem short {H : Type} {a b : ByteArray} {d : DataW H} (hk : Rows.uptoSmall H [.lit (.string a.data.toList), .lit (.string b.data.toList), d] = true) :
    a.size ≤ 1048576 ∧ b.size ≤ 1048576 := by
  have h := bulks.bound hk
  simp only [Rows.uptoBulkAll, Rows.uptoBulk] at h
  have e (s : ByteArray) : s.data.toList.length = s.size := by rw [Array.length_toList]; rfl
  have := e a; have := e b
  omega
theorem walk (a b : ByteArray) (most : Int) (w : World) (ha : a.size ≤ 1048576) (hb : b.size ≤ 1048576) :
    Calls Try.prog 5 #[.string a, .string b, .int .i64 most] w fun e w' => e = .returned (.bool true) ∧ Below w.heap.size w w' := by
  obtain ⟨k, h⟩ := (PHam.tells_law a b most ha hb).rounds
  exact PHam.waywiserlaw07_HamTells.calls k a b most true w h
theorem contract (H : Type) (enc : TypeId × Value → H) (W : World) (base : Nat) (args : Array Value) (ds gs : List (DataW H)) (before : List MemPlace)
    (hval : ∀ (j : Nat) t v, Try.f5.params[j]? = some t → args[j]? = some v → Value.okWide Try.prog W .any base t v)
    (hW : DataW.Whole enc Try.prog Try.f5.params.toList Rows.hamTellsSpec.vars false W args.toList ds gs before) (hk : Rows.uptoSmall H (ds ++ gs) = true) :
    Calls Try.prog 5 args W fun e W' => ∃ v, e = .returned v ∧ Rows.hamTellsSpec.post enc Try.prog Try.f5 false true false false W args v W' := by
  have hW' := hW
  obtain ⟨p, q, hA0, hV, rfl, hfz, hnd⟩ := hW
  have hA : DataW.TrodAll enc Try.prog W 0 (fun _ => true) true Try.f5.params.toList args.toList ds p := hA0
  rw [Try.params5] at hA hval
  obtain ⟨v0, vs0, d0, ds0, p0, q0, hargs, rfl, rfl, h0, r0⟩ := trodAll_cons hA
  obtain ⟨v1, vs1, d1, ds1, p1, q1, rfl, rfl, rfl, h1, r1⟩ := trodAll_cons r0
  obtain ⟨v2, vs2, d2, ds2, p2, q2, rfl, rfl, rfl, h2, r2⟩ := trodAll_cons r1
  obtain ⟨rfl, rfl, rfl⟩ := trodAll_nil r2
  obtain rfl : args = #[v0, v1, v2] := by cases args; simp_all
  obtain ⟨rfl, rfl⟩ := trodVars_none hV
  obtain ⟨a0, rfl, rfl, rfl, y0⟩ := open_string Try.underlying9 (hval 0 9 v0 rfl rfl) h0
  obtain ⟨a1, rfl, rfl, rfl, y1⟩ := open_string Try.underlying9 (hval 1 9 v1 rfl rfl) h1
  obtain ⟨a2, rfl, rfl, rfl, y2⟩ := open_int Try.underlying3 (hval 2 3 v2 rfl rfl) h2
  clear hA0
  simp only [List.append_nil] at hk
  obtain ⟨w0, w1⟩ := short hk
  refine (walk a0 a1 a2 W w0 w1).mono fun e W' ⟨he, bel⟩ => ?_
  subst he
  exact ⟨_, rfl, _, _, _, [], _, [], hW', trodAll_mk1 (shut_bool Try.underlying4 _), (trodAll_cons_mk (shut_string Try.underlying9 y0) (trodAll_cons_mk (shut_string Try.underlying9 y1) (trodAll_cons_mk (shut_int Try.underlying3 y2) trodAll_mk0))), rfl, bel.frame _, fun h => by cases h⟩

set_option maxRecDepth 100000 in
theorem lifted (os : Os) (started : os.Started) (H : Type) (enc : TypeId × Value → H) (F : Stop.Interp) :
    ReturnsInHanded {} Try.checked os 5 .any ((Rows.OpenSpec.upto Rows.hamTellsSpec).pre6 enc Try.prog Try.f5 Rows.hamTellsUptoRow.domain false) (((Rows.OpenSpec.upto Rows.hamTellsSpec).at F).post enc Try.prog Try.f5 false true false false) := by
  refine returnsInHanded_of_cond (C := Try.checked) (s := Rows.OpenSpec.upto Rows.hamTellsSpec) (k := Rows.uptoSmall) rfl own started (by kernel_rfl) Try.func5
    (OpenSpec.witness (enc := enc) (C := Try.checked) (s := Rows.OpenSpec.upto Rows.hamTellsSpec) (k := Rows.uptoSmall) rfl false ⟨#[], #[.string .empty, .string .empty, .int .i64 0], []⟩ 8 (by kernel_rfl) (by kernel_rfl) (by kernel_rfl)
      (x := ([.lit (.string []), .lit (.string []), .lit (.int .i64 0)], [], [])) (by kernel_rfl) rfl (by kernel_rfl)) ?_
  intro W base args ds gs before hval hW _ hk _
  exact contract H enc W base args ds gs before hval hW hk
theorem proved : Rows.HamTellsUptoSaid :=
  OpenClaim.holds_of_cond 5 Try.f5 rfl rfl rfl rfl rfl rfl rfl ⟨rfl, rfl, rfl, rfl, rfl⟩ rfl rfl rfl rfl rfl (by kernel_rfl) Try.func5 (by kernel_rfl)
    (of_decide_eq_true (by kernel_rfl)) (by unfold Func.isWrapper; first | (rw [if_pos (by decide +kernel)]; kernel_rfl) | (rw [if_neg (by decide +kernel)]; exact ⟨rfl, rfl⟩))
    (fun os started H enc _ F => lifted os started H enc F)
end Go.Proofs.Ytlkjkfloodbkoaa.hamTells
namespace Go.Proofs.Ytlkjkfloodbkoaa
theorem hamTells_upto : Rows.HamTellsUptoSaid := hamTells.proved
#print axioms hamTells_upto
end Go.Proofs.Ytlkjkfloodbkoaa
