/- Of any list of texts that is of bulk at most 1048576, the law HamPairs answers true, and its argument reads as it did. -/
import Derived.Test.YtlkjkfloodbkoaaBulk
import Derived.Test.YtlkjkfloodbkoaaHD
import Derived.WalkKit
import Derived.ProofKit
import Derived.OpenShut
import Derived.ShutString
import Derived.SliceStrings
import Derived.ChangeOld
import Derived.Below
import Derived.Carry
import Derived.JoinedCond
namespace Go.Proofs.Ytlkjkfloodbkoaa.PHam
open Go.RowKit Go.Proofs.YtlkjkfloodbkoaaW.PrintWords Go.Proofs.YtlkjkfloodbkoaaW.PrintLast Go.Proofs.YtlkjkfloodbkoaaW.PrintMore
open Go.Proofs.Ytlkjkfloodbkoaa.MHam
/-- how far each of the first texts is from the next one -/
def pd (l : List ByteArray) : Nat → List Int
  | 0 => []
  | n + 1 => pd l n ++ [((dist (l.getD n ByteArray.empty) (l.getD (n + 1) ByteArray.empty) : Nat) : Int)]
theorem pd_len (l : List ByteArray) (n : Nat) : (pd l n).length = n := by
  induction n with
  | zero => rfl
  | succ n ih => simp only [pd, List.length_append, ih]; rfl
theorem small_at {l : List ByteArray} (hs : ∀ s ∈ l, s.size ≤ 1048576) (n : Nat) : (l.getD n ByteArray.empty).size ≤ 8796093022208 := by
  rw [List.getD_eq_getElem?_getD]
  cases h : l[n]? with
  | none => simp
  | some s => have := hs s (List.mem_of_getElem? h); simp only [Option.getD_some]; omega
theorem pairs_l0 (l : List ByteArray) (hs : ∀ s ∈ l, s.size ≤ 1048576) (hl : l.length ≤ 1048576) (d : Nat) : ∀ i : Nat, i + 1 + d = l.length →
    Ev (fun k => ham_Pairs.l0 k l (pd l i) ((i + 1 : Nat) : Int)) (pd l (l.length - 1)) := by
  induction d with
  | zero =>
    intro i hi
    refine Ev.step (f := fun _ => some (pd l (l.length - 1))) (fun k => ?_) (Ev.now _)
    simp only [ham_Pairs.l0]; rw [if_neg (by omega), show i = l.length - 1 from by omega]
  | succ d ih =>
    intro i hi
    have hr := ih (i + 1) (by omega)
    have hp := pd_len l i
    have e1 : wrap64 (((i + 1 : Nat) : Int) - 1) = (i : Int) := by rw [wrap_in _ (by omega) (by omega)]; omega
    have e2 : wrap64 (((i + 1 : Nat) : Int) + 1) = ((i + 1 + 1 : Nat) : Int) := by rw [wrap_in _ (by omega) (by omega)]; omega
    refine Ev.step (f := fun k => (ham_Dist.f k (l.getD i ByteArray.empty) (l.getD (i + 1) ByteArray.empty)).bind fun t => ham_Pairs.l0 k l (pd l i ++ [t]) ((i + 1 + 1 : Nat) : Int)) (fun k => ?_)
      (Ev.bind (dist_f _ _ (small_at hs _) (small_at hs _)) hr)
    simp only [ham_Pairs.l0]
    rw [e1, e2, if_pos (by omega), if_pos (by omega), if_pos (by omega), if_pos (by omega)]
    simp only [rdOf, Int.toNat_natCast]
    congr 1
    funext t
    rw [if_pos (by omega)]
theorem pairs_f (l : List ByteArray) (hs : ∀ s ∈ l, s.size ≤ 1048576) (hl : l.length ≤ 1048576) : Ev (fun k => ham_Pairs.f k l) (pd l (l.length - 1)) := by
  unfold ham_Pairs.f
  by_cases h : l.length = 0
  · rw [h]
    refine Ev.step (f := fun _ => some (pd l 0)) (fun k => ?_) (Ev.now _)
    simp only [ham_Pairs.l0]; rw [if_neg (by omega)]; rfl
  · exact pairs_l0 l hs hl (l.length - 1) 0 (by omega)
theorem law_l0 (l : List ByteArray) (hs : ∀ s ∈ l, s.size ≤ 1048576) (hl : l.length ≤ 1048576) (d : Nat) : ∀ i : Nat, (i + 1 + d = l.length ∨ (l.length = 0 ∧ i = 0 ∧ d = 0)) →
    Ev (fun k => waywiserlaw07_HamPairs.l0 k l (pd l i) (i : Int)) true := by
  induction d with
  | zero =>
    intro i hi
    have e2 : wrap64 ((i : Int) + 1) = ((i + 1 : Nat) : Int) := by rw [wrap_in _ (by omega) (by omega)]; omega
    have hi' : i = l.length - 1 := by omega
    refine Ev.step (f := fun k => (ham_Pairs.f k l).bind fun t123 => ((waywiserref07_Ints.f k t123 (pd l i)).bind fun t126 => (if t126 = true then ((waywiserlaw07_lives.f k).bind fun t127 => (some t127)) else (some false)))) (fun k => ?_)
      (Ev.bind (pairs_f l hs hl) ?_)
    · simp only [waywiserlaw07_HamPairs.l0]
      rw [e2, if_neg (by omega)]
    · rw [hi']
      refine Ev.bind (ints_f _ (by rw [pd_len]; omega)) (ev_if rfl (Ev.bind lives_f (Ev.now _)))
  | succ d ih =>
    intro i hi
    have hr := ih (i + 1) (by omega)
    have hp := pd_len l i
    have e2 : wrap64 ((i : Int) + 1) = ((i + 1 : Nat) : Int) := by rw [wrap_in _ (by omega) (by omega)]; omega
    refine Ev.step (f := fun k => (waywiserref07_Dist.f k (l.getD i ByteArray.empty) (l.getD (i + 1) ByteArray.empty)).bind fun t => waywiserlaw07_HamPairs.l0 k l (pd l i ++ [t]) ((i + 1 : Nat) : Int)) (fun k => ?_)
      (Ev.bind (ref_f _ _ (small_at hs _) (small_at hs _)) hr)
    simp only [waywiserlaw07_HamPairs.l0]
    rw [e2, if_pos (by omega), if_pos (by omega), if_pos (by omega), if_pos (by omega)]
    simp only [rdOf, Int.toNat_natCast]
    congr 1
    funext t
    rw [if_pos (by omega)]
/-- THE LAW HamPairs -/
theorem pairs_law (l : List ByteArray) (hs : ∀ s ∈ l, s.size ≤ 1048576) (hl : l.length ≤ 1048576) : Ev (fun k => waywiserlaw07_HamPairs.f k l) true := by
  unfold waywiserlaw07_HamPairs.f
  exact law_l0 l hs hl (l.length - 1) 0 (by omega)
end Go.Proofs.Ytlkjkfloodbkoaa.PHam

namespace Go.Proofs.Ytlkjkfloodbkoaa.hamPairs
open Go.ChangeShapes Go.WideShapes Go.ChangeAt Go.RowKit Go.Proofs.YtlkjkfloodbkoaaW.PrintWords
open Go.ChangeMaps (open_string shut_string)
set_option linter.unusedVariables false

theorem own : ownKnob Try.prog.godebug = none := by kernel_rfl
theorem laidOut : laidOutB Try.prog = true := by kernel_rfl
theorem walk (A : Option Addr) (c : Nat) (l : List ByteArray) (w : World) (hr : Kd.C Kd.string w A l.length l) (hc : l.length ≤ c) (hs : ∀ s ∈ l, s.size ≤ 1048576) (hl : l.length ≤ 1048576) :
    Calls Try.prog 4 #[.slice A l.length c] w fun e w' => e = .returned (.bool true) ∧ Below w.heap.size w w' := by
  obtain ⟨k, h⟩ := (PHam.pairs_law l hs hl).rounds
  exact PHam.waywiserlaw07_HamPairs.calls k A c l true w hr hc h
theorem opened {H : Type} {enc : TypeId × Value → H} {W : World} {a : Option Addr} {len cap : Nat} {d : DataW H} {p : List MemPlace} (h : DataW.Trod enc Try.prog W 0 (fun _ => true) true 25 (.slice a len cap) d p)
    (hb : Rows.uptoBulk d ≤ 1048576) : ∃ l : List ByteArray, len = l.length ∧ Kd.C Kd.string W a l.length l ∧ l.length ≤ cap ∧ (∀ s ∈ l, s.size ≤ 1048576) ∧ l.length ≤ 1048576 := by
  obtain ⟨fuel, hf⟩ := h
  rcases open_strings Try.underlying25 Try.underlying9 (by kernel_rfl) hf with ⟨hcs, hx⟩ | ⟨x, l, c, ss, hcs, _, hl, hm, hz, hx, hcell, hsz⟩
  · simp [Value.cells] at hcs
    obtain ⟨rfl, rfl, rfl⟩ := hcs
    exact ⟨[], rfl, ⟨rfl, by simp, fun h => absurd h (Nat.lt_irrefl 0)⟩, Nat.le_refl _, fun s h => by simp at h, by simp⟩
  · simp [Value.cells] at hcs
    obtain ⟨rfl, rfl, rfl⟩ := hcs
    obtain rfl : d = .slice (strs (ss.take len)) (strs (ss.drop len)) := congrArg Prod.fst hx
    have hlen : (ss.take len).length = len := by rw [List.length_take]; simp at hz; omega
    have h1 := bulks.slice_le (H := H) (strs (ss.take len)) (strs (ss.drop len))
    have h2 := bulks.slice_elems (H := H) (strs (ss.take len)) (strs (ss.drop len))
    have h3 : (strs (H := H) (ss.take len)).length = len := by simp [strs] at hlen ⊢; omega
    refine ⟨ss.take len, hlen.symm, Kd.C_of_reads (d := ByteArray.empty) (h1 := fun _ => rfl) ⟨rfl, by omega, fun hn => ⟨x, rfl, fun j hj => ?_⟩⟩, by omega, fun s hs => ?_, by omega⟩
    · have := hcell j (by have := List.length_take_le' len ss; omega)
      rw [this]
      congr 2
      rw [List.getD_eq_getElem?_getD, List.getD_eq_getElem?_getD, List.getElem?_take_of_lt (by omega)]
    · have := bulks.part_le (H := H) (d := .lit (.string s.data.toList)) (l := strs (ss.take len)) (List.mem_map_of_mem (f := fun s => DataW.lit (.string s.data.toList)) hs)
      rw [bulks.string_eq] at this
      have e : s.data.toList.length = s.size := by rw [Array.length_toList]; rfl
      omega
theorem contract (H : Type) (enc : TypeId × Value → H) (W : World) (base : Nat) (args : Array Value) (ds gs : List (DataW H)) (before : List MemPlace)
    (hval : ∀ (j : Nat) t v, Try.f4.params[j]? = some t → args[j]? = some v → Value.okWide Try.prog W .any base t v)
    (hW : DataW.Whole enc Try.prog Try.f4.params.toList Rows.hamPairsSpec.vars false W args.toList ds gs before) (hk : Rows.uptoSmall H (ds ++ gs) = true) :
    Calls Try.prog 4 args W fun e W' => ∃ v, e = .returned v ∧ Rows.hamPairsSpec.post enc Try.prog Try.f4 false true false false W args v W' := by
  have hW' := hW
  obtain ⟨p, q, hA0, hV, rfl, hfz, hnd⟩ := hW
  have hA : DataW.TrodAll enc Try.prog W 0 (fun _ => true) true Try.f4.params.toList args.toList ds p := hA0
  rw [Try.params4] at hA hval
  obtain ⟨v0, vs0, d0, ds0, p0, q0, hargs, rfl, rfl, h0, r0⟩ := trodAll_cons hA
  obtain ⟨rfl, rfl, rfl⟩ := trodAll_nil r0
  obtain rfl : args = #[v0] := by cases args; simp_all
  obtain ⟨rfl, rfl⟩ := trodVars_none hV
  obtain ⟨a0, len0, cap0, rfl⟩ := okWide_slice Try.underlying25 (hval 0 25 v0 rfl rfl)
  have lt0 : ∀ x ∈ p0, x.block < W.heap.size := by obtain ⟨m, hm⟩ := h0; exact DataW.trod_lt m _ _ _ hm
  have hb := bulks.bound hk
  simp only [List.append_nil, Rows.uptoBulkAll] at hb
  obtain ⟨l, rfl, hC, hc, hs, hl⟩ := opened h0 (by omega)
  clear hA0
  refine (walk a0 cap0 l W hC hc hs hl).mono fun e W' ⟨he, bel⟩ => ?_
  subst he
  exact ⟨_, rfl, _, _, _, [], _, [], hW', trodAll_mk1 (shut_bool Try.underlying4 _), (trodAll_cons_mk (Below.trod laidOut (by kernel_rfl) (of_decide_eq_true (by kernel_rfl)) h0 bel lt0) trodAll_mk0), rfl, bel.frame _, fun h => by cases h⟩

set_option maxRecDepth 100000 in
theorem lifted (os : Os) (started : os.Started) (H : Type) (enc : TypeId × Value → H) (F : Stop.Interp) :
    ReturnsInHanded {} Try.checked os 4 .any ((Rows.OpenSpec.upto Rows.hamPairsSpec).pre6 enc Try.prog Try.f4 Rows.hamPairsUptoRow.domain false) (((Rows.OpenSpec.upto Rows.hamPairsSpec).at F).post enc Try.prog Try.f4 false true false false) := by
  refine returnsInHanded_of_cond (C := Try.checked) (s := Rows.OpenSpec.upto Rows.hamPairsSpec) (k := Rows.uptoSmall) rfl own started (by kernel_rfl) Try.func4
    (OpenSpec.witness (enc := enc) (C := Try.checked) (s := Rows.OpenSpec.upto Rows.hamPairsSpec) (k := Rows.uptoSmall) rfl false ⟨#[], #[.slice none 0 0], []⟩ 8 (by kernel_rfl) (by kernel_rfl) (by kernel_rfl)
      (x := ([.nil], [], [])) (by kernel_rfl) rfl (by kernel_rfl)) ?_
  intro W base args ds gs before hval hW _ hk _
  exact contract H enc W base args ds gs before hval hW hk
theorem proved : Rows.HamPairsUptoSaid :=
  OpenClaim.holds_of_cond 4 Try.f4 rfl rfl rfl rfl rfl rfl rfl ⟨rfl, rfl, rfl, rfl, rfl⟩ rfl rfl rfl rfl rfl (by kernel_rfl) Try.func4 (by kernel_rfl)
    (of_decide_eq_true (by kernel_rfl)) (by unfold Func.isWrapper; first | (rw [if_pos (by decide +kernel)]; kernel_rfl) | (rw [if_neg (by decide +kernel)]; exact ⟨rfl, rfl⟩))
    (fun os started H enc _ F => lifted os started H enc F)
end Go.Proofs.Ytlkjkfloodbkoaa.hamPairs
namespace Go.Proofs.Ytlkjkfloodbkoaa
theorem hamPairs_upto : Rows.HamPairsUptoSaid := hamPairs.proved
#print axioms hamPairs_upto
end Go.Proofs.Ytlkjkfloodbkoaa
