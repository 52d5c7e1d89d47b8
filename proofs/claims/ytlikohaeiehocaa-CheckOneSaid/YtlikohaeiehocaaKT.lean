/- Of any bytes, any place and any byte the law CheckOne answers true, and its arguments read as they did; no condition. -/
import Derived.Test.YtlikohaeiehocaaRows
import Derived.Test.YtlikohaeiehocaaWSized
import Derived.Test.YtlikohaeiehocaaKN
import Derived.Test.YtlikohaeiehocaaKE
import Derived.WalkKit
import Derived.ProofKit
import Derived.OpenShut
import Derived.ShutString
import Derived.ChangeOld
import Derived.Below
import Derived.SizedLaws
import Derived.Carry
import Derived.JoinedCond
namespace Go.Proofs.Ytlikohaeiehocaa.PCheck
open Go.RowKit Go.Proofs.YtlikohaeiehocaaW.PrintWords Go.Proofs.YtlikohaeiehocaaW.PrintLast Go.Proofs.YtlikohaeiehocaaW.PrintMore
open Go.Proofs.Ytlikohaeiehocaa.MCheck
theorem isB_of1 {l : List Int} (h : ∀ x ∈ l, (Lit.int .u8 x).wf = true) : isB l := fun x hx => by
  have := h x hx
  have h2 : 0 ≤ x ∧ x ≤ 255 := by simpa [Lit.wf, IntKind.min, IntKind.max, IntKind.signed, IntKind.bits] using this
  omega
theorem one_j0 (l : List Int) (n : Nat) (b : Int) (k : Nat) : waywiserlaw02_CheckOne.j0 (k + 1) l (n : Int) b false = ((some (([] : List Int) : List Int)).bind fun y127 => (if y127.length + l.length < 140737488355328 then ((some (y127 ++ l : List Int)).bind fun y130 => (if 0 ≤ (n : Int) then (if (n : Int) < (y130.length : Int) then ((some (([] : List Int) : List Int)).bind fun y135 => ((check_Seal.f k l).bind fun t138 => (if y135.length + t138.length < 140737488355328 then ((some (y135 ++ t138 : List Int)).bind fun y141 => (if (y141.length : Int) = (wrap64 ((l.length : Int) + 8)) then (if (n : Int) < (y141.length : Int) then ((check_Open.f k (y141.set ((n : Int) : Int).toNat (Go.bits .xor .u8 (rd y141 (n : Int)) b))).bind fun bt146 => ((check_Of.f k (y130.set ((n : Int) : Int).toNat (Go.bits .xor .u8 (rd y130 (n : Int)) b))).bind fun t150 => ((check_Of.f k l).bind fun t151 => (if t150 = t151 then (some false) else (if bt146.2 = true then (some false) else ((waywiserlaw02_lives.f k).bind fun t152 => (some t152))))))) else (none)) else (some false))) else (none)))) else (none)) else (none))) else (none))) := by
  simp only [waywiserlaw02_CheckOne.j0]; rw [if_neg (by decide)]
theorem one_f (l : List Int) (hl : isB l) (hn : l.length ≤ 140737488351232) (i b : Int) (b0 : 0 ≤ b) (b1 : b < 256) : Ev (fun k => waywiserlaw02_CheckOne.f k l i b) true := by
  have live (x : Int) : Ev (fun k => waywiserlaw02_CheckOne.j0 k l i x true) true := by
    refine Ev.step (f := fun k => (waywiserlaw02_lives.f k).bind fun t => some t) (fun k => ?_) (Ev.bind lives_f (Ev.now _))
    simp only [waywiserlaw02_CheckOne.j0]; rw [if_pos trivial]
  unfold waywiserlaw02_CheckOne.f
  by_cases h1 : i < 0
  · exact ev_if h1 (live _)
  refine ev_else h1 ?_
  by_cases h2 : i ≥ (l.length : Int)
  · exact ev_if h2 (live _)
  refine ev_else h2 ?_
  by_cases h3 : b = 0
  · rw [show (b == 0) = true from by simp [h3]]
    exact live _
  rw [show (b == 0) = false from by simp [h3]]
  obtain ⟨n, rfl⟩ : ∃ n : Nat, i = (n : Int) := ⟨i.toNat, by omega⟩
  have hlt : n < l.length := by omega
  have hsl := sealed_length l
  obtain ⟨r0, r1⟩ := rd_isB hl n hlt
  have get (x : List Int) (hi : n < x.length) : rd x (n : Int) = x[n] := by
    unfold rd
    rw [Int.toNat_natCast, List.getD_eq_getElem?_getD, List.getElem?_eq_getElem hi, Option.getD_some]
  have gs : rd (sealed l) (n : Int) = l[n] := by
    rw [get _ (by omega)]
    simp only [sealed]
    rw [List.getElem_append_left hlt]
  rw [get l hlt] at r0 r1
  -- the byte that is another one
  have hx : Go.bits .xor .u8 (l[n]) b = ((l[n].toNat ^^^ b.toNat : Nat) : Int) := u8_xor _ _ r0 r1 b0 b1
  have hxlt : l[n].toNat ^^^ b.toNat < 256 := Nat.xor_lt_two_pow (n := 8) (by omega) (by omega)
  have hne : ((l[n].toNat ^^^ b.toNat : Nat) : Int) ≠ l[n] := by
    intro e
    have e2 : l[n].toNat ^^^ b.toNat = l[n].toNat := by omega
    have e3 : l[n].toNat ^^^ (l[n].toNat ^^^ b.toNat) = l[n].toNat ^^^ l[n].toNat := by rw [e2]
    have e4 : b.toNat = 0 := by simpa [← Nat.xor_assoc] using e3
    omega
  generalize ((l[n].toNat ^^^ b.toNat : Nat) : Int) = x at hx hne hxlt
  have hset (m : List Int) (hm : isB m) (x0 : 0 ≤ x ∧ x < 256) : isB (m.set n x) := fun y hy => by
    rcases List.mem_or_eq_of_mem_set hy with h | rfl
    · exact hm y h
    · exact x0
  have hx01 : 0 ≤ x ∧ x < 256 := by
    have h := u8_xor _ _ r0 r1 b0 b1
    rw [hx] at h
    have : l[n].toNat ^^^ b.toNat < 256 := Nat.xor_lt_two_pow (n := 8) (by omega) (by omega)
    omega
  have ho := opened_one l hl n hlt x hx01.1 hx01.2 hne
  have hs := sum_one l hl n hlt x hx01.1 hx01.2 hne first (by decide)
  refine Ev.step (one_j0 l n b) ?_
  refine Ev.bind (Ev.now _) (ev_if (by simp only [List.length_nil]; omega) (Ev.bind (Ev.now _) ?_))
  rw [List.nil_append, get l hlt, hx]
  refine ev_if (by omega) (ev_if (by omega) (Ev.bind (Ev.now _) (Ev.bind (seal_f l hl (by omega)) (ev_if (by simp only [List.length_nil]; omega) (Ev.bind (Ev.now _) ?_)))))
  rw [List.nil_append, gs, hx, Int.toNat_natCast]
  refine ev_if (by rw [wrap_in _ (by omega) (by omega)]; omega) (ev_if (by omega) ?_)
  refine Ev.bind (open_f _ (hset _ (sealed_isB hl) hx01) (by simp; omega)) (Ev.bind (of_f _ (hset l hl hx01) (by simp; omega)) (Ev.bind (of_f l hl (by omega)) ?_))
  exact ev_else (fun e => hs (by omega)) (ev_else (by rw [ho]; decide) (Ev.bind lives_f (Ev.now _)))
theorem one_walk (W : World) (A : Option Addr) (c : Nat) (l : List Int) (hr : Kd.C (Kd.int .u8) W A l.length l) (hc : l.length ≤ c) (hw : ∀ x ∈ l, (Lit.int .u8 x).wf = true) (hy : l.length * 1 ≤ 140737488351232) (i : Int) (_ : (Lit.int .i64 i).wf = true) (b : Int) (wb : (Lit.int .u8 b).wf = true) :
    Calls Try.prog 5 #[.slice A l.length c, .int .i64 i, .int .u8 b] W fun e w' => e = .returned (.bool true) ∧ Below W.heap.size W w' := by
  have hb : 0 ≤ b ∧ b ≤ 255 := by simpa [Lit.wf, IntKind.min, IntKind.max, IntKind.signed, IntKind.bits] using wb
  obtain ⟨k, h⟩ := (one_f l (isB_of1 hw) (by omega) i b hb.1 (by omega)).rounds
  exact waywiserlaw02_CheckOne.calls k A c l i b true W hr hc h
end Go.Proofs.Ytlikohaeiehocaa.PCheck
namespace Go.Proofs.Ytlikohaeiehocaa.checkOne
open Go.ChangeShapes Go.WideShapes Go.ChangeAt Go.RowKit Go.Proofs.YtlikohaeiehocaaW.PrintWords
open Go.ChangeMaps (open_string shut_string)
set_option linter.unusedVariables false
theorem own : ownKnob Try.prog.godebug = none := by kernel_rfl
theorem laidOut : laidOutB Try.prog = true := by kernel_rfl
def IsRow (k : IntKind) (w : World) (a : Option Addr) (len cap : Nat) (zs : List Int) : Prop :=
  (a = none ∧ len = 0 ∧ cap = 0 ∧ zs = []) ∨
  ∃ x, a = some x ∧ len ≤ cap ∧ cap ≤ maxLen ∧ zs.length = cap ∧ (∀ i, i < zs.length → w.cell? (x.add i) = some (.int k (zs.getD i 0))) ∧ ∀ n ∈ zs, (Lit.int k n).wf = true
set_option maxRecDepth 100000 in
theorem lifted (os : Os) (started : os.Started) (H : Type) (enc : TypeId × Value → H) :
    ReturnsInHanded {} Try.checked os 5 .any (Rows.checkOneSpec.pre6 enc Try.prog Try.f5 Rows.checkOneRow.domain false) (Rows.checkOneSpec.post enc Try.prog Try.f5 false true false false) := by
  refine returnsInHanded_of_change_sized (C := Try.checked) own started (by kernel_rfl) Try.func5
    (ChangeSpec.witness6 (enc := enc) (C := Try.checked) false ⟨#[], #[.slice none 0 0, .int .i64 0, .int .u8 0], []⟩ 8 (by kernel_rfl) (by kernel_rfl) (by kernel_rfl) (by kernel_rfl)) ?_
  intro W base args ds gs before hval0 hW hcnd hsz0 _
  have hsz : (DataW.weightsEach Try.prog (Try.f5.params.toList ++ Rows.checkOneSpec.plain.varTypes Try.prog) (ds ++ gs)).all (· ≤ reachBytes) = true := hsz0
  have hval : ∀ (j : Nat) t v, Try.f5.params[j]? = some t → args[j]? = some v → Value.okWide Try.prog W .any base t v := hval0
  have hW' := hW
  obtain ⟨p, q, hA0, hV, rfl, hfz, hnd⟩ := hW
  have hA : DataW.TrodAll enc Try.prog W 0 (fun _ => true) true Try.f5.params.toList args.toList ds p := hA0
  rw [Try.params5] at hA hval hsz
  obtain ⟨v0, vs0, d0, ds0, p0, q0, hargs, rfl, rfl, h0, r0⟩ := trodAll_cons hA
  obtain ⟨v1, vs1, d1, ds1, p1, q1, rfl, rfl, rfl, h1, r1⟩ := trodAll_cons r0
  obtain ⟨v2, vs2, d2, ds2, p2, q2, rfl, rfl, rfl, h2, r2⟩ := trodAll_cons r1
  obtain ⟨rfl, rfl, rfl⟩ := trodAll_nil r2
  obtain rfl : args = #[v0, v1, v2] := by cases args; simp_all
  obtain ⟨rfl, rfl⟩ := trodVars_none hV
  obtain ⟨a0, len0, cap0, rfl⟩ := okWide_slice Try.underlying23 (hval 0 23 v0 rfl rfl)
  have k0 := h0
  have lt0 : ∀ x ∈ p0, x.block < W.heap.size := by obtain ⟨m, hm⟩ := k0; exact DataW.trod_lt m _ _ _ hm
  obtain ⟨z0, w0⟩ : ∃ zs, IsRow .u8 W a0 len0 cap0 zs := by
    obtain ⟨fuel, hf⟩ := h0
    rcases open_ints Try.underlying23 Try.underlying5 (by kernel_rfl) hf with ⟨hcs, _⟩ | ⟨x, l, c, zs, hcs, _, hl, hm, hz, hx, hcell, hwz⟩
    · simp [Value.cells] at hcs
      obtain ⟨rfl, rfl, rfl⟩ := hcs
      exact ⟨[], .inl ⟨rfl, rfl, rfl, rfl⟩⟩
    · simp [Value.cells] at hcs
      obtain ⟨rfl, rfl, rfl⟩ := hcs
      exact ⟨zs, .inr ⟨_, rfl, hl, hm, by simpa using hz, hcell, hwz⟩⟩
  have y0 : len0 * 1 ≤ 140737488351232 := sized_ints hsz (j := 0) (t := 23) rfl rfl Try.underlying23 Try.underlying5 (by kernel_rfl) (by kernel_rfl) h0
  obtain ⟨l0, rfl, hr0, hm0, hw0, hc0⟩ := ReadsInt.ofRowC w0
  obtain ⟨a1, rfl, rfl, rfl, w1⟩ := open_int Try.underlying3 (hval 1 3 v1 rfl rfl) h1
  obtain ⟨a2, rfl, rfl, rfl, w2⟩ := open_int Try.underlying5 (hval 2 5 v2 rfl rfl) h2
  clear hA0 hval0 hsz0 hsz
  refine (PCheck.one_walk W a0 cap0 l0 (Kd.C_of_reads (d := (0 : Int)) (h1 := fun _ => rfl) hr0) hc0 hw0 y0 a1 w1 a2 w2).mono fun e W' ⟨he, bel⟩ => ?_
  subst he
  exact ⟨_, rfl, _, _, _, [], _, [], hW', trodAll_mk1 (shut_bool Try.underlying4 _), (trodAll_cons_mk (Below.trod laidOut (by kernel_rfl) (of_decide_eq_true (by kernel_rfl)) k0 bel lt0) (trodAll_cons_mk (shut_int Try.underlying3 w1) (trodAll_cons_mk (shut_int Try.underlying5 w2) trodAll_mk0))), rfl, bel.frame _, fun h => by cases h⟩
theorem over : Rows.checkOneRow.holds Try.pinned (OpenSpec.ofChange Rows.checkOneSpec) :=
  OpenClaim.holds_of_wide 5 Try.f5 rfl rfl rfl rfl rfl rfl rfl ⟨rfl, rfl, rfl, rfl, rfl⟩ rfl rfl rfl rfl rfl (by kernel_rfl) Try.func5 (by kernel_rfl)
    (of_decide_eq_true (by kernel_rfl)) (by unfold Func.isWrapper; first | (rw [if_pos (by decide +kernel)]; kernel_rfl) | (rw [if_neg (by decide +kernel)]; exact ⟨rfl, rfl⟩))
    (fun os started H enc _ => lifted os started H enc)
theorem proved : Rows.CheckOneSaid := over
end Go.Proofs.Ytlikohaeiehocaa.checkOne
namespace Go.Proofs.Ytlikohaeiehocaa
theorem checkOne_holds : Rows.CheckOneSaid := checkOne.proved
#print axioms checkOne_holds
end Go.Proofs.Ytlikohaeiehocaa
