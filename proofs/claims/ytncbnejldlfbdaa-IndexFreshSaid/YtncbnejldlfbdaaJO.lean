/- Items appended: at a region that draws, and to a row that is cut; no condition. -/
import Derived.Test.YtncbnejldlfbdaaJN
namespace Go.Proofs.Ytncbnejldlfbdaa.PIdx
open Go.RowKit Go.Proofs.YtncbnejldlfbdaaW.PrintWords Go.Proofs.YtncbnejldlfbdaaW.PrintLast Go.Proofs.YtncbnejldlfbdaaW.PrintMore
open Go.Proofs.Ytncbnejldlfbdaa.PIndexFresh
open Go.Proofs.Ytncbnejldlfbdaa.PHeap (Row)
set_option linter.unusedVariables false
set_option linter.unusedSimpArgs false
set_option maxRecDepth 100000 in
theorem run_items (ty base : Nat) (v : Value) (D : List It) (W : World) (hown : Row W base 65 4 v D.length (cells4 D)) (hb : base ≤ W.heap.size)
    (A : Option Addr) (m c : Nat) (T : List It) (hm : T.length = m) (hnil : A = none → m = 0) (hT : Lie W A T) (hbig : D.length + m ≤ 2513169434900) :
    ∃ v' w', (Builtin.append_ #[54, 54] ty #[v, .slice A m c]).run Try.prog W = .ok v' w' ∧ Row w' base 65 4 v' (D.length + m) (cells4 (D ++ T)) ∧ W.grownBy w' v.ownBlock ∧ (v'.ownBlock = v.ownBlock ∨ v'.ownBlock = some W.heap.size) := by
  obtain ⟨i0, hi, hzz⟩ := Option.map_eq_some_iff.1 info65
  simp only [Prod.mk.injEq] at hzz
  obtain ⟨hz0, hz1, hz2⟩ := hzz
  have hu54 := Try.underlying54
  rcases A with _ | ad
  · have hm0 := hnil rfl
    subst hm0
    obtain rfl : T = [] := List.eq_nil_of_length_eq_zero hm
    obtain ⟨A0, c0, rfl, hc0⟩ := hown.form
    refine ⟨.slice A0 D.length c0, W, ?_, by simpa using hown, ⟨rfl, rfl, rfl, Nat.le_refl _, fun _ _ _ => rfl⟩, .inl rfl⟩
    rcases A0 with _ | ⟨b0, o0, s0⟩
    · rcases hown.2 with ⟨hv, _⟩ | ⟨_, _, _, hv, _⟩
      · injection hv with _ hv1 hv2
        rw [hv1, hv2]
        simp [Builtin.append_, run_underlying hu54, sizeOf, typeInfo, hi, Builtin.lenOf, Builtin.firstCells, storeCells]
      · injection hv with hv; cases hv
    · simp [Builtin.append_, run_underlying hu54, sizeOf, typeInfo, hi, Builtin.lenOf, Builtin.firstCells, storeCells, hc0]
  · have hL : ∀ j u, (cells4 T)[j]? = some u → W.cell? (ad.add j) = some u := fun j u hu => by
      have h0 : 0 < T.length := by
        have := (List.getElem?_eq_some_iff.1 hu).1
        rw [cells4_length] at this
        omega
      obtain ⟨ad', e, hc⟩ := hT h0
      cases e
      exact hc j u hu
    obtain ⟨v', w', hr, h2, h3, h4, h5⟩ := run_append_own_at (P := Try.prog) W base 54 ty 65 i0 _ 4 56 hu54 hi hz0 hz1 hz2 rfl (by decide) v D.length (cells4 D) hown.own ad m c (cells4 T) (by rw [cells4_length, hm]) hL (cells4_one T) (by simp only [maxLen]; omega) (by omega) hb
    exact ⟨v', w', hr, by rw [cells4_append]; exact h2, h3, h5⟩
/-- where there is no room: a new row -/
theorem run_grown (ty : Nat) (A0 : Option Addr) (k : Nat) (D : List It) (W : World) (hD : Lie W A0 D) (hk : D.length = k) (hA0 : A0 = none → k = 0) (ad : Addr) (m c : Nat) (T : List It) (hm : T.length = m) (hT : Lie W (some ad) T) (hm0 : 0 < m) (hbig : D.length + m ≤ 2513169434900) :
    ∃ v' w', (Builtin.append_ #[54, 54] ty #[.slice A0 k k, .slice (some ad) m c]).run Try.prog W = .ok v' w' ∧ Row w' W.heap.size 65 4 v' (D.length + m) (cells4 (D ++ T)) ∧ W.grownBy w' none := by
  rcases A0 with _ | b
  · have hk0 := hA0 rfl
    subst hk0
    obtain rfl : D = [] := List.eq_nil_of_length_eq_zero hk
    obtain ⟨v', w', h1, h2, h3, _⟩ := run_items ty W.heap.size (.slice none 0 0) [] W (Row.nil _ _ _ _) (Nat.le_refl _) (some ad) m c T hm (by intro h; cases h) hT hbig
    exact ⟨v', w', h1, h2, h3⟩
  · obtain ⟨i0, hi, hzz⟩ := Option.map_eq_some_iff.1 info65
    simp only [Prod.mk.injEq] at hzz
    obtain ⟨hz0, hz1, hz2⟩ := hzz
    have hL : ∀ (A : Addr) (Z : List It), Lie W (some A) Z → ∀ j u, (cells4 Z)[j]? = some u → W.cell? (A.add j) = some u := fun A Z hZ j u hu => by
      have h0 : 0 < Z.length := by
        have := (List.getElem?_eq_some_iff.1 hu).1
        rw [cells4_length] at this
        omega
      obtain ⟨ad', e, hc⟩ := hZ h0
      cases e
      exact hc j u hu
    obtain ⟨v', w', h1, h2, h3⟩ := run_append_arg_grows (P := Try.prog) W 54 ty 65 i0 _ 4 56 Try.underlying54 hi hz0 hz1 hz2 rfl (by decide) b k k (cells4 D) (by rw [cells4_length, hk]) (hL b D hD) ad m c (cells4 T) (by rw [cells4_length, hm]) (hL ad T hT) (by omega) (by simp only [maxLen]; omega) (by omega)
    refine ⟨v', w', h1, ?_, h3⟩
    rw [cells4_append, hk]
    exact h2
section
variable {W : World} {ops : Array Oper} {rest : List Oper} {o : Oper} {a : Act} {K : Act → World → Prop} {Q : Exit → Act → World → Prop} {E : Prop}
theorem wp_run (s x : Operand) (ho : o.op = .call { callee := .builtin .append, args := #[s, x], argTypes := #[54, 54] }) (v y : Value) (hs : a.eval s = v) (hx : a.eval x = y) {v' : Value} {w' : World}
    (hr : (Builtin.append_ #[54, 54] o.type #[v, y]).run Try.prog W = .ok v' w') (h : K (a.put o.dst v') w') : Oper.wp Try.prog o a W K Q := by
  unfold Oper.wp execOp
  simp only [ho, resolve, invoke, builtin, Sem.run_bind, Sem.run_pure, Result.andThen_ok, List.map_toArray, List.map_cons, List.map_nil, hs, hx, hr]
  exact h
theorem step_items (hgd : o.guard = none) (s x : Operand) (ho : o.op = .call { callee := .builtin .append, args := #[s, x], argTypes := #[54, 54] }) (base : Nat) (v : Value) (D : List It) (hs : a.eval s = v) (hown : Row W base 65 4 v D.length (cells4 D)) (hb : base ≤ W.heap.size)
    (A : Option Addr) (m c : Nat) (T : List It) (hx : a.eval x = .slice A m c) (hm : T.length = m) (hnil : A = none → m = 0) (hT : Lie W A T) (hbig : D.length + m ≤ 2513169434900)
    (h : ∀ v' w', Row w' base 65 4 v' (D.length + m) (cells4 (D ++ T)) → W.grownBy w' v.ownBlock → (v'.ownBlock = v.ownBlock ∨ v'.ownBlock = some W.heap.size) → K (a.put o.dst v') w') :
    if Region.wanted o (yielded ops a.tmps) = true then Oper.wp Try.prog o a W K Q else E := by
  have hw : Region.wanted o (yielded ops a.tmps) = true := by simp [Region.wanted, hgd]
  rw [if_pos hw]
  obtain ⟨v', w', h1, h2, h3, h4⟩ := run_items o.type base v D W hown hb A m c T hm hnil hT hbig
  exact wp_run s x ho _ _ hs hx h1 (h v' w' h2 h3 h4)
theorem step_grown (hgd : o.guard = none) (s x : Operand) (ho : o.op = .call { callee := .builtin .append, args := #[s, x], argTypes := #[54, 54] }) (A0 : Option Addr) (k : Nat) (D : List It) (hs : a.eval s = .slice A0 k k) (hD : Lie W A0 D) (hk : D.length = k) (hA0 : A0 = none → k = 0)
    (ad : Addr) (m c : Nat) (T : List It) (hx : a.eval x = .slice (some ad) m c) (hm : T.length = m) (hT : Lie W (some ad) T) (hm0 : 0 < m) (hbig : D.length + m ≤ 2513169434900)
    (h : ∀ v' w', Row w' W.heap.size 65 4 v' (D.length + m) (cells4 (D ++ T)) → W.grownBy w' none → K (a.put o.dst v') w') :
    if Region.wanted o (yielded ops a.tmps) = true then Oper.wp Try.prog o a W K Q else E := by
  have hw : Region.wanted o (yielded ops a.tmps) = true := by simp [Region.wanted, hgd]
  rw [if_pos hw]
  obtain ⟨v', w', h1, h2, h3⟩ := run_grown o.type A0 k D W hD hk hA0 ad m c T hm hT hm0 hbig
  exact wp_run s x ho _ _ hs hx h1 (h v' w' h2 h3)
end
end Go.Proofs.Ytncbnejldlfbdaa.PIdx
