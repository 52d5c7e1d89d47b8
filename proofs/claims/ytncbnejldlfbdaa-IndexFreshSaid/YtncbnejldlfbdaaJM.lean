/- Items that come in and items appended: what lies where; no condition. -/
import Derived.Test.YtncbnejldlfbdaaJL
namespace Go.Proofs.Ytncbnejldlfbdaa.PIdx
open Go.RowKit Go.Proofs.YtncbnejldlfbdaaW.PrintWords Go.Proofs.YtncbnejldlfbdaaW.PrintLast Go.Proofs.YtncbnejldlfbdaaW.PrintMore
open Go.Proofs.Ytncbnejldlfbdaa.PIndexFresh
open Go.Proofs.Ytncbnejldlfbdaa.PHeap (Row)
set_option linter.unusedVariables false
set_option linter.unusedSimpArgs false
/-- the numbers of items lie where they say -/
def Nums (w : World) (T : List It) : Prop := ∀ t ∈ T, t.x.f1.f1.length ≤ t.c ∧ (Kd.int .i32).C w t.A t.x.f1.f1.length t.x.f1.f1
/-- items lie one behind the other -/
def Lie (w : World) (A : Option Addr) (T : List It) : Prop := 0 < T.length → ∃ ad, A = some ad ∧ ∀ j u, (cells4 T)[j]? = some u → w.cell? (ad.add j) = some u
theorem Nums.below {w w1 : World} {T : List It} (h : Nums w T) (hb : Below w.heap.size w w1) : Nums w1 T := fun t ht => ⟨(h t ht).1, Kd.C_below (h t ht).2 hb⟩
theorem Nums.stb {w : World} {T Y : List It} (h : Nums w T) (hs : Stb T Y) : Nums w Y := fun t ht => h t ((hs.mem t).1 ht)
theorem Nums.app {w : World} {T Y : List It} (h : Nums w T) (k : Nums w Y) : Nums w (T ++ Y) := fun t ht => by
  rcases List.mem_append.1 ht with h1 | h1
  · exact h t h1
  · exact k t h1
theorem Lie.below {w w1 : World} {A : Option Addr} {T : List It} (h : Lie w A T) (hb : Below w.heap.size w w1) : Lie w1 A T := fun hl => by
  obtain ⟨ad, e, hc⟩ := h hl
  exact ⟨ad, e, fun j u hu => pw_cell_below hb (hc j u hu)⟩
theorem items_at {w : World} {ad : Addr} : ∀ (xs : List S65) (o : Nat), (∀ j p, xs[j]? = some p → ∃ c, c.length = 4 ∧ k65.K w p c ∧ ∀ i u, c[i]? = some u → w.cell? (ad.add ((o + j) * 4 + i)) = some u) →
    ∃ T : List It, T.map It.x = xs ∧ (∀ j u, (cells4 T)[j]? = some u → w.cell? (ad.add (o * 4 + j)) = some u) ∧ Nums w T
  | [], o, _ => ⟨[], rfl, fun j u h => by simp [cells4] at h, fun t ht => by simp at ht⟩
  | x :: xs, o, h => by
    obtain ⟨T, e, hc, hn⟩ := items_at xs (o + 1) (fun j p hj => by
      obtain ⟨c, h1, h2, h3⟩ := h (j + 1) p (by simpa using hj)
      exact ⟨c, h1, h2, fun i u hu => by rw [show o + 1 + j = o + (j + 1) from by omega]; exact h3 i u hu⟩)
    obtain ⟨c, h1, h2, h3⟩ := h 0 x rfl
    obtain ⟨A2, c2, rfl, l2, g2⟩ := k65_open h2
    refine ⟨⟨x, A2, c2⟩ :: T, by simp [e], fun j u hu => ?_, fun t ht => ?_⟩
    · match j with
      | 0 => exact h3 0 u (by simpa [cells4] using hu)
      | 1 => exact h3 1 u (by simpa [cells4] using hu)
      | 2 => exact h3 2 u (by simpa [cells4] using hu)
      | 3 => exact h3 3 u (by simpa [cells4] using hu)
      | j + 4 =>
        rw [show o * 4 + (j + 4) = (o + 1) * 4 + j from by omega]
        exact hc j u (by simpa [cells4] using hu)
    · rcases List.mem_cons.1 ht with rfl | ht
      · exact ⟨l2, g2⟩
      · exact hn t ht
theorem items_of {w : World} {A : Option Addr} {n : Nat} {xs : List S65} (h : Kd.C k65 w A n xs) : ∃ T : List It, T.map It.x = xs ∧ Lie w A T ∧ Nums w T := by
  obtain ⟨h1, h2, h3⟩ := h
  by_cases hn : 0 < n
  · obtain ⟨ad, e, hc⟩ := h3 hn
    obtain ⟨T, e1, hT, hN⟩ := items_at xs 0 (fun j p hj => by
      obtain ⟨c, q1, q2, q3⟩ := hc j p hj
      exact ⟨c, q1, q2, fun i u hu => by rw [Nat.zero_add]; exact q3 i u hu⟩)
    exact ⟨T, e1, fun _ => ⟨ad, e, fun j u hu => by have := hT j u hu; rwa [Nat.zero_mul, Nat.zero_add] at this⟩, hN⟩
  · have : xs = [] := List.eq_nil_of_length_eq_zero (by omega)
    subst this
    exact ⟨[], rfl, fun h => by simp at h, fun t ht => by simp at ht⟩
theorem reads_of {w : World} {A : Option Addr} {T : List It} (h : Lie w A T) (hn : Nums w T) (hl : T.length ≤ 9223372036854775807) : Kd.C k65 w A T.length (T.map It.x) := by
  refine ⟨by simp, hl, fun h0 => ?_⟩
  obtain ⟨ad, e, hc⟩ := h h0
  refine ⟨ad, e, fun j p hj => ?_⟩
  obtain ⟨t, ht, rfl⟩ : ∃ t, T[j]? = some t ∧ t.x = p := by
    rw [List.getElem?_map] at hj
    cases hq : T[j]? with
    | none => rw [hq] at hj; cases hj
    | some t => rw [hq] at hj; exact ⟨t, rfl, by simpa using hj⟩
  have hm : t ∈ T := List.mem_of_getElem? ht
  obtain ⟨l2, g2⟩ := hn t hm
  refine ⟨_, rfl, k65_mk w t.x l2 g2, fun i u hu => ?_⟩
  obtain ⟨c0, c1, c2, c3⟩ := cells4_at T j t ht
  match i with
  | 0 => exact hc _ _ (by simp at hu; subst hu; exact c0)
  | 1 => exact hc _ _ (by simp at hu; subst hu; exact c1)
  | 2 => exact hc _ _ (by simp at hu; subst hu; exact c2)
  | 3 => exact hc _ _ (by simp at hu; subst hu; exact c3)
  | i + 4 => simp at hu
/-- a row of the call's own lies so -/
theorem Lie.of_row {w : World} {base : Nat} {v : Value} {T : List It} (h : Row w base 65 4 v T.length (cells4 T)) : ∃ A c, v = .slice A T.length c ∧ T.length ≤ c ∧ Lie w A T := by
  obtain ⟨A, c, e, hc⟩ := h.form
  refine ⟨A, c, e, hc, fun h0 => ?_⟩
  obtain ⟨g, cap, cur, e2, _, _, hcell, _⟩ := h.at_ h0
  rw [e] at e2
  injection e2 with e2 _ _
  refine ⟨⟨g, 0, none⟩, e2, fun j u hu => ?_⟩
  have hj : j < T.length * 4 := by rw [← cells4_length]; exact (List.getElem?_eq_some_iff.1 hu).1
  have := hcell j hj
  rw [hu] at this
  rcases j with _ | j
  · simpa [Addr.add] using this
  · simpa [Addr.add] using this
theorem cells4_one (T : List It) : ∀ u ∈ cells4 T, u.oneCell' = true := by
  induction T with
  | nil => intro u h; simp [cells4] at h
  | cons t T ih =>
    intro u h
    simp only [cells4, List.mem_cons] at h
    rcases h with rfl | rfl | rfl | rfl | h
    · rfl
    · rfl
    · rfl
    · rfl
    · exact ih u h
theorem cells4_take (T : List It) (k : Nat) : (cells4 T).take (k * 4) = cells4 (T.take k) := by
  induction T generalizing k with
  | nil => simp [cells4]
  | cons t T ih =>
    cases k with
    | zero => simp [cells4]
    | succ k => rw [show (k + 1) * 4 = k * 4 + 1 + 1 + 1 + 1 from by omega]; simp only [cells4, List.take_succ_cons, ih]
theorem cells4_drop (T : List It) (k : Nat) : (cells4 T).drop (k * 4) = cells4 (T.drop k) := by
  induction T generalizing k with
  | nil => simp [cells4]
  | cons t T ih =>
    cases k with
    | zero => simp
    | succ k => rw [show (k + 1) * 4 = k * 4 + 1 + 1 + 1 + 1 from by omega]; simp only [cells4, List.drop_succ_cons, ih]
theorem info65 : (Try.prog.info? 65).map (fun i => (i.zero, i.size, i.bytes)) = some (some (.agg #[.int .u64 0, .int .i64 0, .slice none 0 0, .string ⟨#[]⟩]), 4, 56) := by kernel_rfl
set_option maxRecDepth 100000 in
/-- items appended to a row of the call's own -/
theorem append_items {W : World} {ops : Array Oper} {rest : List Oper} {o : Oper} {a : Act} {Q : Exit → Act → World → Prop} (hgd : o.guard = none) (s x : Operand)
    (ho : o.op = .call { callee := .builtin .append, args := #[s, x], argTypes := #[54, 54] }) (base : Nat) (v : Value) (D : List It) (hs : a.eval s = v) (hown : Row W base 65 4 v D.length (cells4 D)) (hb : base ≤ W.heap.size)
    (A : Option Addr) (m c : Nat) (T : List It) (hx : a.eval x = .slice A m c) (hm : T.length = m) (hnil : A = none → m = 0) (hT : Lie W A T) (hbig : D.length + m ≤ 2513169434900)
    (h : ∀ v' w', Row w' base 65 4 v' (D.length + m) (cells4 (D ++ T)) → W.grownBy w' v.ownBlock → (v' = .slice none 0 0 → v = .slice none 0 0) → (v'.ownBlock = v.ownBlock ∨ v'.ownBlock = some W.heap.size) → wpList Try.prog ops Q rest (a.put o.dst v') w') :
    wpList Try.prog ops Q (o :: rest) a W := by
  obtain ⟨i0, hi, hzz⟩ := Option.map_eq_some_iff.1 info65
  simp only [Prod.mk.injEq] at hzz
  obtain ⟨hz0, hz1, hz2⟩ := hzz
  have hu54 := Try.underlying54
  rcases A with _ | ad
  · have hm0 := hnil rfl
    subst hm0
    obtain rfl : T = [] := List.eq_nil_of_length_eq_zero hm
    obtain ⟨A0, c0, rfl, hc0⟩ := hown.form
    refine wpList_plain hgd fun _ hK => ?_
    unfold Oper.wp execOp
    have hrun : (Builtin.append_ #[54, 54] o.type #[.slice A0 D.length c0, .slice none 0 c]).run Try.prog W = .ok (.slice A0 D.length c0) W := by
      rcases A0 with _ | ⟨b0, o0, s0⟩
      · rcases hown.2 with ⟨hv, _⟩ | ⟨_, _, _, hv, _⟩
        · injection hv with _ hv1 hv2
          rw [hv1, hv2]
          simp [Builtin.append_, run_underlying hu54, sizeOf, typeInfo, hi, Builtin.lenOf, Builtin.firstCells, storeCells]
        · injection hv with hv; cases hv
      · simp [Builtin.append_, run_underlying hu54, sizeOf, typeInfo, hi, Builtin.lenOf, Builtin.firstCells, storeCells, hc0]
    simp only [ho, resolve, invoke, builtin, Sem.run_bind, Sem.run_pure, Result.andThen_ok, List.map_toArray, List.map_cons, List.map_nil, hs, hx, hrun]
    exact hK _ _ (h _ _ (by simpa using hown) ⟨rfl, rfl, rfl, Nat.le_refl _, fun _ _ _ => rfl⟩ id (.inl rfl))
  · have hL : ∀ j u, (cells4 T)[j]? = some u → W.cell? (ad.add j) = some u := fun j u hu => by
      have h0 : 0 < T.length := by
        have := (List.getElem?_eq_some_iff.1 hu).1
        rw [cells4_length] at this
        omega
      obtain ⟨ad', e, hc⟩ := hT h0
      cases e
      exact hc j u hu
    refine wpList_append_own_at W hgd s x 54 ho base 65 i0 _ 4 56 hu54 hi hz0 hz1 hz2 rfl (by decide) v D.length (cells4 D) hs hown.own ad m c (cells4 T) hx (by rw [cells4_length, hm]) hL (cells4_one T) (by simp only [maxLen]; omega) (by omega) hb ?_
    intro v1 w1 hown1 hg hnl hat
    refine h v1 w1 ?_ hg (fun e => (hnl.1 e).1) hat
    rw [cells4_append]
    exact hown1
end Go.Proofs.Ytncbnejldlfbdaa.PIdx
