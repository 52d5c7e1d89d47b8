/- What index.Missing answers of items that came in, and the closures that it asks; of fewer than 2 513 169 434 844 items. -/
import Derived.Test.YtncbnejldlfbdaaJQ
import Derived.Test.YtncbnejldlfbdaaPIndexFreshx1
namespace Go.Proofs.Ytncbnejldlfbdaa.PIdx
open Go.RowKit Go.Proofs.YtncbnejldlfbdaaW.PrintWords Go.Proofs.YtncbnejldlfbdaaW.PrintLast Go.Proofs.YtncbnejldlfbdaaW.PrintMore
open Go.Proofs.Ytncbnejldlfbdaa.PIndexFresh
open Go.Proofs.Ytncbnejldlfbdaa.PHeap (Row)
set_option linter.unusedVariables false
set_option linter.unusedSimpArgs false
/-- numbers as cells -/
def us (xs : List Int) : List Value := xs.map (fun x => .int .u64 x)
theorem us_length (xs : List Int) : (us xs).length = xs.length := by simp [us]
theorem us_one (xs : List Int) : ∀ u ∈ us xs, u.oneCell' = true := by
  intro u h
  obtain ⟨x, _, rfl⟩ := List.mem_map.1 h
  rfl
theorem info22 : (Try.prog.info? 22).map (fun i => (i.zero, i.size, i.bytes)) = some (some (.int .u64 0), 1, 8) := by kernel_rfl
theorem append_num {W : World} {ops : Array Oper} {rest : List Oper} {o : Oper} {a : Act} {Q : Exit → Act → World → Prop} (hgd : o.guard = none) (s x : Operand)
    (ho : o.op = .call { callee := .builtin .append, args := #[s, x], argTypes := #[36, 36] }) (base : Nat) (v : Value) (xs : List Int) (hs : a.eval s = v) (hown : Row W base 22 1 v xs.length (us xs)) (hb : base ≤ W.heap.size)
    (g c : Nat) (u : Int) (hx : a.eval x = .slice (some ⟨g, 0, none⟩) 1 c) (hc : W.cell? ⟨g, 0, none⟩ = some (.int .u64 u)) (hbig : xs.length < 17592186044000)
    (h : ∀ A' c' w', Row w' base 22 1 (.slice A' (xs ++ [u]).length c') (xs ++ [u]).length (us (xs ++ [u])) → W.grownBy w' v.ownBlock → wpList Try.prog ops Q rest (a.put o.dst (.slice A' (xs ++ [u]).length c')) w') :
    wpList Try.prog ops Q (o :: rest) a W := by
  obtain ⟨i0, hi, hzz⟩ := Option.map_eq_some_iff.1 info22
  simp only [Prod.mk.injEq] at hzz
  obtain ⟨hz0, hz1, hz2⟩ := hzz
  refine wpList_append_own_at W hgd s x 36 ho base 22 i0 _ 1 8 Try.underlying36 hi hz0 hz1 hz2 rfl (by decide) v xs.length (us xs) hs hown.own ⟨g, 0, none⟩ 1 c (us [u]) hx (by rw [us_length]; rfl) (fun j w hj => ?_) (us_one _) (by simp only [maxLen]; omega) (by omega) hb ?_
  · match j with
    | 0 => simp [us] at hj; subst hj; exact hc
    | j + 1 => simp [us] at hj
  · intro v1 w1 hown1 hg _ _
    have h1 : Row w1 base 22 1 v1 (xs ++ [u]).length (us (xs ++ [u])) := by
      rw [List.length_append, show us (xs ++ [u]) = us xs ++ us [u] from by simp [us]]
      exact hown1
    obtain ⟨A', c', rfl, _⟩ := h1.form
    exact h A' c' w1 h1 hg
/-- a row of numbers reads as one that came in -/
theorem nums_read {w : World} {base : Nat} {A : Option Addr} {c : Nat} {xs : List Int} (h : Row w base 22 1 (.slice A xs.length c) xs.length (us xs)) (hl : xs.length ≤ 9223372036854775807) : (Kd.int .u64).C w A xs.length xs := by
  refine ⟨rfl, hl, fun h0 => ?_⟩
  obtain ⟨g, cap, cur, e, _, _, hc, _⟩ := h.at_ h0
  injection e with e _ _
  refine ⟨_, e, fun j p hj => ⟨[.int .u64 p], rfl, rfl, fun i u hu => ?_⟩⟩
  have hj2 : j < xs.length := (List.getElem?_eq_some_iff.1 hj).1
  match i with
  | 0 =>
    simp only [List.getElem?_cons_zero, Option.some.injEq] at hu
    subst hu
    have h2 := hc j (by omega)
    rw [show (us xs)[j]? = some (.int .u64 p) from by simp [us, hj]] at h2
    show w.cell? ((⟨g, 0, none⟩ : Addr).add (j * 1 + 0)) = _
    rw [Nat.mul_one, Nat.add_zero, add_zero_lit]
    exact h2
  | i + 1 => simp at hu
/-- the numbers that aren't there, of the first i -/
def missL (T : List It) (p : Int → Bool) (i : Nat) : List Int := ((T.take i).filter (fun t => !p (ky t))).map ky
theorem miss_yes {T : List It} {p : Int → Bool} {i : Nat} (hi : i < T.length) (h : p (ky (gi T i)) = true) : missL T p (i + 1) = missL T p i := by
  unfold missL
  rw [List.take_add_one, gi_some hi, List.filter_append]
  simp [h]
theorem miss_no {T : List It} {p : Int → Bool} {i : Nat} (hi : i < T.length) (h : p (ky (gi T i)) = false) : missL T p (i + 1) = missL T p i ++ [(gi T i).x.f0] := by
  unfold missL
  rw [List.take_add_one, gi_some hi, List.filter_append]
  rw [List.map_append, Option.toList_some, List.filter_cons_of_pos (by rw [h]; rfl)]
  rfl
theorem miss_le (T : List It) (p : Int → Bool) (i : Nat) : (missL T p i).length ≤ i := by
  unfold missL
  rw [List.length_map]
  exact Nat.le_trans (List.length_filter_le _ _) (by simp; omega)
set_option maxHeartbeats 40000000 in
set_option maxRecDepth 1000000 in
theorem missing_calls (gP : Nat) (A : Option Addr) (n c : Nat) (T : List It) (p : Int → Bool) (w : World) (hT : Lie w A T) (hn : T.length = n) (hbig : n ≤ 2513169434843)
    (hp : ∀ (id : Int) (W : World), Below w.heap.size w W → Calls Try.prog 22 #[.int .u64 id, .pointer (some ⟨gP, 0, none⟩)] W fun e w' => e = .returned (.bool (p id)) ∧ Below W.heap.size W w') :
    Calls Try.prog 27 #[.slice A n c, .func (.func 22) #[] #[.pointer (some ⟨gP, 0, none⟩)]] w fun e w' => ∃ A' c', e = .returned (.slice A' (missL T p n).length c') ∧ Aside0 (Row w' w.heap.size 22 1 (.slice A' (missL T p n).length c') (missL T p n).length (us (missL T p n))) ∧ Aside0 (Below w.heap.size w w') := by
  have hu54 := Try.underlying54
  have hu65 := Try.underlying65
  have hu36 := Try.underlying36
  have HT := Aside0.mk hT
  have HN : Aside0 (T.length = n ∧ n ≤ 2513169434843) := ⟨hn, hbig⟩
  have HP := Aside0.mk hp
  clear hT hn hbig hp
  go_enter Try.func27, Try.ntmps27
  go_wp2
  go_loopw [5, 10] (fun v5 v10 wr => ∃ (i : Nat) (A5 : Option Addr) (c5 : Nat) (M : List Int), v5 = .slice A5 M.length c5 ∧ v10 = .int .i64 (i : Int) ∧ Aside0 (i ≤ n ∧ M = missL T p i) ∧ Aside0 (Row wr w.heap.size 22 1 (.slice A5 M.length c5) M.length (us M)) ∧ Aside0 (Below w.heap.size w wr)) (fun _ v10 _ => n - (intOf v10).toNat)
  case atStart => exact ⟨0, none, 0, [], rfl, rfl, ⟨Nat.zero_le _, rfl⟩, ⟨Row.nil _ _ _ _⟩, ⟨Below.refl _ _⟩⟩
  case round =>
    obtain ⟨i, A5, c5, M, rfl, rfl, HI, HR, HB⟩ := hrel
    by_cases hin : i < n
    · have d1 : decide (i < n) = true := decide_eq_true hin
      have HIN := Aside0.mk hin
      have e1 : (i : Int) ≤ 2513169434843 := by have := HN.out; omega
      obtain ⟨ad, rfl, hcl⟩ := HT.out (by have := HN.out; omega)
      have HTI : Aside0 (T[i]? = some (gi T i)) := ⟨gi_some (by have := HN.out; omega)⟩
      obtain ⟨t0, t1, t2, t3⟩ := cells4_at T i (gi T i) HTI.out
      have x0 := pw_cell_below HB.out (hcl _ _ t0)
      have x1 : wr.cell? ⟨(ad.add (i * 4)).block, (ad.add (i * 4)).off + 1, none⟩ = some (.int .i64 (gi T i).x.f1.f0) := by rw [← add_field _ _ 1 (by omega)]; exact pw_cell_below HB.out (hcl _ _ t1)
      have x2 : wr.cell? ⟨(ad.add (i * 4)).block, (ad.add (i * 4)).off + 2, none⟩ = some (.slice (gi T i).A (gi T i).x.f1.f1.length (gi T i).c) := by rw [← add_field _ _ 2 (by omega)]; exact pw_cell_below HB.out (hcl _ _ t2)
      have x3 : wr.cell? ⟨(ad.add (i * 4)).block, (ad.add (i * 4)).off + 3, none⟩ = some (.string (gi T i).x.f1.f2) := by rw [← add_field _ _ 3 (by omega)]; exact pw_cell_below HB.out (hcl _ _ t3)
      clear t0 t1 t2 t3 hcl
      go_upto_region 4 with (fail)
      go_cut [7] (fun v7 wx => ∃ gX, v7 = .pointer (some ⟨gX, 0, none⟩) ∧ Aside0 (wx.heap[gX]? = some (.cells #[.int .u64 (gi T i).x.f0, .int .i64 (gi T i).x.f1.f0, .slice (gi T i).A (gi T i).x.f1.f1.length (gi T i).c, .string (gi T i).x.f1.f2] 65 (0, 0))) ∧ Aside0 (Below wr.heap.size wr wx))
      case first =>
        go_wp2
        go_meet
        exact ⟨_, rfl, ⟨blk_new _ _⟩, ⟨below_alloc (Below.refl _ _) _⟩⟩
      case rest =>
        obtain ⟨gX, rfl, HX, HB2⟩ := hcut
        have HRR : Aside0 (Row wc w.heap.size 22 1 (.slice A5 M.length c5) M.length (us M)) := ⟨HR.out.below HB2.out⟩
        have HBB := Aside0.mk (below_step HB.out HB2.out)
        have y0 : wc.cell? ⟨gX, 0, none⟩ = some (.int .u64 (gi T i).x.f0) := (blk_cell HX.out 0).trans rfl
        have HML : Aside0 (M.length < 17592186044000) := ⟨by have := miss_le T p i; rw [← HI.out.2] at this; have := HN.out; have := HIN.out; omega⟩
        clear x0 x1 x2 x3 HX HB HB2 HR
        cases hq : p (gi T i).x.f0 with
        | true =>
          have HMQ : Aside0 (M = missL T p (i + 1)) := ⟨by rw [miss_yes (by have := HN.out; have := HIN.out; omega) hq]; exact HI.out.2⟩
          go_wp2_with ((go_at_call 22; (with_reducible refine (HP.out (gi T i).x.f0 _ HBB.out).mono ?_); rintro e w1 ⟨rfl, hb⟩; have HR3 := Aside0.mk (HRR.out.below hb); have HB3 := Aside0.mk (below_step HBB.out hb); have y1 := pw_cell_below hb y0; clear hb))
          go_roundw
          case rel => exact ⟨i + 1, A5, c5, M, rfl, by go_num, ⟨by have := HIN.out; omega, HMQ.out⟩, HR3, HB3⟩
          case measure => simp [intOf]; have := HIN.out; omega
        | false =>
          have HMQ : Aside0 (M ++ [(gi T i).x.f0] = missL T p (i + 1)) := ⟨by rw [miss_no (by have := HN.out; have := HIN.out; omega) hq, ← HI.out.2]⟩
          go_wp2_with (first | (go_at_call 22; (with_reducible refine (HP.out (gi T i).x.f0 _ HBB.out).mono ?_); rintro e w1 ⟨rfl, hb⟩; have HR3 := Aside0.mk (HRR.out.below hb); have HB3 := Aside0.mk (below_step HBB.out hb); have y1 := pw_cell_below hb y0; clear hb) | ((with_reducible refine gate_builtin (b := .append) (xs := #[.tmp 19, .tmp 22]) rfl ?_); refine append_num rfl (.tmp 19) (.tmp 22) rfl w.heap.size _ M rfl (HR3.out.below (below_alloc (Below.refl _ _) (.cells #[.int .u64 (gi T i).x.f0] 22))) (Nat.le_trans HB3.out.size (below_alloc (Below.refl _ _) (.cells #[.int .u64 (gi T i).x.f0] 22)).size) w1.heap.size _ (gi T i).x.f0 rfl ((blk_cell (blk_new w1 _) 0).trans rfl) HML.out ?_; intro A9 c9 w2 hr hg; have HR4 := Aside0.mk hr; have HB4 := Aside0.mk ((below_alloc HB3.out (.cells #[.int .u64 (gi T i).x.f0] 22)).grown hg (Nat.le_trans HB3.out.size (below_alloc (Below.refl _ _) (.cells #[.int .u64 (gi T i).x.f0] 22)).size) (fun k hk => own_base HR3.out.own k hk)); clear hr hg))
          go_roundw
          case rel => exact ⟨i + 1, A9, c9, M ++ [(gi T i).x.f0], by rw [List.length_append]; rfl, by go_num, ⟨by have := HIN.out; omega, HMQ.out⟩, HR4, HB4⟩
          case measure => simp [intOf]; have := HIN.out; omega
    · have d1 : decide (i < n) = false := decide_eq_false hin
      have HE : Aside0 (M = missL T p n) := ⟨by rw [HI.out.2, show i = n from by have := HI.out.1; omega]⟩
      clear hin
      go_wp2
      go_returns
      obtain rfl := HE.out
      exact ⟨A5, c5, rfl, HR, HB⟩
theorem no_calls (id : Int) (w : World) : Calls Try.prog 51 #[.int .u64 id] w fun e w' => e = .returned (.bool false) ∧ Below w.heap.size w w' := by
  go_enter Try.func51, Try.ntmps51
  go_wp2
  go_returns
  exact ⟨rfl, Below.refl _ _⟩
/-- In as plain law -/
theorem in_ev (l : List Int) (a : Int) (hl : l.length < 9223372036854775807) : Ev (fun k => waywiserref21_In.f k l a) (decide (a ∈ l)) := by
  have key : ∀ (d i : Nat), d + i = l.length → Ev (fun k => waywiserref21_In.l0 k l a (i : Int)) (decide (a ∈ l.drop i)) := by
    intro d
    induction d with
    | zero =>
      intro i hi
      refine Ev.step (f := fun _ => some (decide (a ∈ l.drop i))) (fun k => ?_) (Ev.now _)
      rw [waywiserref21_In.l0, if_neg (by omega), List.drop_of_length_le (by omega)]
      simp
    | succ d ih =>
      intro i hi
      have hil : i < l.length := by omega
      have hrd : rd l (i : Int) = l[i] := by unfold rd; rw [Int.toNat_natCast, List.getD_eq_getElem?_getD, List.getElem?_eq_getElem hil]; rfl
      have hdr : l.drop i = l[i] :: l.drop (i + 1) := List.drop_eq_getElem_cons hil
      by_cases h : l[i] = a
      · refine Ev.step (f := fun _ => some (decide (a ∈ l.drop i))) (fun k => ?_) (Ev.now _)
        rw [waywiserref21_In.l0, if_pos (by omega), if_pos (by omega), hrd, if_pos h, hdr]
        simp [h]
      · have e : decide (a ∈ l.drop i) = decide (a ∈ l.drop (i + 1)) := by
          rw [hdr, decide_eq_decide, List.mem_cons]
          exact ⟨fun q => q.resolve_left (fun e => h e.symm), .inr⟩
        rw [e]
        refine Ev.step (f := fun k => waywiserref21_In.l0 k l a ((i + 1 : Nat) : Int)) (fun k => ?_) (ih (i + 1) (by omega))
        rw [waywiserref21_In.l0, if_pos (by omega), if_pos (by omega), hrd, if_neg h]
        congr 1
        unfold wrap64
        omega
  have := key l.length 0 (by omega)
  simpa [waywiserref21_In.f] using this
theorem has_calls (gP : Nat) (Z : List Int) (At : Option Addr) (ct : Nat) (w : World) (id : Int) (hg : w.cell? ⟨gP, 0, none⟩ = some (.slice At Z.length ct)) (hZ : (Kd.int .u64).C w At Z.length Z) (hct : Z.length ≤ ct) (hl : Z.length < 9223372036854775807) :
    Calls Try.prog 22 #[.int .u64 id, .pointer (some ⟨gP, 0, none⟩)] w fun e w' => e = .returned (.bool (decide (id ∈ Z))) ∧ Below w.heap.size w w' := by
  obtain ⟨k, hk⟩ := (in_ev Z id hl).rounds
  have HC := Aside0.mk (fun W (h : Drawn0 w W) => waywiserref21_In.calls k At ct Z id (decide (id ∈ Z)) W (Kd.C_below hZ h.below) hct hk)
  clear hk hZ hct hl
  go_enter Try.func22, Try.ntmps22
  go_wp2_with ((go_at_call 23; (with_reducible refine (HC.out _ (Drawn0.refl _)).mono ?_); rintro e w1 ⟨rfl, hd⟩; have HB := Aside0.mk hd.below; clear hd))
  go_returns
  exact ⟨rfl, HB.out⟩
end Go.Proofs.Ytncbnejldlfbdaa.PIdx
