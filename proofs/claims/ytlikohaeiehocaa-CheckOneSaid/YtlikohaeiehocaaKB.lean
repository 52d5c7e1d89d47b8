/- What check.Seal answers; no condition. -/
import Derived.Test.YtlikohaeiehocaaKA
import Derived.Laws.CopyOwn
import Derived.Laws.MakeOwn
namespace Go.Proofs.Ytlikohaeiehocaa.PCheck
open Go.RowKit Go.Proofs.YtlikohaeiehocaaW.PrintWords Go.Proofs.YtlikohaeiehocaaW.PrintLast Go.Proofs.YtlikohaeiehocaaW.PrintMore
set_option linter.unusedVariables false
set_option linter.unusedSimpArgs false
attribute [local go_sem] max2_int min2_int max_two min_two max_three min_three max_four min_four

/-- 'make([]byte, n, n + 8)' -/
theorem seal_make (n : Nat) (hn : n < 140737488355328) : ∀ u : World, (Instr.makeSlice 23 (.int .i64 (n : Int)) (.int .i64 ((n : Int) + 8))).run Try.prog u =
    .ok (.slice (some ⟨u.heap.size, 0, none⟩) n (n + 8)) (u.alloc (.cells (madeCells #[.int .u8 0] (n + 8)) 5)) := fun u => by
  obtain ⟨i0, hi, hzz⟩ := Option.map_eq_some_iff.1 info5
  simp only [Prod.mk.injEq] at hzz
  obtain ⟨hz0, hz1, hz2⟩ := hzz
  have h := run_make (P := Try.prog) (w := u) 23 5 i0 (.int .u8 0) Try.underlying23 hi hz0 .i64 .i64 (n : Int) ((n : Int) + 8) (by omega) (by omega) (by rw [hz2]; omega) (by omega)
  rw [hz1, Int.toNat_natCast, show ((n : Int) + 8).toNat = n + 8 from by omega, Nat.mul_one] at h
  exact h
/-- 'copy(out, b)': what was made holds b's bytes, and room for eight more -/
theorem seal_copy {ops : Array Oper} {rest : List Oper} {o : Oper} {a : Act} {Q : Exit → Act → World → Prop} {W : World} (hgd : o.guard = none) (d s : Operand)
    (ho : o.op = .call { callee := .builtin .copy, args := #[d, s], argTypes := #[23, 23] }) (w : World) (g : Nat) (A : Option Addr) (n c : Nat) (l : List Int)
    (hd : a.eval d = .slice (some ⟨g, 0, none⟩) n (n + 8)) (hs : a.eval s = .slice A n c) (hg : W.heap[g]? = some (.cells (madeCells #[.int .u8 0] (n + 8)) 5 (0, 0)))
    (hr : Kd.C (Kd.int .u8) w A n l) (hB : Below w.heap.size w W) (hbase : w.heap.size ≤ g) (hn : n < 140737488355328)
    (h : ∀ w', Kd.R (Kd.int .u8) 5 w' w.heap.size (fun _ => True) (.slice (some ⟨g, 0, none⟩) n (n + 8)) l → Below w.heap.size w w' → wpList Try.prog ops Q rest (a.put o.dst (goInt n)) w') : wpList Try.prog ops Q (o :: rest) a W := by
  have hll : l.length = n := hr.1
  have hlen : (nums .u8 l).length = n := by rw [nums_length, hll]
  have hsz : (madeCells #[Value.int .u8 0] (n + 8)).toList.length = n + 8 := by simp [madeCells]
  refine wpList_copy_splice hgd d s 23 23 ho 5 Try.underlying23 (by kernel_rfl) _ A n (n + 8) n c hd hs g 0 (madeCells #[.int .u8 0] (n + 8)).toList 5 (by simpa using hg) (nums .u8 l) (by rw [hlen]; exact (Nat.min_self n).symm)
    (fun hp => ⟨rfl, ?_⟩) (by rw [hlen, hsz]; omega) (fun v hv => ?_) w.heap.size w hB hbase (fun w' hw hb => ?_)
  · obtain ⟨ad, e, hc⟩ := hr.2.2 (by omega)
    refine ⟨ad, e, fun j v hj => ?_⟩
    obtain ⟨p, hp1, hp2⟩ : ∃ p, l[j]? = some p ∧ Value.int .u8 p = v := by simpa [nums] using hj
    obtain ⟨cc, _, hk, hcell⟩ := hc j p hp1
    obtain rfl : cc = [.int .u8 p] := hk
    have := hcell 0 (.int .u8 p) rfl
    rw [← hp2]
    exact pw_cell_below hB (by simpa [Kd.int, Kd.scalar] using this)
  · obtain ⟨p, _, rfl⟩ := List.mem_map.1 hv
    rfl
  · rw [hlen]
    refine h w' (Kd.R_of_own (enc := Value.int .u8) (h1 := fun _ => rfl) ?_ (fun _ _ => trivial)) hb
    refine ⟨by rw [hll]; simp [encs, hll], .inr ⟨g, n + 8, _, by rw [hll], hbase, hw, by omega, by simp only [maxLen]; omega, ?_, ?_⟩⟩
    · simp only [splice, List.take_zero, List.nil_append, Nat.zero_add, hlen, List.size_toArray, List.length_append, List.length_drop, hsz]; omega
    · simp only [splice, List.take_zero, List.nil_append, Nat.zero_add, hlen, hll, Nat.mul_one]
      rw [List.take_append_of_le_length (by omega), List.take_of_length_le (by omega)]
      rfl
/-! ### check_Seal: function 13 -/
def check_Seal.l0 : Nat → List Int → Int → Int → Option (List Int)
  | 0, _, _, _ => none
  | k + 1, x3, x4, x16 => if x16 < 8 then (if x3.length < 140737488355328 then (check_Seal.l0 k (x3 ++ [(x4) % 256]) (x4 / 256) (wrap64 (x16 + 1))) else (none)) else (some x3)
def check_Seal.f (k : Nat) (l0 : List Int) : Option (List Int) := if ([] : List Int).length + l0.length < 140737488355328 then ((check_Of.f k l0).bind fun t106 => (check_Seal.l0 k (([] : List Int) ++ l0) t106 0)) else (none)
theorem check_Seal.mono_l : ∀ k, (∀ y0 y1 y2, LeO (check_Seal.l0 k y0 y1 y2) (check_Seal.l0 (k + 1) y0 y1 y2))
  | 0 => fun _ _ _ r h => by simp [check_Seal.l0] at h
  | k + 1 => by
    have ih0 := check_Seal.mono_l k
    · intro y0 y1 y2
      unfold check_Seal.l0
      repeat' first
      | (with_reducible exact ih0 _ _ _)
      | (with_reducible exact check_Of.mono _ _)
      | (with_reducible exact LeO.refl _)
      | (with_reducible exact LeO.none _)
      | (with_reducible refine LeO.ite ?_ ?_)
      | (with_reducible refine LeO.bind ?_ (fun _ => ?_))
      | exact ih0 _ _ _
      | exact check_Of.mono _ _
      | exact LeO.none _
      | refine LeO.ite ?_ ?_
      | refine LeO.bind ?_ (fun _ => ?_)
theorem check_Seal.mono : ∀ a0 k, LeO (check_Seal.f k a0) (check_Seal.f (k + 1) a0) := by
  intro a0 k
  have ih0 := check_Seal.mono_l k
  unfold check_Seal.f
  repeat' first
      | (with_reducible exact ih0 _ _ _)
      | (with_reducible exact check_Of.mono _ _)
      | (with_reducible exact LeO.refl _)
      | (with_reducible exact LeO.none _)
      | (with_reducible refine LeO.ite ?_ ?_)
      | (with_reducible refine LeO.bind ?_ (fun _ => ?_))
      | exact ih0 _ _ _
      | exact check_Of.mono _ _
      | exact LeO.none _
      | refine LeO.ite ?_ ?_
      | refine LeO.bind ?_ (fun _ => ?_)
set_option maxHeartbeats 8000000 in
set_option maxRecDepth 100000 in
theorem check_Seal.calls (k : Nat) (A0 : Option Addr) (c0 : Nat) (l0 : List Int) (r : List Int) (w : World) (hr0 : Kd.C (Kd.int .u8) w A0 l0.length l0) (hc0 : l0.length ≤ c0) (h : check_Seal.f k l0 = some r) :
    Calls Try.prog 13 #[.slice A0 l0.length c0] w fun e w' => ∃ v0_ : Value, e = .returned (v0_) ∧ Kd.R (Kd.int .u8) 5 w' w.heap.size (fun _ => True) v0_ r ∧ Below w.heap.size w w' := by
  have HR0 := Aside0.mk hr0
  have HC0 := Aside0.mk hc0
  clear hr0 hc0
  have HB := Aside0.mk (Below.refl w.heap.size w)
  have H : (if ([] : List Int).length + l0.length < 140737488355328 then ((check_Of.f k l0).bind fun t106 => (check_Seal.l0 k (([] : List Int) ++ l0) t106 0)) else (none)) = some r := h
  clear h
  by_cases c2 : ([] : List Int).length + l0.length < 140737488355328
  · rw [if_pos c2] at H
    have LMc2 := Aside0.mk c2
    clear c2
    obtain ⟨y103, hy103⟩ : ∃ y_ : List Int, y_ = (([] : List Int) ++ l0) := ⟨_, rfl⟩
    replace H : ((check_Of.f k l0).bind fun t106 => (check_Seal.l0 k y103 t106 0)) = some r := by first | (rw [hy103]; with_reducible exact H) | (have H2_ := (Option.bind_some _ _).symm.trans H; rw [hy103]; with_reducible exact H2_) | (have H2_ := (Option.bind_some _ _).symm.trans H; with_reducible exact H2_) | with_reducible exact H | (rw [hy103]; exact H) | exact H
    have Ny103 := Aside0.mk hy103
    clear hy103
    replace H := Option.bind_eq_some_iff.mp H
    obtain ⟨t106, A30, H⟩ := H
    replace H : (check_Seal.l0 k y103 t106 0) = some r := H
    have A3 := Aside0.mk A30
    clear A30
    have H' := Aside0.mk H
    clear H
    go_enter Try.func13, Try.ntmps13
    have hlen : l0.length < 140737488355328 := by have := LMc2.out; simp only [List.length_nil, Nat.zero_add] at this; exact this
    have hmk := seal_make l0.length hlen
    have HN : Aside0 (y103 = l0) := ⟨Ny103.out.trans (List.nil_append _)⟩
    go_wp2_with (first | ((with_reducible refine gate_builtin (b := .copy) (xs := #[.tmp 11, .tmp 12]) rfl ?_); refine seal_copy rfl (.tmp 11) (.tmp 12) rfl w w.heap.size A0 l0.length c0 l0 rfl rfl ?aH ?aR ?aB (Nat.le_refl _) hlen ?_; (case aH => exact heap_alloc_new _ _); (case aR => exact HR0.out); (case aB => exact below_alloc (Below.refl _ _) _); intro w4 ho hb; have n0_ := Aside0.mk (hb); have n1_ : Aside0 (Kd.R (Kd.int .u8) 5 w4 w.heap.size (fun _ => True) (.slice (some ⟨w.heap.size, 0, none⟩) l0.length (l0.length + 8)) y103) := ⟨by rw [HN.out]; exact ho⟩; clear HB; have HB := n0_; have HO105 := n1_; clear n0_ n1_; clear ho hb) | ((with_reducible refine gate_callee (f := 10) rfl ?_); refine goesL_ (some 15) rfl rfl Try.func10 (by kernel_rfl) rfl #[.slice A0 l0.length c0] rfl (by (try simp only [List.map_toArray, List.map_cons, List.map_nil]); first | done | rfl | (simp only [List.length_drop, List.length_take]; rfl)) ?_; (with_reducible refine (check_Of.calls k _ _ l0 t106 _ ?side1 ?side2 A3.out).mono ?_); (case side1 => repeat (first | exact (Kd.C_below HR0.out HB.out) | (with_reducible refine Kd.C_alloc ?_ _) | (with_reducible refine Kd.C_drewN ?_ _) | (with_reducible refine Kd.C_drew ?_))); (case side2 => exact HC0.out); rintro e w' ⟨rfl, ⟨nd, rfl⟩⟩; refine ⟨_, rfl, ?_⟩))
    go_loopg [3, 4, 16] k (fun kq v3 v4 v16 w' => ∃ (x3_1 : List Int) (x4_1 : Int) (x16_1 : Int), v4 = .int .u64 x4_1 ∧ v16 = .int .i64 x16_1 ∧ Aside0 (check_Seal.l0 kq x3_1 x4_1 x16_1 = some r) ∧ Aside0 (kq ≤ k) ∧ Aside0 (Kd.R (Kd.int .u8) 5 w' w.heap.size (fun _ => True) v3 x3_1) ∧ Aside0 (Below w.heap.size w w'))
    case atStart => exact ⟨(y103), (t106), (0), (by first | rfl | (simp; done) | (simp [*]; done)), (by first | rfl | (simp; done) | (simp [*]; done)), H', ⟨Nat.le_refl _⟩, ⟨by (with_reducible repeat (first | apply Kd.R_alloc | apply Kd.R_drewN | apply Kd.R_drew)); exact HO105.out⟩, ⟨by repeat (first | (with_reducible first | exact HB.out | apply below_alloc | apply pw_below_drewN | apply below_drew1) | exact HB.out)⟩⟩
    case round =>
      clear H'
      try clear c1
      try clear c2
      try clear p2
      obtain ⟨x3_1, x4_1, x16_1, rfl, rfl, HA, HK1, HO_3, HB⟩ := hrel
      cases gk with
      | zero => exact absurd HA.out (by simp [check_Seal.l0])
      | succ k1 =>
        have H := HA.out
        clear HA
        simp only [check_Seal.l0] at H
        by_cases c5 : x16_1 < 8
        · rw [if_pos c5] at H
          have c5b0 : decide (x16_1 < 8) = true := decide_eq_true c5
          clear c5
          by_cases c6 : x3_1.length < 140737488355328
          · rw [if_pos c6] at H
            have LMc6 := Aside0.mk c6
            clear c6
            obtain ⟨y107, hy107⟩ : ∃ y_ : List Int, y_ = (x3_1 ++ [(x4_1) % 256]) := ⟨_, rfl⟩
            replace H : (check_Seal.l0 k1 y107 (x4_1 / 256) (wrap64 (x16_1 + 1))) = some r := by first | (rw [hy107]; with_reducible exact H) | (have H2_ := (Option.bind_some _ _).symm.trans H; rw [hy107]; with_reducible exact H2_) | (have H2_ := (Option.bind_some _ _).symm.trans H; with_reducible exact H2_) | with_reducible exact H | (rw [hy107]; exact H) | exact H
            have Ny107 := Aside0.mk hy107
            clear hy107
            have H' := Aside0.mk H
            clear H
            go_wp2_with (first | ((with_reducible refine gate_builtin (b := .append) (xs := #[.tmp 18, .tmp 21]) rfl ?_); at_builtin; refine Kd.R_append (Kd.int .u8) (w0 := w) w.heap.size rfl (.tmp 18) (.tmp 21) 23 5 (.int .u8 0) 1 rfl Try.underlying23 info5 rfl (by decide) (by omega) u3 x3_1 ((x4_1) % 256) [.int .u8 ((x4_1) % 256)] (fun _ => True) (fun _ => False) rfl rfl ?aP (fun _ hk => hk.elim) ?aF ?aO ?aB ?aS ?aL ?_; (case aP => exact rfl); (case aB => exact (by repeat (first | (with_reducible first | exact HB.out | apply below_alloc | apply pw_below_drewN | apply below_drew1) | exact HB.out))); (case aF => exact (fun _ _ => trivial)); (case aO => exact (by (with_reducible repeat (first | apply Kd.R_alloc | apply Kd.R_drewN | apply Kd.R_drew)); exact HO_3.out)); (case aS => exact (below_size (by repeat (first | (with_reducible first | exact HB.out | apply below_alloc | apply pw_below_drewN | apply below_drew1) | exact HB.out)))); (case aL => have := LMc6.out; omega); intro v108 w7 ho hb hg hat; rw [← Ny107.out] at ho; have n0_ := Aside0.mk (hb); have n1_ := Aside0.mk (ho); clear HB; clear HO_3; have HB := n0_; have HO109 := n1_; clear n0_ n1_; clear ho hb hg hat))
            go_roundg k1
            case measure => have := HK1.out; omega
            case rel => exact ⟨(y107), (x4_1 / 256), (wrap64 (x16_1 + 1)), (by first | rfl | (simp; done) | (simp [*]; done)), (by first | rfl | (simp; done) | (simp [*]; done)), H', ⟨by have := HK1.out; omega⟩, ⟨by (with_reducible repeat (first | apply Kd.R_alloc | apply Kd.R_drewN | apply Kd.R_drew)); exact HO109.out⟩, ⟨by repeat (first | (with_reducible first | exact HB.out | apply below_alloc | apply pw_below_drewN | apply below_drew1) | exact HB.out)⟩⟩
          · rw [if_neg c6] at H
            exact absurd H (by simp)
        · rw [if_neg c5] at H
          have c5b0 : decide (x16_1 < 8) = false := decide_eq_false c5
          clear c5
          obtain rfl := Option.some.inj H
          go_wp2
          go_ret
          exact ⟨_, by first | rfl | (simp [errW_none, errW_some] <;> rfl) | (simp [*, errW_none, errW_some] <;> rfl), by (with_reducible repeat (first | apply Kd.R_alloc | apply Kd.R_drewN | apply Kd.R_drew)); exact HO_3.out, by repeat (first | (with_reducible first | exact HB.out | apply below_alloc | apply pw_below_drewN | apply below_drew1) | exact HB.out)⟩
  · rw [if_neg c2] at H
    exact absurd H (by simp)


end Go.Proofs.Ytlikohaeiehocaa.PCheck
