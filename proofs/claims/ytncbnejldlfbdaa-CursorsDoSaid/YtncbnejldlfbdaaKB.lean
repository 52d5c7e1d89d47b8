/- What walk of the law's package 29 leaves: a walk of things; of at most 40 hits. -/
import Derived.Test.YtncbnejldlfbdaaKA
import Derived.Test.YtncbnejldlfbdaaFX
namespace Go.Proofs.Ytncbnejldlfbdaa.PCur
open Go.RowKit Go.Proofs.YtncbnejldlfbdaaW.PrintWords Go.Proofs.YtncbnejldlfbdaaW.PrintLast Go.Proofs.YtncbnejldlfbdaaW.PrintMore
open Go.Proofs.Ytncbnejldlfbdaa.PCursorsDo Go.Proofs.Ytncbnejldlfbdaa.PHeap
set_option linter.unusedVariables false
set_option linter.unusedSimpArgs false
def toE (x : S31) : Ent := (x.f1, -1, x.f0)
theorem ents_of_row {w : World} {base : Nat} {A : Option Addr} {es : List Ent} {c : Nat} (h : Row w base 98 3 (.slice A es.length c) es.length (cells3 es)) : Ents w A es ∧ es.length ≤ c := by
  obtain ⟨A', c', he, hc⟩ := h.form
  simp only [Value.slice.injEq, true_and] at he
  obtain ⟨rfl, rfl⟩ := he
  refine ⟨fun i hi => ?_, hc⟩
  obtain ⟨g, cap, cur, hv, _, _, hcell, _⟩ := h.at_ (by omega)
  simp only [Value.slice.injEq, true_and] at hv
  obtain ⟨rfl, rfl⟩ := hv
  have h3 := cells3_at es i _ (gt_some hi)
  refine ⟨_, rfl, ?_⟩
  rw [add_plain, add_plain, add_plain]
  exact ⟨(hcell _ (by omega)).trans h3.1, (hcell _ (by omega)).trans h3.2.1, (hcell _ (by omega)).trans h3.2.2⟩
theorem take_map_snoc {hs : List S31} {n : Nat} (h : n < hs.length) : (hs.map toE).take (n + 1) = (hs.map toE).take n ++ [((rd_T31 hs n).f1, -1, (rd_T31 hs n).f0)] := by
  rw [List.take_succ_eq_append_getElem (by simpa using h), rd31 h]
  simp [toE]
set_option maxHeartbeats 8000000 in
set_option maxRecDepth 1000000 in
theorem walk_calls (A0 : Option Addr) (hs : List S31) (c0 : Nat) (w : World) (hr : Kd.C k31 w A0 hs.length hs) (hn : hs.length ≤ 40) :
    Calls Try.prog 33 #[.slice A0 hs.length c0] w fun e w' => ∃ gW l, e = .returned (.pointer (some ⟨gW, 0, none⟩)) ∧ Aside0 (Wk w' w.heap.size gW .nilFunc l 0 (fun k => w.heap.size ≤ k)) ∧ Aside0 (l.Perm (hs.map toE)) ∧ Aside0 (Below w.heap.size w w') := by
  have hu31 := Try.underlying31
  have hu98 := Try.underlying98
  have HR := Aside0.mk hr
  have M0 := Aside0.mk hn
  have hnb : (hs.length : Int) ≤ 40 := by omega
  clear hr hn
  go_enter Try.func33, Try.ntmps33
  go_wp2
  go_loopw [3, 4] (fun v3 v4 wr => ∃ (n : Nat) (A : Option Addr) (c : Nat), v3 = .slice A n c ∧ v4 = .int .i64 (n : Int) ∧ Aside0 (n ≤ hs.length) ∧ Aside0 (Row wr w.heap.size 98 3 (.slice A n c) n (cells3 ((hs.map toE).take n))) ∧ Aside0 (Below w.heap.size w wr)) (fun _ v4 _ => hs.length - (intOf v4).toNat)
  case atStart => exact ⟨0, none, 0, rfl, rfl, ⟨Nat.zero_le _⟩, ⟨Row.nil _ _ _ _⟩, ⟨Below.refl _ _⟩⟩
  case round =>
    obtain ⟨n, A, c, rfl, rfl, HN, HRow, HB⟩ := hrel
    have hnn : (n : Int) ≤ 40 := by have := HN.out; have := M0.out; omega
    by_cases hlt : n < hs.length
    · obtain ⟨ad, rfl, x0, x1⟩ := at_T31 (Kd.C_below HR.out HB.out) (n : Int) (by omega) (by omega)
      rw [Int.toNat_natCast] at x0 x1
      obtain ⟨p0, hp0⟩ : ∃ p, (rd_T31 hs n).f0 = p := ⟨_, rfl⟩
      obtain ⟨p1, hp1⟩ : ∃ p, (rd_T31 hs n).f1 = p := ⟨_, rfl⟩
      have HT : Aside0 ((hs.map toE).take (n + 1) = (hs.map toE).take n ++ [(p1, -1, p0)]) := ⟨by rw [take_map_snoc hlt, hp0, hp1]⟩
      rw [hp0] at x0
      rw [hp1] at x1
      clear hp0 hp1
      have R1 : Aside0 (Row wr.drew w.heap.size 98 3 (.slice A n c) n (cells3 ((hs.map toE).take n))) := ⟨HRow.out.below (below_drew1 (Below.refl _ _))⟩
      have B1 := Aside0.mk HB.out.drew
      have S1 : Aside0 (w.heap.size ≤ wr.drew.heap.size) := ⟨HB.out.size⟩
      have k1 : (n : Int) < (hs.length : Int) := by omega
      have k2 : (0 : Int) ≤ (n : Int) := by omega
      have d1 : decide (n < hs.length) = true := decide_eq_true hlt
      go_wp2
      refine start_ (n := 15) (S := fun w' => w'.cell? (ad.add (n * 2)) = some (.int .u64 p0) ∧ w'.cell? ⟨(ad.add (n * 2)).block, (ad.add (n * 2)).off + 1, none⟩ = some (.int .i64 p1)) (ds := [13]) #[false, false, false, false, false, false, false, false, false, false, false, false, false, false, false] (by kernel_rfl) rfl rfl ⟨x0, x1⟩ (fun hHeld => ?_)
      refine pure_ (i := 0) (N := some 11) (v := ?_) (a' := ?_) #[true, false, false, false, false, false, false, false, false, false, false, false, false, false, false] rfl rfl (by kernel_rfl) (fun _ _ _ h => h) (Or.inl ⟨by rfl, ?_⟩) ?_ ?_
      rotate_left
      · intro w'
        go_simp
        with_reducible rfl
      rotate_left
      · simp only [Act.put, List.setIfInBounds_toArray, List.set_cons_zero, List.set_cons_succ, i64_w, i32_w]
        rfl
      refine pure_ (i := 1) (N := some 12) (v := ?_) (a' := ?_) #[true, true, false, false, false, false, false, false, false, false, false, false, false, false, false] rfl rfl (by kernel_rfl) (fun _ _ _ h => h) (Or.inl ⟨by rfl, ?_⟩) ?_ ?_
      rotate_left
      · intro w'
        go_simp
        with_reducible rfl
      rotate_left
      · simp only [Act.put, List.setIfInBounds_toArray, List.set_cons_zero, List.set_cons_succ, i64_w, i32_w]
        rfl
      refine pure_ (i := 2) (N := some 13) (v := ?_) (a' := ?_) #[true, true, true, false, false, false, false, false, false, false, false, false, false, false, false] rfl rfl (by kernel_rfl) (fun _ _ _ h => h) (Or.inl ⟨by rfl, ?_⟩) ?_ ?_
      rotate_left
      · intro w'
        go_simp
        with_reducible rfl
      rotate_left
      · simp only [Act.put, List.setIfInBounds_toArray, List.set_cons_zero, List.set_cons_succ, i64_w, i32_w]
        rfl
      refine pure_ (i := 3) (N := some 14) (v := ?_) (a' := ?_) #[true, true, true, true, false, false, false, false, false, false, false, false, false, false, false] rfl rfl (by kernel_rfl) (fun _ _ _ h => h) (Or.inl ⟨by rfl, ?_⟩) ?_ ?_
      rotate_left
      · intro w'
        go_simp
        with_reducible rfl
      rotate_left
      · simp only [Act.put, List.setIfInBounds_toArray, List.set_cons_zero, List.set_cons_succ, i64_w, i32_w]
        rfl
      refine pure_ (i := 4) (N := some 15) (v := ?_) (a' := ?_) #[true, true, true, true, true, false, false, false, false, false, false, false, false, false, false] rfl rfl (by kernel_rfl) (fun _ _ _ h => h) (Or.inl ⟨by rfl, ?_⟩) ?_ ?_
      rotate_left
      · intro w'
        go_simp
        with_reducible rfl
      rotate_left
      · simp only [Act.put, List.setIfInBounds_toArray, List.set_cons_zero, List.set_cons_succ, i64_w, i32_w]
        rfl
      refine pure_ (i := 6) (N := some 17) (v := ?_) (a' := ?_) #[true, true, true, true, true, false, true, false, false, false, false, false, false, false, false] rfl rfl (by kernel_rfl) (fun _ _ _ h => h) (Or.inl ⟨by rfl, ?_⟩) ?_ ?_
      rotate_left
      · intro w'
        go_simp
        with_reducible rfl
      rotate_left
      · simp only [Act.put, List.setIfInBounds_toArray, List.set_cons_zero, List.set_cons_succ, i64_w, i32_w]
        rfl
      refine pure_ (i := 7) (N := some 18) (v := ?_) (a' := ?_) #[true, true, true, true, true, false, true, true, false, false, false, false, false, false, false] rfl rfl (by kernel_rfl) (fun _ _ _ h => h) (Or.inl ⟨by rfl, ?_⟩) ?_ ?_
      rotate_left
      · intro w'
        go_simp
        with_reducible rfl
      rotate_left
      · simp only [Act.put, List.setIfInBounds_toArray, List.set_cons_zero, List.set_cons_succ, i64_w, i32_w]
        rfl
      refine pure_ (i := 8) (N := some 19) (v := ?_) (a' := ?_) #[true, true, true, true, true, false, true, true, true, false, false, false, false, false, false] rfl rfl (by kernel_rfl) (fun _ _ _ h => h) (Or.inl ⟨by rfl, ?_⟩) ?_ ?_
      rotate_left
      · intro w'
        go_simp
        with_reducible rfl
      rotate_left
      · simp only [Act.put, List.setIfInBounds_toArray, List.set_cons_zero, List.set_cons_succ, i64_w, i32_w]
        rfl
      refine pure_ (i := 9) (N := some 20) (v := ?_) (a' := ?_) #[true, true, true, true, true, false, true, true, true, true, false, false, false, false, false] rfl rfl (by kernel_rfl) (fun _ _ _ h => h) (Or.inl ⟨by rfl, ?_⟩) ?_ ?_
      rotate_left
      · intro w'
        go_simp
        with_reducible rfl
      rotate_left
      · simp only [Act.put, List.setIfInBounds_toArray, List.set_cons_zero, List.set_cons_succ, i64_w, i32_w]
        rfl
      refine take_ (i := 5) (N := some 16) (v := ?_) (a' := ?_) #[true, true, true, true, true, true, true, true, true, true, false, false, false, false, false] rfl rfl (by kernel_rfl) (fun _ _ _ h => h) (Or.inl ⟨by rfl, ?_⟩) hHeld ?_ ?_
      rotate_left
      · rintro w' ⟨s0, s1⟩
        go_simp
        with_reducible rfl
      rotate_left
      · simp only [Act.put, List.setIfInBounds_toArray, List.set_cons_zero, List.set_cons_succ, i64_w, i32_w]
        rfl
      refine take_ (i := 10) (N := some 21) (v := ?_) (a' := ?_) #[true, true, true, true, true, true, true, true, true, true, true, false, false, false, false] rfl rfl (by kernel_rfl) (fun _ _ _ h => h) (Or.inl ⟨by rfl, ?_⟩) hHeld ?_ ?_
      rotate_left
      · rintro w' ⟨s0, s1⟩
        go_simp
        with_reducible rfl
      rotate_left
      · simp only [Act.put, List.setIfInBounds_toArray, List.set_cons_zero, List.set_cons_succ, i64_w, i32_w]
        rfl
      refine pure_ (i := 11) (N := some 22) (v := ?_) (a' := ?_) #[true, true, true, true, true, true, true, true, true, true, true, true, false, false, false] rfl rfl (by kernel_rfl) (fun _ _ _ h => h) (Or.inl ⟨by rfl, ?_⟩) ?_ ?_
      rotate_left
      · intro w'
        go_simp
        with_reducible rfl
      rotate_left
      · simp only [Act.put, List.setIfInBounds_toArray, List.set_cons_zero, List.set_cons_succ, i64_w, i32_w]
        rfl
      refine one_ (i := 12) (N := some 23) #[true, true, true, true, true, true, true, true, true, true, true, true, true, false, false] rfl rfl (by kernel_rfl) (by decide) (fun K hK => ?_)
      refine value_ (w1 := ?_) (v := ?_) (by rfl) rfl ?_ ?_
      rotate_left 2
      · go_simp
        constructor
        · rfl
        · rfl
      refine hK.out _ _ ⟨(pw_cell_below (below_alloc (Below.refl _ _) _) x0), (pw_cell_below (below_alloc (Below.refl _ _) _) x1)⟩ (fun hHeld => ?_)
      clear hK K
      refine norm_ (a' := ?_) ?_ ?_
      rotate_left
      · show Act.put _ (some 23) _ = _
        simp only [Act.put, List.setIfInBounds_toArray, List.set_cons_zero, List.set_cons_succ, i64_w, i32_w]
        rfl
      refine last_ (i := 13) (N := some 24) #[true, true, true, true, true, true, true, true, true, true, true, true, true, true, false] rfl rfl (by kernel_rfl) (by decide) (fun K hK => ?_)
      refine step_append_cells (w0 := w) (W := wr.drew) w.heap.size (by rfl) (.tmp 11) (.tmp 23) 40 98 (.agg #[.int .i64 0, .int .i64 0, .int .u64 0]) 3 24 rfl Try.underlying40 info98 rfl (by decide) (by decide) (.slice A n c) n (cells3 ((hs.map toE).take n)) [.int .i64 p1, .int .i64 (-1), .int .u64 p0] rfl (by rfl) rfl (by simp [Value.oneCell']) R1.out B1.out S1.out (by have := M0.out; omega) ?_
      intro v1 w1 hr hb1 hgr hat
      obtain ⟨A1, c1, rfl, hnc1⟩ := Row.form (Row.of_own hr)
      have R3 := Aside0.mk (Row.of_own hr)
      have B3 := Aside0.mk hb1
      clear hr hb1 hgr hat
      refine hK.out _ _ ?_
      clear hK K
      refine norm_ (a' := ?_) ?_ ?_
      rotate_left
      · show Act.put _ (some 24) _ = _
        simp only [Act.put, List.setIfInBounds_toArray, List.set_cons_zero, List.set_cons_succ, i64_w, i32_w]
        rfl
      refine pure_ (i := 14) (N := some 3) (v := ?_) (a' := ?_) #[true, true, true, true, true, true, true, true, true, true, true, true, true, true, true] rfl rfl (by kernel_rfl) (fun _ _ _ h => h) (Or.inl ⟨by rfl, ?_⟩) ?_ ?_
      rotate_left
      · intro w'
        go_simp
        with_reducible rfl
      rotate_left
      · simp only [Act.put, List.setIfInBounds_toArray, List.set_cons_zero, List.set_cons_succ, i64_w, i32_w]
        rfl
      refine done_ (by kernel_rfl) ?_
      go_wp2
      go_roundw
      case rel => exact ⟨n + 1, A1, c1, rfl, by go_num, ⟨by omega⟩, ⟨by rw [HT.out, cells3_snoc]; exact R3.out⟩, B3⟩
      case measure => simp [intOf]; omega
    · have h2 := HN.out
      obtain rfl : n = hs.length := by omega
      have HE : Aside0 (Ents wr A (hs.map toE) ∧ (hs.map toE).length ≤ c) := ⟨by
        have := HRow.out
        rw [List.take_of_length_le (by simp)] at this
        exact ents_of_row (base := w.heap.size) (by rw [List.length_map]; exact this)⟩
      have HC := Aside0.mk (fun (W : World) (hW : Ents W A (hs.map toE)) => new_nil A (hs.map toE) c W hW HE.out.2 (by rw [List.length_map]; have := M0.out; omega))
      have HL : Aside0 ((hs.map toE).length = hs.length) := ⟨List.length_map ..⟩
      rw [HL.out] at HC
      go_wp2_with ((go_at_call 40; (with_reducible refine (HC.out _ HE.out.1).mono ?_); rintro e w1 ⟨gW, l, rfl, h1, h2, h3⟩; have X1 := h1; have X2 := h2; have X3 := h3; clear h1 h2 h3))
      go_ret
      exact ⟨gW, l, rfl, ⟨(X1.out.weaken HB.out.size).mono (fun k hk => Nat.le_trans HB.out.size hk)⟩, X2, ⟨below_step HB.out X3.out⟩⟩
end Go.Proofs.Ytncbnejldlfbdaa.PCur
