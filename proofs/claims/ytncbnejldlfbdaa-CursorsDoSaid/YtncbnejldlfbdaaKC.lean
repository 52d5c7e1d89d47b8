/- What Open of the reference's table answers and leaves; of fewer than 2^40 cursors. -/
import Derived.Test.YtncbnejldlfbdaaKA
import Derived.StillTailTactics
import Derived.Handy
import Derived.BigRegion
namespace Go.Proofs.Ytncbnejldlfbdaa.PCur
open Go.RowKit Go.Proofs.YtncbnejldlfbdaaW.PrintWords Go.Proofs.YtncbnejldlfbdaaW.PrintLast Go.Proofs.YtncbnejldlfbdaaW.PrintMore
open Go.Proofs.Ytncbnejldlfbdaa.PCursorsDo
set_option linter.unusedVariables false
set_option linter.unusedSimpArgs false
theorem info86' : (Try.prog.info? 86).map (fun i => (i.zero, i.size, i.bytes)) = some (some (.agg #[.int .u64 0, .int .i64 0, .slice none 0 0]), 3, 40) := by kernel_rfl
theorem stored75 {W : World} {r : Nat} {a b c : Value} (h : W.heap[r]? = some (.cells #[a, b, c] 75 (0, 0))) (x y z : Value) :
    (((W.setCell ⟨r, 0, none⟩ x).setCell ⟨r, 1, none⟩ y).setCell ⟨r, 2, none⟩ z).heap[r]? = some (.cells #[x, y, z] 75 (0, 0)) := by
  simpa using blk_set (blk_set (blk_set h 0 x) 1 y) 2 z
set_option maxHeartbeats 8000000 in
set_option maxRecDepth 1000000 in
theorem refopen_full (most last ver : Int) (A : Option Addr) (n c : Nat) (vH : Value) (w : World) (hf : most ≤ (n : Int)) :
    Calls Try.prog 34 #[.agg #[.int .i64 most, .int .u64 last, .slice A n c], .int .i64 ver, vH] w fun e w' => e = .returned (.tuple #[.agg #[.int .i64 most, .int .u64 last, .slice A n c], .int .u64 0, .int .i64 6]) ∧ Below w.heap.size w w' := by
  have hu75 := Try.underlying75
  have HB := Aside0.mk (below_alloc (below_alloc (Below.refl w.heap.size w) (.cells #[.int .i64 most, .int .u64 last, .slice A n c] 75)) (.cells #[.int .i64 most, .int .u64 last, .slice A n c] 75))
  have d1 : decide (most ≤ (n : Int)) = true := decide_eq_true hf
  go_enter Try.func34, Try.ntmps34
  go_wp2
  go_returns
  exact ⟨rfl, HB.out⟩
/-- three cells of a block are a cursor -/
theorem lit86 {W : World} {b : Nat} {okp : Nat → Prop} {x : S86} {c0 c1 c2 : Value} (hb : W.heap[b]? = some (.cells #[c0, c1, c2] 86 (0, 0))) (h : Kd.FK k86 W okp x [c0, c1, c2]) :
    Kd.F k86 W (fun k => k = b ∨ okp k) (some ⟨b, 0, none⟩) 1 [x] := fun W' hW => by
  have hb' : W'.heap[b]? = some (.cells #[c0, c1, c2] 86 (0, 0)) := (hW b (.inl rfl) (blk_lt hb)).trans hb
  refine ⟨rfl, by decide, fun _ => ⟨⟨b, 0, none⟩, rfl, fun j p hj => ?_⟩⟩
  have hj0 : j = 0 := by have := (List.getElem?_eq_some_iff.1 hj).1; simpa using this
  subst hj0
  obtain rfl : x = p := by simpa using hj
  refine ⟨[c0, c1, c2], rfl, h W' (fun k hk hlt => hW k (.inr hk) hlt), fun i u hi => ?_⟩
  rw [Nat.zero_mul, Nat.zero_add, add_plain, blk_cell hb', ← hi]
  simp
set_option maxHeartbeats 8000000 in
set_option maxRecDepth 1000000 in
theorem refopen_calls (most last ver : Int) (cs : List S86) (hs : List S31) (okL okH : Nat → Prop) (A B : Option Addr) (c d : Nat) (w : World)
    (hL : Kd.V k86 86 w w.heap.size okL (.slice A cs.length c) cs) (hH : Kd.V k31 31 w w.heap.size okH (.slice B hs.length d) hs) (hf : (cs.length : Int) < most) (hl0 : 0 ≤ last) (hl1 : last < 18446744073709551615) (hn : cs.length < 3300000000000) :
    Calls Try.prog 34 #[.agg #[.int .i64 most, .int .u64 last, .slice A cs.length c], .int .i64 ver, .slice B hs.length d] w fun e w' => ∃ v2, e = .returned (.tuple #[.agg #[.int .i64 most, .int .u64 (last + 1), v2], .int .u64 (last + 1), .int .i64 0]) ∧
      Aside0 (Kd.V k86 86 w' w.heap.size (fun k => okL k ∨ okH k ∨ w.heap.size ≤ k) v2 (cs ++ [⟨last + 1, ver, hs⟩])) ∧ Aside0 (Below w.heap.size w w') := by
  have hu75 := Try.underlying75
  have hu86 := Try.underlying86
  have d1 : decide (most ≤ (cs.length : Int)) = false := decide_eq_false (by omega)
  have M0 := Aside0.mk hn
  have hbW := below_alloc (below_alloc (Below.refl w.heap.size w) (.cells #[.int .i64 most, .int .u64 last, .slice A cs.length c] 75)) (.cells #[.int .i64 0, .int .u64 0, .slice none 0 0] 75)
  have HW0 := Aside0.mk hbW
  have hbx := blk_alloc (blk_new w (.cells #[.int .i64 most, .int .u64 last, .slice A cs.length c] 75)) (.cells #[.int .i64 0, .int .u64 0, .slice none 0 0] 75)
  have hbr := blk_new (w.alloc (.cells #[.int .i64 most, .int .u64 last, .slice A cs.length c] 75)) (.cells #[.int .i64 0, .int .u64 0, .slice none 0 0] 75)
  have HSZ : Aside0 ((w.alloc (.cells #[.int .i64 most, .int .u64 last, .slice A cs.length c] 75)).heap.size = w.heap.size + 1) := ⟨by simp⟩
  rw [HSZ.out] at hbr
  have HX := Aside0.mk hbx
  have HR := Aside0.mk hbr
  have HFL := Aside0.mk (Kd.F_below (Kd.F_bound (Kd.V_at hL).2.2) hbW)
  have HFH := Aside0.mk (Kd.F_below (Kd.F_bound (Kd.V_at hH).2.2) hbW)
  have HHL := Aside0.mk (Kd.V_at hH).2.1
  have HWS : Aside0 (((w.alloc (.cells #[.int .i64 most, .int .u64 last, .slice A cs.length c] 75)).alloc (.cells #[.int .i64 0, .int .u64 0, .slice none 0 0] 75)).heap.size = w.heap.size + 2) := ⟨by simp⟩
  clear hL hH hf hn hbW hbx hbr
  go_enter Try.func34, Try.ntmps34
  go_upto_region 4 with (fail)
  generalize ((w.alloc (.cells #[.int .i64 most, .int .u64 last, .slice A cs.length c] 75)).alloc (.cells #[.int .i64 0, .int .u64 0, .slice none 0 0] 75)) = W at *
  have hb0 : W.cell? ⟨w.heap.size, 0, none⟩ = some (.int .i64 most) := (blk_cell HX.out 0).trans rfl
  have hb2 : W.cell? ⟨w.heap.size, 2, none⟩ = some (.slice A cs.length c) := (blk_cell HX.out 2).trans rfl
  have HF0 := Aside0.mk (Kd.F_drew HFL.out)
  have HF1 := Aside0.mk (Kd.F_alloc HF0.out (.cells #[.int .u64 (last + 1), .int .i64 ver, .slice B hs.length d] 86))
  have HB0 := Aside0.mk HW0.out.drew
  have HS0 : Aside0 (w.heap.size ≤ W.drew.heap.size) := ⟨HW0.out.size⟩
  have HB1 := Aside0.mk (HB0.out.alloc HS0.out (.cells #[.int .u64 (last + 1), .int .i64 ver, .slice B hs.length d] 86))
  have HT0 : Aside0 (w.heap.size + 2 ≤ W.drew.heap.size) := ⟨by have := HWS.out; simp; omega⟩
  have HT1 : Aside0 (w.heap.size + 2 ≤ (W.drew.alloc (.cells #[.int .u64 (last + 1), .int .i64 ver, .slice B hs.length d] 86)).heap.size) := ⟨by have := HWS.out; simp; omega⟩
  have HS1 : Aside0 (w.heap.size ≤ (W.drew.alloc (.cells #[.int .u64 (last + 1), .int .i64 ver, .slice B hs.length d] 86)).heap.size) := ⟨by have := HS0.out; simp at this ⊢; omega⟩
  have HQ0 : Aside0 (W.heap.size ≤ W.drew.heap.size) := ⟨Nat.le_refl _⟩
  have HFH1 := Aside0.mk (Kd.F_alloc (Kd.F_drew HFH.out) (.cells #[.int .u64 (last + 1), .int .i64 ver, .slice B hs.length d] 86))
  have HLIT := Aside0.mk (blk_new W.drew (.cells #[.int .u64 (last + 1), .int .i64 ver, .slice B hs.length d] 86))
  have hne1 : w.heap.size + 1 ≠ w.heap.size := by omega
  have hne2 : w.heap.size ≠ w.heap.size + 1 := by omega
  go_region_held3 (fun w' => w'.cell? ⟨w.heap.size, 0, none⟩ = some (.int .i64 most) ∧ w'.cell? ⟨w.heap.size, 2, none⟩ = some (.slice A cs.length c)) (first | go_keep | exact ⟨pw_cell_below hbw2 hb0, pw_cell_below hbw2 hb2⟩ | exact ⟨pw_cell_below hbw hb0, pw_cell_below hbw hb2⟩) (first | (refine Kd.N_append_rows_step k86 (w0 := w) w.heap.size (by rfl) (.const (.slice none 0 0)) (.tmp 24) 73 86 (.agg #[.int .u64 0, .int .i64 0, .slice none 0 0]) 40 rfl Try.underlying73 info86' rfl (by decide) (by decide) (.slice none 0 0) [] cs A cs.length c (fun k => (okL k ∧ k < w.heap.size) ∨ (okH k ∧ k < w.heap.size) ∨ w.heap.size + 2 ≤ k) (fun k => okL k ∧ k < w.heap.size) (by rfl) (by rfl) (Kd.N_nil _ _ _ _ _) HF0.out (fun k hk => ⟨.inl hk, by simp [Value.ownBlock]⟩) (fun k hk => .inr (.inr (Nat.le_trans HT0.out hk))) HB0.out HS0.out (by simp only [List.length_nil, Nat.zero_add]; have := M0.out; omega) ?_; intro v1 w1 hN hB1 hgr hat; have hbw : Below W.heap.size W w1 := (below_drew1 (Below.refl W.heap.size W)).grown hgr (Nat.le_refl _) (fun k hk => by simp [Value.ownBlock] at hk); have OWN : Aside0 (∀ k, v1.ownBlock = some k → W.heap.size ≤ k) := ⟨fun k hk => by (rcases hat with h8 | ⟨b8, h8, h9⟩); (rw [h8] at hk; simp [Value.ownBlock] at hk); (have h10 := Option.some.inj (hk.symm.trans h8); simp at h9; omega)⟩; have NX := Aside0.mk (Kd.N_alloc hN (.cells #[.int .u64 (last + 1), .int .i64 ver, .slice B hs.length d] 86)); have FX := Aside0.mk (lit86 (okp := fun k => okH k ∧ k < w.heap.size) (x := ⟨last + 1, ver, hs⟩) (blk_new w1 (.cells #[.int .u64 (last + 1), .int .i64 ver, .slice B hs.length d] 86)) (k86_mkF _ _ _ HHL.out (Kd.F_below HFH.out (hbw.alloc hbw.size _)))); have OX : Aside0 (∀ k, (k = w1.heap.size ∨ (okH k ∧ k < w.heap.size)) → ((okL k ∧ k < w.heap.size) ∨ (okH k ∧ k < w.heap.size) ∨ w.heap.size + 2 ≤ k) ∧ some k ≠ v1.ownBlock) := ⟨fun k hk => ⟨hk.elim (fun h => .inr (.inr (by have h7 := hbw.size; have h8 := HWS.out; omega))) (fun h => .inr (.inl h)), fun e => by have h5 := Kd.N_lt hN k e.symm; have h6 := Kd.N_base hN k e.symm; rcases hk with h | h <;> omega⟩⟩; have BX := Aside0.mk (hB1.alloc hB1.size (.cells #[.int .u64 (last + 1), .int .i64 ver, .slice B hs.length d] 86)); have WX := Aside0.mk (hbw.alloc hbw.size (.cells #[.int .u64 (last + 1), .int .i64 ver, .slice B hs.length d] 86)); clear hN hgr hat) | (refine Kd.N_append_rows_step k86 (w0 := w) w.heap.size (by rfl) (.const (.slice none 0 0)) (.tmp 24) 73 86 (.agg #[.int .u64 0, .int .i64 0, .slice none 0 0]) 40 rfl Try.underlying73 info86' rfl (by decide) (by decide) (.slice none 0 0) [] cs A cs.length c (fun k => (okL k ∧ k < w.heap.size) ∨ (okH k ∧ k < w.heap.size) ∨ w.heap.size + 2 ≤ k) (fun k => okL k ∧ k < w.heap.size) (by rfl) (by rfl) (Kd.N_nil _ _ _ _ _) HF1.out (fun k hk => ⟨.inl hk, by simp [Value.ownBlock]⟩) (fun k hk => .inr (.inr (Nat.le_trans HT1.out hk))) HB1.out HS1.out (by simp only [List.length_nil, Nat.zero_add]; have := M0.out; omega) ?_; intro v1 w1 hN hB1 hgr hat; have hbw1 : Below W.heap.size W (W.drew.alloc (.cells #[.int .u64 (last + 1), .int .i64 ver, .slice B hs.length d] 86)) := (below_drew1 (Below.refl W.heap.size W)).alloc (Nat.le_refl _) _; have hbw : Below W.heap.size W w1 := hbw1.grown hgr (by simp) (fun k hk => by simp [Value.ownBlock] at hk); have OWN : Aside0 (∀ k, v1.ownBlock = some k → W.heap.size ≤ k) := ⟨fun k hk => by (rcases hat with h8 | ⟨b8, h8, h9⟩); (rw [h8] at hk; simp [Value.ownBlock] at hk); (have h10 := Option.some.inj (hk.symm.trans h8); simp at h9; omega)⟩; have NX := Aside0.mk hN; have FX := Aside0.mk (lit86 (okp := fun k => okH k ∧ k < w.heap.size) (x := ⟨last + 1, ver, hs⟩) (blk_grown HLIT.out hgr (by simp [Value.ownBlock])) (k86_mkF _ _ _ HHL.out (Kd.F_below HFH.out hbw))); have OX : Aside0 (∀ k, (k = W.drew.heap.size ∨ (okH k ∧ k < w.heap.size)) → ((okL k ∧ k < w.heap.size) ∨ (okH k ∧ k < w.heap.size) ∨ w.heap.size + 2 ≤ k) ∧ some k ≠ v1.ownBlock) := ⟨fun k hk => ⟨hk.elim (fun h => .inr (.inr (by have h7 := HT0.out; omega))) (fun h => .inr (.inl h)), fun e => by have h6 := Kd.N_base hN k e.symm; rcases hk with h | h; (rcases hat with h8 | ⟨b8, h8, h9⟩; (rw [h8] at e; simp [Value.ownBlock] at e); (have h10 := Option.some.inj (e.trans h8); simp at h9 h; omega)); omega⟩⟩; have BX := Aside0.mk hB1; have WX := Aside0.mk hbw; clear hN hgr hat) | (refine Kd.N_append_rows_step k86 (w0 := w) w.heap.size (by rfl) (.tmp 25) (.tmp 30) 73 86 (.agg #[.int .u64 0, .int .i64 0, .slice none 0 0]) 40 rfl Try.underlying73 info86' rfl (by decide) (by decide) v1 ([] ++ cs) [⟨last + 1, ver, hs⟩] _ 1 1 (fun k => (okL k ∧ k < w.heap.size) ∨ (okH k ∧ k < w.heap.size) ∨ w.heap.size + 2 ≤ k) _ (by rfl) (by rfl) NX.out FX.out OX.out (fun k hk => .inr (.inr (Nat.le_trans (by have h1 := HWS.out; have h2 := WX.out.size; omega) hk))) BX.out BX.out.size (by simp only [List.nil_append]; have := M0.out; omega) ?_; intro v2 w2 hN2 hB2 hgr2 hat2; obtain ⟨A2, c2, rfl⟩ := Kd.N_slice hN2; have hbw2 : Below W.heap.size W w2 := WX.out.grown hgr2 WX.out.size (fun k hk => Nat.le_trans (by have h1 := HWS.out; omega) (OWN.out k hk)); have NF := Aside0.mk hN2; have BF := Aside0.mk hB2; have XR := blk_below HR.out hbw2; have hy0 := blk_frozen XR 0; have hy1 := blk_frozen XR 1; have hy2 := blk_frozen XR 2; have hr0 : w2.cell? ⟨w.heap.size + 1, 0, none⟩ = some (.int .i64 0) := (blk_cell XR 0).trans rfl; have hr1 : w2.cell? ⟨w.heap.size + 1, 1, none⟩ = some (.int .u64 0) := (blk_cell XR 1).trans rfl; have hr2 : w2.cell? ⟨w.heap.size + 1, 2, none⟩ = some (.slice none 0 0) := (blk_cell XR 2).trans rfl; have XRA := Aside0.mk XR; clear XR))
  all_goals
    have hst := stored75 XRA.out (.int .i64 most) (.int .u64 (last + 1)) (.slice A2 (cs.length + 1) c2)
    have hs0 : (((w2.setCell ⟨w.heap.size + 1, 0, none⟩ (.int .i64 most)).setCell ⟨w.heap.size + 1, 1, none⟩ (.int .u64 (last + 1))).setCell ⟨w.heap.size + 1, 2, none⟩ (.slice A2 (cs.length + 1) c2)).cell? ⟨w.heap.size + 1, 0, none⟩ = some (.int .i64 most) := (blk_cell hst 0).trans rfl
    have hs1 : (((w2.setCell ⟨w.heap.size + 1, 0, none⟩ (.int .i64 most)).setCell ⟨w.heap.size + 1, 1, none⟩ (.int .u64 (last + 1))).setCell ⟨w.heap.size + 1, 2, none⟩ (.slice A2 (cs.length + 1) c2)).cell? ⟨w.heap.size + 1, 1, none⟩ = some (.int .u64 (last + 1)) := (blk_cell hst 1).trans rfl
    have hs2 : (((w2.setCell ⟨w.heap.size + 1, 0, none⟩ (.int .i64 most)).setCell ⟨w.heap.size + 1, 1, none⟩ (.int .u64 (last + 1))).setCell ⟨w.heap.size + 1, 2, none⟩ (.slice A2 (cs.length + 1) c2)).cell? ⟨w.heap.size + 1, 2, none⟩ = some (.slice A2 (cs.length + 1) c2) := (blk_cell hst 2).trans rfl
    clear hst hr0 hr1 hr2
    go_wp2
    refine bodyPost_ret (by simp [results, Try.results34, go_sem, hs0, hs1, hs2]; try rfl) rfl ?_
    refine ⟨.slice A2 (cs.length + 1) c2, rfl, ⟨?_⟩, ⟨?_⟩⟩
    · have hV := Kd.N_V (base' := w.heap.size) NF.out
      rw [show (([] : List S86) ++ cs ++ [⟨last + 1, ver, hs⟩]) = cs ++ [⟨last + 1, ver, hs⟩] from rfl] at hV
      rw [show (cs ++ [(⟨last + 1, ver, hs⟩ : S86)]).length = cs.length + 1 from by simp] at hV
      have hne : ∀ k, ((okL k ∧ k < w.heap.size) ∨ (okH k ∧ k < w.heap.size) ∨ w.heap.size + 2 ≤ k) → k ≠ w.heap.size + 1 := fun k hk => by omega
      exact Kd.V_mono (Kd.V_far (p := ⟨w.heap.size + 1, 2, none⟩) (Kd.V_far (p := ⟨w.heap.size + 1, 1, none⟩) (Kd.V_far (p := ⟨w.heap.size + 1, 0, none⟩) hV hne _) hne _) hne _) (fun k hk => hk.elim (fun h => .inl h.1) (fun h => h.elim (fun h => .inr (.inl h.1)) (fun h => .inr (.inr (by omega)))))
    · exact ((BF.out.setCell (p := ⟨w.heap.size + 1, 0, none⟩) (Nat.le_succ _) _).setCell (p := ⟨w.heap.size + 1, 1, none⟩) (Nat.le_succ _) _).setCell (p := ⟨w.heap.size + 1, 2, none⟩) (Nat.le_succ _) _
end Go.Proofs.Ytncbnejldlfbdaa.PCur
