/- What Next of the reference's table answers and leaves; of fewer than 2^40 cursors. -/
import Derived.Test.YtncbnejldlfbdaaKC
namespace Go.Proofs.Ytncbnejldlfbdaa.PCur
open Go.RowKit Go.Proofs.YtncbnejldlfbdaaW.PrintWords Go.Proofs.YtncbnejldlfbdaaW.PrintLast Go.Proofs.YtncbnejldlfbdaaW.PrintMore
open Go.Proofs.Ytncbnejldlfbdaa.PCursorsDo
set_option linter.unusedVariables false
set_option linter.unusedSimpArgs false
theorem stored31 {W : World} {r : Nat} {a b : Value} (h : W.heap[r]? = some (.cells #[a, b] 31 (0, 0))) (x y : Value) :
    ((W.setCell ⟨r, 0, none⟩ x).setCell ⟨r, 1, none⟩ y).heap[r]? = some (.cells #[x, y] 31 (0, 0)) := by
  simpa using blk_set (blk_set h 0 x) 1 y
/-- place i of a list of cursors -/
def gc (cs : List S86) (i : Nat) : S86 := rd_T86 cs (i : Int)
theorem gc_some {cs : List S86} {i : Nat} (h : i < cs.length) : cs[i]? = some (gc cs i) := by
  unfold gc rd_T86
  rw [Int.toNat_natCast, List.getD_eq_getElem?_getD, List.getElem?_eq_getElem h]; rfl
/-- NEXT of the reference: what is left, the hit, the error's number -/
def NextR (cs : List S86) (h ver : Int) (cs' : List S86) (k : S31) (e : Int) : Prop :=
  (e = 7 ∧ cs' = cs ∧ k = z31 ∧ ∀ j, j < cs.length → (gc cs j).f0 ≠ h) ∨
  ∃ i, i < cs.length ∧ (∀ j, j < i → (gc cs j).f0 ≠ h) ∧ (gc cs i).f0 = h ∧
    (((gc cs i).f1 ≠ ver ∧ e = 8 ∧ cs' = cs ∧ k = z31) ∨ ((gc cs i).f1 = ver ∧ (gc cs i).f2 = [] ∧ e = 9 ∧ cs' = cs ∧ k = z31) ∨
      ((gc cs i).f1 = ver ∧ ∃ l, (gc cs i).f2 = k :: l ∧ e = 0 ∧ cs' = cs.set i ⟨h, (gc cs i).f1, l⟩))
def RetN (most last : Int) (cs : List S86) (h ver : Int) (okL : Nat → Prop) (w : World) (e : Ending) (w' : World) : Prop :=
  ∃ v2 cs' k n, e = .returned (.tuple #[.agg #[.int .i64 most, .int .u64 last, v2], .agg #[.int .u64 (S31.f0 k), .int .i64 (S31.f1 k)], .int .i64 n]) ∧ Aside0 (NextR cs h ver cs' k n) ∧
    Aside0 (Kd.V k86 86 w' w.heap.size (fun k => okL k ∨ w.heap.size ≤ k) v2 cs') ∧ Aside0 (Below w.heap.size w w')
theorem far5 {w W : World} {base : Nat} {okL ok' : Nat → Prop} {v : Value} {xs : List S86} (hV : Kd.V k86 86 W base okL v xs) (hok : ∀ k, okL k → ok' k) (h1 : ∀ k, okL k → k ≠ w.heap.size + 1) (h2 : ∀ k, okL k → k ≠ w.heap.size + 2) (a b c d e : Value) :
    Kd.V k86 86 (((((W.setCell ⟨w.heap.size + 1, 0, none⟩ a).setCell ⟨w.heap.size + 1, 1, none⟩ b).setCell ⟨w.heap.size + 1, 2, none⟩ c).setCell ⟨w.heap.size + 2, 0, none⟩ d).setCell ⟨w.heap.size + 2, 1, none⟩ e) base ok' v xs :=
  Kd.V_mono (Kd.V_far (p := ⟨w.heap.size + 2, 1, none⟩) (Kd.V_far (p := ⟨w.heap.size + 2, 0, none⟩) (Kd.V_far (p := ⟨w.heap.size + 1, 2, none⟩) (Kd.V_far (p := ⟨w.heap.size + 1, 1, none⟩) (Kd.V_far (p := ⟨w.heap.size + 1, 0, none⟩) hV h1 _) h1 _) h1 _) h2 _) h2 _) hok
theorem below5 {w W : World} (h : Below w.heap.size w W) (a b c d e : Value) :
    Below w.heap.size w (((((W.setCell ⟨w.heap.size + 1, 0, none⟩ a).setCell ⟨w.heap.size + 1, 1, none⟩ b).setCell ⟨w.heap.size + 1, 2, none⟩ c).setCell ⟨w.heap.size + 2, 0, none⟩ d).setCell ⟨w.heap.size + 2, 1, none⟩ e) :=
  ((((h.setCell (p := ⟨w.heap.size + 1, 0, none⟩) (Nat.le_add_right _ 1) _).setCell (p := ⟨w.heap.size + 1, 1, none⟩) (Nat.le_add_right _ 1) _).setCell (p := ⟨w.heap.size + 1, 2, none⟩) (Nat.le_add_right _ 1) _).setCell (p := ⟨w.heap.size + 2, 0, none⟩) (Nat.le_add_right _ 2) _).setCell (p := ⟨w.heap.size + 2, 1, none⟩) (Nat.le_add_right _ 2) _
theorem cells5 {w W : World} {a0 b0 c0 d0 e0 : Value} (hr : W.heap[w.heap.size + 1]? = some (.cells #[a0, b0, c0] 75 (0, 0))) (ht : W.heap[w.heap.size + 2]? = some (.cells #[d0, e0] 31 (0, 0))) (a b c d e : Value) :
    ∀ W5, W5 = (((((W.setCell ⟨w.heap.size + 1, 0, none⟩ a).setCell ⟨w.heap.size + 1, 1, none⟩ b).setCell ⟨w.heap.size + 1, 2, none⟩ c).setCell ⟨w.heap.size + 2, 0, none⟩ d).setCell ⟨w.heap.size + 2, 1, none⟩ e) →
      W5.cell? ⟨w.heap.size + 1, 0, none⟩ = some a ∧ W5.cell? ⟨w.heap.size + 1, 1, none⟩ = some b ∧ W5.cell? ⟨w.heap.size + 1, 2, none⟩ = some c ∧ W5.cell? ⟨w.heap.size + 2, 0, none⟩ = some d ∧ W5.cell? ⟨w.heap.size + 2, 1, none⟩ = some e := by
  rintro _ rfl
  have h1 := stored75 hr a b c
  have h2 := blk_far (p := ⟨w.heap.size + 2, 1, none⟩) (blk_far (p := ⟨w.heap.size + 2, 0, none⟩) h1 (by simp) d) (by simp) e
  have h3 := stored31 (blk_far (p := ⟨w.heap.size + 1, 2, none⟩) (blk_far (p := ⟨w.heap.size + 1, 1, none⟩) (blk_far (p := ⟨w.heap.size + 1, 0, none⟩) ht (by simp) a) (by simp) b) (by simp) c) d e
  exact ⟨(blk_cell h2 0).trans rfl, (blk_cell h2 1).trans rfl, (blk_cell h2 2).trans rfl, (blk_cell h3 0).trans rfl, (blk_cell h3 1).trans rfl⟩
set_option maxHeartbeats 8000000 in
set_option maxRecDepth 1000000 in
theorem refnext_calls (most last h ver : Int) (cs : List S86) (okL : Nat → Prop) (A : Option Addr) (c : Nat) (w : World)
    (hL : Kd.V k86 86 w w.heap.size okL (.slice A cs.length c) cs) (hn : cs.length < 3300000000000) :
    Calls Try.prog 36 #[.agg #[.int .i64 most, .int .u64 last, .slice A cs.length c], .int .u64 h, .int .i64 ver] w (RetN most last cs h ver okL w) := by
  have hu75 := Try.underlying75
  have hu86 := Try.underlying86
  have hu31 := Try.underlying31
  have M0 := Aside0.mk hn
  have hb1 := below_alloc (Below.refl w.heap.size w) (.cells #[.int .i64 most, .int .u64 last, .slice A cs.length c] 75)
  have hb2 := below_alloc hb1 (.cells #[.int .i64 0, .int .u64 0, .slice none 0 0] 75)
  have hbW := below_alloc hb2 (.cells #[.int .u64 0, .int .i64 0] 31)
  have HB0 := Aside0.mk hbW
  have HS0 : Aside0 (w.heap.size ≤ (((w.alloc (.cells #[.int .i64 most, .int .u64 last, .slice A cs.length c] 75)).alloc (.cells #[.int .i64 0, .int .u64 0, .slice none 0 0] 75)).alloc (.cells #[.int .u64 0, .int .i64 0] 31)).heap.size) := ⟨hbW.size⟩
  have HT : Aside0 (w.heap.size + 3 ≤ (((w.alloc (.cells #[.int .i64 most, .int .u64 last, .slice A cs.length c] 75)).alloc (.cells #[.int .i64 0, .int .u64 0, .slice none 0 0] 75)).alloc (.cells #[.int .u64 0, .int .i64 0] 31)).heap.size) := ⟨by simp⟩
  have hx := blk_alloc (blk_alloc (blk_new w (.cells #[.int .i64 most, .int .u64 last, .slice A cs.length c] 75)) (.cells #[.int .i64 0, .int .u64 0, .slice none 0 0] 75)) (.cells #[.int .u64 0, .int .i64 0] 31)
  have hr := blk_alloc (blk_new (w.alloc (.cells #[.int .i64 most, .int .u64 last, .slice A cs.length c] 75)) (.cells #[.int .i64 0, .int .u64 0, .slice none 0 0] 75)) (.cells #[.int .u64 0, .int .i64 0] 31)
  have ht := blk_new ((w.alloc (.cells #[.int .i64 most, .int .u64 last, .slice A cs.length c] 75)).alloc (.cells #[.int .i64 0, .int .u64 0, .slice none 0 0] 75)) (.cells #[.int .u64 0, .int .i64 0] 31)
  rw [show (w.alloc (.cells #[.int .i64 most, .int .u64 last, .slice A cs.length c] 75)).heap.size = w.heap.size + 1 from by simp] at hr
  rw [show ((w.alloc (.cells #[.int .i64 most, .int .u64 last, .slice A cs.length c] 75)).alloc (.cells #[.int .i64 0, .int .u64 0, .slice none 0 0] 75)).heap.size = w.heap.size + 2 from by simp] at ht
  have HX := Aside0.mk hx
  have HR := Aside0.mk hr
  have HT1 := Aside0.mk ht
  have HV := Aside0.mk (Kd.V_mono (Kd.V_below (Kd.V_bound hL) hbW) (ok' := fun k => okL k ∧ k < w.heap.size) (fun k hk => hk))
  have HF := Aside0.mk (Kd.V_at HV.out).2.2
  have hnb : (cs.length : Int) < 3300000000000 := by omega
  clear hL hn hb1 hb2 hbW hx hr ht
  go_enter Try.func36, Try.ntmps36
  go_wp2_with (((with_reducible refine gate_builtin (b := .append) (xs := #[.const (.slice none 0 0), .tmp 13]) rfl ?_); refine Kd.N_append_rows k86 (w0 := w) w.heap.size rfl (.const (.slice none 0 0)) (.tmp 13) 73 86 (.agg #[.int .u64 0, .int .i64 0, .slice none 0 0]) 40 rfl Try.underlying73 info86' rfl (by decide) (by decide) (.slice none 0 0) [] cs A cs.length c (fun k => (okL k ∧ k < w.heap.size) ∨ w.heap.size + 3 ≤ k) (fun k => okL k ∧ k < w.heap.size) rfl rfl (Kd.N_nil _ _ _ _ _) HF.out (fun k hk => ⟨.inl hk, by simp [Value.ownBlock]⟩) (fun k hk => .inr (Nat.le_trans HT.out hk)) HB0.out HS0.out (by simp only [List.length_nil, Nat.zero_add]; have := M0.out; omega) ?_; intro v1 w1 hN hB1 hgr hat; rw [List.nil_append] at hN; obtain ⟨A1, c1, rfl⟩ := Kd.N_slice hN; have NG : Aside0 (∀ k, (Value.slice A1 cs.length c1).ownBlock = some k → w.heap.size + 3 ≤ k) := ⟨fun k hk => by (rcases hat with h8 | ⟨b8, h8, h9⟩); (rw [h8] at hk; simp [Value.ownBlock] at hk); (have h10 := Option.some.inj (hk.symm.trans h8); have h11 := HT.out; omega)⟩; have hbw : Below (((w.alloc (.cells #[.int .i64 most, .int .u64 last, .slice A cs.length c] 75)).alloc (.cells #[.int .i64 0, .int .u64 0, .slice none 0 0] 75)).alloc (.cells #[.int .u64 0, .int .i64 0] 31)).heap.size (((w.alloc (.cells #[.int .i64 most, .int .u64 last, .slice A cs.length c] 75)).alloc (.cells #[.int .i64 0, .int .u64 0, .slice none 0 0] 75)).alloc (.cells #[.int .u64 0, .int .i64 0] 31)) w1 := (Below.refl _ _).grown hgr (Nat.le_refl _) (fun k hk => by simp [Value.ownBlock] at hk); have NX := Aside0.mk hN; have BX := Aside0.mk hB1; have XA := Aside0.mk (blk_below HX.out hbw); have XR := Aside0.mk (blk_below HR.out hbw); have XT := Aside0.mk (blk_below HT1.out hbw); have HBW := Aside0.mk hbw; clear hN hB1 hgr hat hbw))
  have HVW : Aside0 (Kd.V k86 86 w1 w.heap.size (fun k => okL k ∧ k < w.heap.size) (.slice A cs.length c) cs) := ⟨Kd.V_below HV.out HBW.out⟩
  go_loop [10] (fun v10 => ∃ i : Nat, v10 = .int .i64 (i : Int) ∧ Aside0 (i ≤ cs.length) ∧ Aside0 (∀ j, j < i → (gc cs j).f0 ≠ h)) (fun v10 => cs.length - (intOf v10).toNat)
  case atStart => exact ⟨0, rfl, ⟨Nat.zero_le _⟩, ⟨fun j hj => absurd hj (by omega)⟩⟩
  case round =>
    obtain ⟨i, rfl, HI, HA⟩ := hrel
    have hx0 : w1.cell? ⟨w.heap.size, 0, none⟩ = some (.int .i64 most) := (blk_cell XA.out 0).trans rfl
    have hx1 : w1.cell? ⟨w.heap.size, 1, none⟩ = some (.int .u64 last) := (blk_cell XA.out 1).trans rfl
    have hx2 : w1.cell? ⟨w.heap.size, 2, none⟩ = some (.slice A cs.length c) := (blk_cell XA.out 2).trans rfl
    have hr0 : w1.cell? ⟨w.heap.size + 1, 0, none⟩ = some (.int .i64 0) := (blk_cell XR.out 0).trans rfl
    have hr1 : w1.cell? ⟨w.heap.size + 1, 1, none⟩ = some (.int .u64 0) := (blk_cell XR.out 1).trans rfl
    have hr2 : w1.cell? ⟨w.heap.size + 1, 2, none⟩ = some (.slice none 0 0) := (blk_cell XR.out 2).trans rfl
    have ht0 : w1.cell? ⟨w.heap.size + 2, 0, none⟩ = some (.int .u64 0) := (blk_cell XT.out 0).trans rfl
    have ht1 : w1.cell? ⟨w.heap.size + 2, 1, none⟩ = some (.int .i64 0) := (blk_cell XT.out 1).trans rfl
    have hy0 := blk_frozen XR.out 0
    have hy1 := blk_frozen XR.out 1
    have hy2 := blk_frozen XR.out 2
    have hz0 := blk_frozen XT.out 0
    have hz1 := blk_frozen XT.out 1
    obtain ⟨q0, q1, q2, q3, q4⟩ := cells5 XR.out XT.out (.int .i64 most) (.int .u64 last) (.slice A cs.length c) (.int .u64 0) (.int .i64 0) _ rfl
    have GONE : ∀ n, Aside0 (NextR cs h ver cs z31 n) → Aside0 (RetN most last cs h ver okL w (.returned (.tuple #[.agg #[.int .i64 most, .int .u64 last, .slice A cs.length c], .agg #[.int .u64 0, .int .i64 0], .int .i64 n])) (((((w1.setCell ⟨w.heap.size + 1, 0, none⟩ (.int .i64 most)).setCell ⟨w.heap.size + 1, 1, none⟩ (.int .u64 last)).setCell ⟨w.heap.size + 1, 2, none⟩ (.slice A cs.length c)).setCell ⟨w.heap.size + 2, 0, none⟩ (.int .u64 0)).setCell ⟨w.heap.size + 2, 1, none⟩ (.int .i64 0))) := fun n hn =>
      ⟨⟨_, cs, z31, n, rfl, hn, ⟨far5 HVW.out (fun k hk => .inl hk.1) (fun k hk => by omega) (fun k hk => by omega) _ _ _ _ _⟩, ⟨below5 BX.out _ _ _ _ _⟩⟩⟩
    have HGONE := Aside0.mk GONE
    clear GONE
    have hib : (i : Int) ≤ 3300000000000 := by have := HI.out; omega
    by_cases hi : i < cs.length
    · obtain ⟨g, cap, he, hgb, hgl, _⟩ := Kd.N_form NX.out (by omega)
      simp only [Value.slice.injEq, true_and] at he
      obtain ⟨rfl, rfl⟩ := he
      obtain ⟨ce, hcl, hFK, hcc, hfr⟩ := Kd.N_elem NX.out z86 (i : Int) (by omega) (by omega)
      rw [show cs.getD (i : Int).toNat z86 = gc cs i from rfl] at hFK
      obtain ⟨A2, c2, rfl, hl2, hF2⟩ := k86_openF hFK
      rw [Int.toNat_natCast] at hcc hfr
      have e0 : w1.cell? ⟨g, i * 3, none⟩ = some (.int .u64 (gc cs i).f0) := hcc 0 _ rfl
      have e1 : w1.cell? ⟨g, i * 3 + 1, none⟩ = some (.int .i64 (gc cs i).f1) := hcc 1 _ rfl
      have e2 : w1.cell? ⟨g, i * 3 + 2, none⟩ = some (.slice A2 (gc cs i).f2.length c2) := hcc 2 _ rfl
      have e3 : w1.frozen? ⟨g, i * 3 + 2, none⟩ = false := hfr 2
      have HCC := Aside0.mk hcc
      have HF2 := Aside0.mk hF2
      have HL2 := Aside0.mk hl2
      have HGL := Aside0.mk hgl
      have HOG := Aside0.mk (NX.out.1 g rfl)
      have d1 : decide (i < cs.length) = true := decide_eq_true hi
      clear hcl hFK hcc hfr hF2 hl2 hgb hgl
      obtain ⟨p, hp⟩ : ∃ p, gc cs i = p := ⟨_, rfl⟩
      rw [hp] at e0 e1 e2
      have HP := Aside0.mk hp
      rw [hp] at HCC HF2 HL2
      clear hp
      obtain ⟨p0, p1, p2⟩ := p
      simp only at e0 e1 e2
      by_cases h0 : p0 = h
      · subst h0
        have HG0 : Aside0 ((gc cs i).f0 = p0) := ⟨by rw [HP.out]⟩
        by_cases h1 : p1 = ver
        · subst h1
          have HG1 : Aside0 ((gc cs i).f1 = p1) := ⟨by rw [HP.out]⟩
          cases p2 with
          | nil =>
            have HG := HGONE.out 9 ⟨.inr ⟨i, hi, HA.out, HG0.out, .inr (.inl ⟨HG1.out, by rw [HP.out], rfl, rfl, rfl⟩)⟩⟩
            go_wp2
            refine bodyPost_ret (by simp [results, Try.results36, go_sem, q0, q1, q2, q3, q4]; try rfl) rfl ?_
            exact HG.out
          | cons x l =>
            obtain ⟨ad, rfl, y0, y1⟩ := at_T31 (Kd.F_now HF2.out) 0 (by omega) (by simp)
            rw [show (0 : Int).toNat * 2 = 0 from rfl, show ad.add 0 = ad from by unfold Addr.add; simp] at y0 y1
            rw [show rd_T31 (x :: l) 0 = x from rfl] at y0 y1
            have HLL : Aside0 (l.length + 1 ≤ c2) := ⟨by have := HL2.out; simpa using this⟩
            have hcp : (1 : Int) ≤ (c2 : Int) := by have := HLL.out; omega
            have hcn : 1 ≤ c2 := by have := HLL.out; omega
            have hbh := below_alloc (Below.refl w1.heap.size w1) (.cells #[.int .u64 x.f0, .int .i64 x.f1] 31)
            have z0 : (w1.alloc (.cells #[.int .u64 x.f0, .int .i64 x.f1] 31)).cell? ⟨w1.heap.size, 0, none⟩ = some (.int .u64 x.f0) := (blk_cell (blk_new w1 (.cells #[.int .u64 x.f0, .int .i64 x.f1] 31)) 0).trans rfl
            have z1 : (w1.alloc (.cells #[.int .u64 x.f0, .int .i64 x.f1] 31)).cell? ⟨w1.heap.size, 1, none⟩ = some (.int .i64 x.f1) := (blk_cell (blk_new w1 (.cells #[.int .u64 x.f0, .int .i64 x.f1] 31)) 1).trans rfl
            have BS : Aside0 (w.heap.size + 3 ≤ w1.heap.size) := ⟨Nat.le_trans HT.out HBW.out.size⟩
            have GNE : Aside0 (g ≠ w.heap.size ∧ g ≠ w.heap.size + 1 ∧ g ≠ w.heap.size + 2 ∧ g ≠ w1.heap.size) := ⟨by have := HOG.out; have := HGL.out; have := NG.out g rfl; omega⟩
            obtain ⟨nv, hnv⟩ : ∃ nv, nv = Value.slice (if c2 = 1 then some ad else some (ad.add 2)) l.length (c2 - 1) := ⟨_, rfl⟩
            have FL : Aside0 (Kd.FK k86 w1 (fun k => ((okL k ∧ k < w.heap.size) ∨ w.heap.size + 3 ≤ k) ∧ k ≠ g) ⟨p0, p1, l⟩ [.int .u64 p0, .int .i64 p1, nv]) := ⟨by
              rw [hnv]
              have h4 := Kd.F_cut (m := 1) HF2.out (by simp) HL2.out
              simp only [List.drop_succ_cons, List.drop_zero] at h4
              have h5 : (if c2 = 1 then some ad else (some ad).map (·.add (1 * k31.sz))) = (if c2 = 1 then some ad else some (ad.add 2)) := rfl
              rw [h5] at h4
              exact k86_mkF _ _ ⟨p0, p1, l⟩ (by have := HLL.out; simp; omega) h4⟩
            have NS : Aside0 (Kd.N k86 86 (w1.setCell ⟨g, i * 3 + 2, none⟩ nv) w.heap.size (fun k => (okL k ∧ k < w.heap.size) ∨ w.heap.size + 3 ≤ k) (.slice (some ⟨g, 0, none⟩) cs.length c1) (cs.set i ⟨p0, p1, l⟩)) := ⟨by
              have h6 := (Kd.N_seg NX.out (i : Int) (by omega) (by omega) (c := [.int .u64 p0, .int .i64 p1, .slice (some ad) (x :: l).length c2]) (seg := [nv]) (j := 2) rfl (by rw [Int.toNat_natCast]; exact HCC.out) (Nat.le_refl 3) (x' := ⟨p0, p1, l⟩) FL.out (fun k hk => hk)).1
              rw [Int.toNat_natCast] at h6
              exact h6⟩
            have HNV := Aside0.mk hnv
            have gg1 := GNE.out.1
            have gg2 := GNE.out.2.1
            have gg3 := GNE.out.2.2.1
            have gg4 := GNE.out.2.2.2
            have gg4' : w1.heap.size ≠ g := fun h => gg4 h.symm
            have gg1' : w.heap.size ≠ g := fun h => gg1 h.symm
            have kk1 : w1.heap.size ≠ w.heap.size + 1 := by have := BS.out; omega
            have kk2 : w1.heap.size ≠ w.heap.size + 2 := by have := BS.out; omega
            have kk1' : w.heap.size + 1 ≠ w1.heap.size := fun h => kk1 h.symm
            have kk2' : w.heap.size + 2 ≠ w1.heap.size := fun h => kk2 h.symm
            have kk3 : w.heap.size ≠ w.heap.size + 1 := by omega
            have kk7 : w.heap.size + 1 + 1 ≠ w.heap.size := by omega
            have kk8 : w.heap.size + 1 + 1 ≠ w1.heap.size := kk2'
            have kk9 : w.heap.size ≠ w.heap.size + 1 + 1 := by omega
            have kk5 : ¬ w.heap.size + 1 = w1.heap.size := kk1'
            have kk6 : ¬ w.heap.size + 1 + 1 = w1.heap.size := kk2'
            have kk4 : w.heap.size ≠ w.heap.size + 2 := by omega
            clear q0 q1 q2 q3 q4 HGONE hnv gg4
            have BG := Aside0.mk (blk_new w1 (.cells #[.int .u64 x.f0, .int .i64 x.f1] 31))
            have XA2 := Aside0.mk (blk_alloc XA.out (.cells #[.int .u64 x.f0, .int .i64 x.f1] 31))
            have XR2 := Aside0.mk (blk_alloc XR.out (.cells #[.int .u64 x.f0, .int .i64 x.f1] 31))
            have XT2 := Aside0.mk (blk_alloc XT.out (.cells #[.int .u64 x.f0, .int .i64 x.f1] 31))
            have e2' := pw_cell_below hbh e2
            have e3' : (w1.alloc (.cells #[.int .u64 x.f0, .int .i64 x.f1] 31)).frozen? ⟨g, i * 3 + 2, none⟩ = false := by
              obtain ⟨gc0, hgc⟩ := (Kd.N_typed NX.out g rfl)
              exact blk_frozen (blk_alloc hgc _) _
            have NS2 := Aside0.mk ((Kd.N_alloc NX.out (.cells #[.int .u64 x.f0, .int .i64 x.f1] 31)))
            have FL2 := Aside0.mk (Kd.FK_below FL.out hbh)
            have NS3 : Aside0 (Kd.N k86 86 ((w1.alloc (.cells #[.int .u64 x.f0, .int .i64 x.f1] 31)).setCell ⟨g, i * 3 + 2, none⟩ nv) w.heap.size (fun k => (okL k ∧ k < w.heap.size) ∨ w.heap.size + 3 ≤ k) (.slice (some ⟨g, 0, none⟩) cs.length c1) (cs.set i ⟨p0, p1, l⟩)) := ⟨by
              have h6 := (Kd.N_seg NS2.out (i : Int) (by omega) (by omega) (c := [.int .u64 p0, .int .i64 p1, .slice (some ad) (x :: l).length c2]) (seg := [nv]) (j := 2) rfl (by rw [Int.toNat_natCast]; exact fun j u hu => pw_cell_below hbh (HCC.out j u hu)) (Nat.le_refl 3) (x' := ⟨p0, p1, l⟩) FL2.out (fun k hk => hk)).1
              rw [Int.toNat_natCast] at h6
              exact h6⟩
            have BX2 := Aside0.mk (BX.out.alloc BX.out.size (.cells #[.int .u64 x.f0, .int .i64 x.f1] 31))
            have KS : Aside0 (w1.heap.size < (w1.alloc (.cells #[.int .u64 x.f0, .int .i64 x.f1] 31)).heap.size) := ⟨by simp⟩
            clear hx0 hx1 hx2 hr0 hr1 hr2 ht0 ht1 hy0 hy1 hy2 hz0 hz1 e3 hbh NS FL NS2 z0 z1
            obtain ⟨m2, hm2⟩ : ∃ m, (x :: l).length = m := ⟨_, rfl⟩
            rw [hm2] at e2 e2'
            have HM2 : Aside0 (m2 = l.length + 1) := ⟨by rw [← hm2]; rfl⟩
            have m2a : (0 : Int) < (m2 : Int) := by have := HM2.out; omega
            have m2b : ((m2 : Int) == 0) = false := by rw [beq_eq_false_iff_ne]; omega
            have m2c : (m2 == 0) = false := by rw [beq_eq_false_iff_ne]; omega
            have m2d : decide (m2 = 0) = false := decide_eq_false (by omega)
            have m2e : ¬ m2 = 0 := by omega
            have m2f : 1 ≤ m2 := by omega
            have m2g : (1 : Int) ≤ (m2 : Int) := by omega
            have m2h : m2 ≤ c2 := by have := HLL.out; have := HM2.out; omega
            clear hm2
            go_upto_region 11 with (fail)
            clear e0 e1 e2 y0 y1
            generalize (w1.alloc (.cells #[.int .u64 x.f0, .int .i64 x.f1] 31)) = W1 at *
            by_cases hc1 : c2 = 1
            · subst hc1
              obtain rfl : l = [] := List.eq_nil_of_length_eq_zero (by have := HLL.out; omega)
              rw [show Value.slice (if 1 = 1 then some ad else some (ad.add 2)) ([] : List S31).length (1 - 1) = .slice (some ad) 0 0 from rfl] at HNV
              rw [HNV.out] at NS3
              go_upto_region 12 with (fail)
              try rw [show m2 - 1 = l.length from by have := HM2.out; omega]
              have XA3 := Aside0.mk (blk_far (p := ⟨g, i * 3 + 2, none⟩) XA2.out gg1' (.slice (some ad) 0 0))
              have XR3 := Aside0.mk (blk_far (p := ⟨g, i * 3 + 2, none⟩) XR2.out (fun h => gg2 h.symm) (.slice (some ad) 0 0))
              have XT3 := Aside0.mk (blk_far (p := ⟨g, i * 3 + 2, none⟩) XT2.out (fun h => gg3 h.symm) (.slice (some ad) 0 0))
              have BG3 := Aside0.mk (blk_far (p := ⟨g, i * 3 + 2, none⟩) BG.out gg4' (.slice (some ad) 0 0))
              have BX3 := Aside0.mk (BX2.out.setCell (p := ⟨g, i * 3 + 2, none⟩) (by show w.heap.size ≤ g; have := NG.out g rfl; omega) (.slice (some ad) 0 0))
              generalize (W1.setCell ⟨g, i * 3 + 2, none⟩ (.slice (some ad) 0 0)) = W2 at *
              have hx0 : W2.cell? ⟨w.heap.size, 0, none⟩ = some (.int .i64 most) := (blk_cell XA3.out 0).trans rfl
              have hx1 : W2.cell? ⟨w.heap.size, 1, none⟩ = some (.int .u64 last) := (blk_cell XA3.out 1).trans rfl
              have hr0 : W2.cell? ⟨w.heap.size + 1, 0, none⟩ = some (.int .i64 0) := (blk_cell XR3.out 0).trans rfl
              have hr1 : W2.cell? ⟨w.heap.size + 1, 1, none⟩ = some (.int .u64 0) := (blk_cell XR3.out 1).trans rfl
              have hr2 : W2.cell? ⟨w.heap.size + 1, 2, none⟩ = some (.slice none 0 0) := (blk_cell XR3.out 2).trans rfl
              have ht0 : W2.cell? ⟨w.heap.size + 2, 0, none⟩ = some (.int .u64 0) := (blk_cell XT3.out 0).trans rfl
              have ht1 : W2.cell? ⟨w.heap.size + 2, 1, none⟩ = some (.int .i64 0) := (blk_cell XT3.out 1).trans rfl
              have hy0 := blk_frozen XR3.out 0
              have hy1 := blk_frozen XR3.out 1
              have hy2 := blk_frozen XR3.out 2
              have hz0 := blk_frozen XT3.out 0
              have hz1 := blk_frozen XT3.out 1
              have u0 : W2.cell? ⟨w1.heap.size, 0, none⟩ = some (.int .u64 x.f0) := (blk_cell BG3.out 0).trans rfl
              have u1 : W2.cell? ⟨w1.heap.size, 1, none⟩ = some (.int .i64 x.f1) := (blk_cell BG3.out 1).trans rfl
              go_region_held3 (fun w' => (w'.cell? ⟨w.heap.size, 0, none⟩ = some (.int .i64 most) ∧ w'.cell? ⟨w.heap.size, 1, none⟩ = some (.int .u64 last)) ∧ w'.cell? ⟨w1.heap.size, 0, none⟩ = some (.int .u64 x.f0) ∧ w'.cell? ⟨w1.heap.size, 1, none⟩ = some (.int .i64 x.f1)) (go_keep) (fail)
              obtain ⟨q0, q1, q2, q3, q4⟩ := cells5 XR3.out XT3.out (.int .i64 most) (.int .u64 last) (.slice (some ⟨g, 0, none⟩) cs.length c1) (.int .u64 x.f0) (.int .i64 x.f1) _ rfl
              clear hx0 hx1 hr0 hr1 hr2 ht0 ht1 u0 u1
              go_wp2
              refine bodyPost_ret (by simp [results, Try.results36, go_sem, q0, q1, q2, q3, q4]; try rfl) rfl ?_
              exact ⟨.slice (some ⟨g, 0, none⟩) cs.length c1, cs.set i ⟨p0, p1, []⟩, x, 0, rfl, ⟨.inr ⟨i, hi, HA.out, HG0.out, .inr (.inr ⟨HG1.out, [], by rw [HP.out], rfl, by rw [HP.out]⟩)⟩⟩, ⟨Kd.V_drew (far5 (Kd.N_V (base' := w.heap.size) NS3.out) (fun k hk => hk.elim (fun h => .inl h.1) (fun h => .inr (by omega))) (fun k hk => by omega) (fun k hk => by omega) _ _ _ _ _)⟩, ⟨(below5 BX3.out _ _ _ _ _).drew⟩⟩
            · have HNW : Aside0 (nv = .slice (some ⟨ad.block, ad.off + 2, none⟩) l.length (c2 - 1)) := ⟨by rw [HNV.out, if_neg hc1, show ad.add 2 = ⟨ad.block, ad.off + 2, none⟩ from by unfold Addr.add; simp]⟩
              clear HNV
              have HNV := HNW
              clear HNW
              rw [HNV.out] at NS3
              go_upto_region 12 with (fail)
              try rw [show m2 - 1 = l.length from by have := HM2.out; omega]
              have XA3 := Aside0.mk (blk_far (p := ⟨g, i * 3 + 2, none⟩) XA2.out gg1' (.slice (some ⟨ad.block, ad.off + 2, none⟩) l.length (c2 - 1)))
              have XR3 := Aside0.mk (blk_far (p := ⟨g, i * 3 + 2, none⟩) XR2.out (fun h => gg2 h.symm) (.slice (some ⟨ad.block, ad.off + 2, none⟩) l.length (c2 - 1)))
              have XT3 := Aside0.mk (blk_far (p := ⟨g, i * 3 + 2, none⟩) XT2.out (fun h => gg3 h.symm) (.slice (some ⟨ad.block, ad.off + 2, none⟩) l.length (c2 - 1)))
              have BG3 := Aside0.mk (blk_far (p := ⟨g, i * 3 + 2, none⟩) BG.out gg4' (.slice (some ⟨ad.block, ad.off + 2, none⟩) l.length (c2 - 1)))
              have BX3 := Aside0.mk (BX2.out.setCell (p := ⟨g, i * 3 + 2, none⟩) (by show w.heap.size ≤ g; have := NG.out g rfl; omega) (.slice (some ⟨ad.block, ad.off + 2, none⟩) l.length (c2 - 1)))
              generalize (W1.setCell ⟨g, i * 3 + 2, none⟩ (.slice (some ⟨ad.block, ad.off + 2, none⟩) l.length (c2 - 1))) = W2 at *
              have hx0 : W2.cell? ⟨w.heap.size, 0, none⟩ = some (.int .i64 most) := (blk_cell XA3.out 0).trans rfl
              have hx1 : W2.cell? ⟨w.heap.size, 1, none⟩ = some (.int .u64 last) := (blk_cell XA3.out 1).trans rfl
              have hr0 : W2.cell? ⟨w.heap.size + 1, 0, none⟩ = some (.int .i64 0) := (blk_cell XR3.out 0).trans rfl
              have hr1 : W2.cell? ⟨w.heap.size + 1, 1, none⟩ = some (.int .u64 0) := (blk_cell XR3.out 1).trans rfl
              have hr2 : W2.cell? ⟨w.heap.size + 1, 2, none⟩ = some (.slice none 0 0) := (blk_cell XR3.out 2).trans rfl
              have ht0 : W2.cell? ⟨w.heap.size + 2, 0, none⟩ = some (.int .u64 0) := (blk_cell XT3.out 0).trans rfl
              have ht1 : W2.cell? ⟨w.heap.size + 2, 1, none⟩ = some (.int .i64 0) := (blk_cell XT3.out 1).trans rfl
              have hy0 := blk_frozen XR3.out 0
              have hy1 := blk_frozen XR3.out 1
              have hy2 := blk_frozen XR3.out 2
              have hz0 := blk_frozen XT3.out 0
              have hz1 := blk_frozen XT3.out 1
              have u0 : W2.cell? ⟨w1.heap.size, 0, none⟩ = some (.int .u64 x.f0) := (blk_cell BG3.out 0).trans rfl
              have u1 : W2.cell? ⟨w1.heap.size, 1, none⟩ = some (.int .i64 x.f1) := (blk_cell BG3.out 1).trans rfl
              go_region_held3 (fun w' => (w'.cell? ⟨w.heap.size, 0, none⟩ = some (.int .i64 most) ∧ w'.cell? ⟨w.heap.size, 1, none⟩ = some (.int .u64 last)) ∧ w'.cell? ⟨w1.heap.size, 0, none⟩ = some (.int .u64 x.f0) ∧ w'.cell? ⟨w1.heap.size, 1, none⟩ = some (.int .i64 x.f1)) (go_keep) (fail)
              obtain ⟨q0, q1, q2, q3, q4⟩ := cells5 XR3.out XT3.out (.int .i64 most) (.int .u64 last) (.slice (some ⟨g, 0, none⟩) cs.length c1) (.int .u64 x.f0) (.int .i64 x.f1) _ rfl
              clear hx0 hx1 hr0 hr1 hr2 ht0 ht1 u0 u1
              go_wp2
              refine bodyPost_ret (by simp [results, Try.results36, go_sem, q0, q1, q2, q3, q4]; try rfl) rfl ?_
              exact ⟨.slice (some ⟨g, 0, none⟩) cs.length c1, cs.set i ⟨p0, p1, l⟩, x, 0, rfl, ⟨.inr ⟨i, hi, HA.out, HG0.out, .inr (.inr ⟨HG1.out, l, by rw [HP.out], rfl, by rw [HP.out]⟩)⟩⟩, ⟨Kd.V_drew (far5 (Kd.N_V (base' := w.heap.size) NS3.out) (fun k hk => hk.elim (fun h => .inl h.1) (fun h => .inr (by omega))) (fun k hk => by omega) (fun k hk => by omega) _ _ _ _ _)⟩, ⟨(below5 BX3.out _ _ _ _ _).drew⟩⟩
        · have HG1 : Aside0 ((gc cs i).f1 ≠ ver) := ⟨by rw [HP.out]; exact h1⟩
          have d2 : (p1 == ver) = false := beq_eq_false_iff_ne.2 h1
          have d3 : (p1 != ver) = true := bne_iff_ne.2 h1
          have HG := HGONE.out 8 ⟨.inr ⟨i, hi, HA.out, HG0.out, .inl ⟨HG1.out, rfl, rfl, rfl⟩⟩⟩
          go_wp2
          refine bodyPost_ret (by simp [results, Try.results36, go_sem, q0, q1, q2, q3, q4]; try rfl) rfl ?_
          exact HG.out
      · have HG0 : Aside0 ((gc cs i).f0 ≠ h) := ⟨by rw [HP.out]; exact h0⟩
        have d2 : (p0 == h) = false := beq_eq_false_iff_ne.2 h0
        have d3 : (p0 != h) = true := bne_iff_ne.2 h0
        clear HGONE
        go_wp2
        go_round
        case rel => exact ⟨i + 1, by go_num, ⟨by omega⟩, ⟨fun j hj => by
          by_cases e : j = i
          · subst e; exact HG0.out
          · exact HA.out j (by omega)⟩⟩
        case measure => simp [intOf]; omega
    · have hi2 := HI.out
      have d1 : decide (i < cs.length) = false := decide_eq_false hi
      have HG := HGONE.out 7 ⟨.inl ⟨rfl, rfl, rfl, fun j hj => HA.out j (by omega)⟩⟩
      clear hi2
      go_wp2
      refine bodyPost_ret (by simp [results, Try.results36, go_sem, q0, q1, q2, q3, q4]; try rfl) rfl ?_
      exact HG.out
end Go.Proofs.Ytncbnejldlfbdaa.PCur
