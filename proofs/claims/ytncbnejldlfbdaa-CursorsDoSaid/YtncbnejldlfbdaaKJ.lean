/- What the law CursorsDo answers, of fewer than 2^39 deeds. -/
import Derived.Test.YtncbnejldlfbdaaKM
import Derived.Test.YtncbnejldlfbdaaCB
import Derived.Deep.DeepCutAuto
namespace Go.Proofs.Ytncbnejldlfbdaa.PCur
open Go.RowKit Go.Proofs.YtncbnejldlfbdaaW.PrintWords Go.Proofs.YtncbnejldlfbdaaW.PrintLast Go.Proofs.YtncbnejldlfbdaaW.PrintMore
open Go.Proofs.Ytncbnejldlfbdaa.PCursorsDo
open Go.Proofs.Ytncbnejldlfbdaa.PHeap (Wk Ent kept_size gt Heaped gt_eq gt_some leE)
set_option linter.unusedVariables false
set_option linter.unusedSimpArgs false
theorem may_bd {hs : List S31} (h : mayH hs = true) : hs.length ≤ 40 ∧ ∀ x ∈ hs, x.f1 ≤ 1125899906842624 := by
  unfold mayH at h
  rw [Bool.and_eq_true, decide_eq_true_eq, List.all_eq_true] at h
  exact ⟨h.1, fun x hx => by have := h.2 x hx; rw [Bool.and_eq_true, decide_eq_true_eq, decide_eq_true_eq] at this; exact this.2⟩
def newC (last : Nat) (ver : Int) (hs : List S31) (gW : Nat) (l : List Ent) (m : Nat) (w : World) : Cur := ⟨(last : Int) + 1, ver, sortH [] hs, gW, l, fun k => m ≤ k ∧ k < w.heap.size⟩
theorem newC_at {w : World} {base g b m gW last : Nat} {ver : Int} {hs : List S31} {l : List Ent} {T : Nat → Prop} (hw : Wk w m gW .nilFunc l 0 (fun k => m ≤ k)) (hp : l.Perm (hs.map toE)) (hm : mayH hs = true) (hb : base ≤ m) (tg : T g) (tb : T b) (tlt : ∀ k, T k → k < m) :
    CurAt w base g b (fun k => T k ∨ (newC last ver hs gW l m w).S k) (newC last ver hs gW l m w) := by
  have hpm := sortH_perm [] hs
  rw [List.nil_append] at hpm
  obtain ⟨h40, hbd⟩ := may_bd hm
  refine ⟨(hw.bound).weaken hb, fun k hk => ⟨.inr hk, fun e => ?_, fun e => ?_⟩, hp.trans (hpm.symm.map toE), sortH_sorted List.Pairwise.nil hs, fun x hx => hbd x (hpm.mem_iff.1 hx), by rw [show (newC last ver hs gW l m w).hs.length = hs.length from hpm.length_eq]; exact h40⟩
  · have := tlt g tg; have h2 : m ≤ k := hk.1; omega
  · have := tlt b tb; have h2 : m ≤ k := hk.1; omega
theorem hrow {w : World} {base : Nat} {A : Option Addr} {c : Nat} {cs : List Cur} (h : w.ownsRow base 22 1 (.slice A cs.length c) cs.length (nums .u64 (cs.map (·.h)))) : Kd.C (Kd.int .u64) w A (cs.map (·.h)).length (cs.map (·.h)) ∧ (cs.map (·.h)).length ≤ c := by
  refine row_C (base := base) ?_
  rw [List.length_map]
  exact h
theorem psame2 {base base2 : Nat} {A B : Option Addr} {c d : Nat} {cs : List Cur} {w : World} (hl : cs.length < 3300000000000) (ha : w.ownsRow base 22 1 (.slice A cs.length c) cs.length (nums .u64 (cs.map (·.h)))) (hb : w.ownsRow base2 22 1 (.slice B cs.length d) cs.length (nums .u64 (cs.map (·.h)))) :
    Calls Try.prog 26 #[.slice A cs.length c, .slice B cs.length d] w fun e w' => e = .returned (.bool true) ∧ Below w.heap.size w w' := by
  have h := psame_calls A B c d (cs.map (·.h)) w (by rw [List.length_map]; exact hl) (hrow ha) (hrow hb)
  rw [List.length_map] at h
  exact h
theorem at_cur {w : World} {base : Nat} {ok : Nat → Prop} {A : Option Addr} {c : Nat} {cs : List Cur} (h : Kd.V k86 86 w base ok (.slice A cs.length c) (cs.map curR)) {m : Nat} (hm : m < cs.length) : ∃ ad, A = some ad ∧ w.cell? (ad.add (m * 3)) = some (.int .u64 (cs[m]).h) := by
  have h2 := (Kd.V_reads' h).2.2
  obtain ⟨ad, _, _, e, h0, _⟩ := at_T86 h2 (m : Int) (by omega) (by rw [List.length_map]; omega)
  rw [Int.toNat_natCast, show rd_T86 (cs.map curR) (m : Int) = curR cs[m] from gc_map hm] at h0
  exact ⟨ad, e, h0⟩
structure Mid (w0 wS W : World) (g b r n : Nat) (most : Int) (last : Nat) (cs : List Cur) (T ok : Nat → Prop) (vL : Value) (xs : List S86) (q q2 q8 : Nat) (x y : Value) (d8 : Array Value) : Prop where
  ts : TS W w0.heap.size g b n most last cs T
  rh : W.heap[r]? = some (.cells #[.int .i64 most, .int .u64 (last : Int), vL] 75 (0, 0))
  vV : Kd.V k86 86 W w0.heap.size ok vL xs
  h13 : W.heap[q]? = some (.cells #[x, y] 31 (0, 0))
  h14 : W.heap[q2]? = some (.cells #[.int .u64 0, .int .i64 0] 31 (0, 0))
  h8 : W.heap[q8]? = some (.cells d8 25 (0, 0))
  hB : Below w0.heap.size w0 W
  sz : wS.heap.size ≤ W.heap.size
theorem mid2 {w0 wS w : World} {g b r n : Nat} {most : Int} {last : Nat} {cs : List Cur} {T ok : Nat → Prop} {vL a0 b0 : Value} {xs : List S86} {q q2 q8 : Nat} {d8 : Array Value} (ts : TS w w0.heap.size g b n most last cs T)
    (rh : w.heap[r]? = some (.cells #[.int .i64 most, .int .u64 (last : Int), vL] 75 (0, 0))) (vV : Kd.V k86 86 w w0.heap.size ok vL xs) (h13 : w.heap[q]? = some (.cells #[a0, b0] 31 (0, 0))) (h14 : w.heap[q2]? = some (.cells #[.int .u64 0, .int .i64 0] 31 (0, 0)))
    (h8 : w.heap[q8]? = some (.cells d8 25 (0, 0))) (hB : Below w0.heap.size w0 w) (sz : wS.heap.size ≤ w.heap.size) (N : ¬ T q ∧ q ≠ r ∧ ¬ ok q ∧ q8 ≠ q) (h2 : q2 ≠ q) (hb : w0.heap.size ≤ q) (x y : Value) :
    Mid w0 wS ((w.setCell ⟨q, 0, none⟩ x).setCell ⟨q, 1, none⟩ y) g b r n most last cs T ok vL xs q q2 q8 x y d8 := by
  obtain ⟨n1, n2, n3, n4⟩ := N
  refine ⟨ts.move (by simp [World.setCell]) (fun k hk => ?_), blk2 rh (fun e => n2 e.symm) _ _, Kd.V_far (p := ⟨q, 1, none⟩) (Kd.V_far (p := ⟨q, 0, none⟩) vV (fun k hk e => n3 (by rw [show q = k from e.symm]; exact hk)) _) (fun k hk e => n3 (by rw [show q = k from e.symm]; exact hk)) _, stored31 h13 _ _, blk2 h14 h2 _ _, blk2 h8 n4 _ _, (hB.setCell (p := ⟨q, 0, none⟩) hb _).setCell (p := ⟨q, 1, none⟩) hb _, by simpa [World.setCell] using sz⟩
  have hkq : k ≠ q := fun e => n1 (e ▸ hk)
  rw [Below.heap_setCell _ ⟨q, 1, none⟩ _ k hkq, Below.heap_setCell _ ⟨q, 0, none⟩ _ k hkq]
set_option maxHeartbeats 16000000 in
set_option maxRecDepth 1000000 in
theorem do_calls (most : Int) (A : Option Addr) (ds : List Dd) (c : Nat) (w : World) (hd : DeedsAt w A ds) (hn : ds.length < 3000000000000) :
    Calls Try.prog 7 #[.int .i64 most, .slice A ds.length c] w fun e w' => e = .returned (.bool true) ∧ Below w.heap.size w w' := by
  have hu25 := Try.underlying25
  have hu31 := Try.underlying31
  have hu75 := Try.underlying75
  have HD := Aside0.mk hd
  have HN := Aside0.mk hn
  clear hd hn
  go_enter Try.func7, Try.ntmps7
  go_wp2_with ((go_at_call 31; (with_reducible refine (new_calls most _).mono ?_); rintro e w1 ⟨g, b, rfl, ht, hb⟩; have HT := Aside0.mk ht; have HB := Aside0.mk hb; clear ht hb))
  have HS0 : Aside0 (St w (w1.alloc (.cells #[.int .i64 most, .int .u64 0, .slice none 0 0] 75)) g b w1.heap.size 0 most 0 [] (fun k => k = g ∨ k = b) (fun _ => False) (.slice none 0 0)) := ⟨by
    have hts := TS.new HT.out
    refine ⟨hts.below (below_alloc (Below.refl _ _) _), blk_new _ _, Kd.V_nil _ _ _ _ _, fun k hk => hk.elim, fun hk => ?_, HB.out.size, fun k hk => ?_, HB.out.alloc HB.out.size _⟩
    · have := hts.tlt _ hk; omega
    · rcases hk with rfl | rfl
      · exact HT.out.2.1
      · exact HT.out.2.2.1⟩
  clear HT HB
  generalize w1.heap.size = r at *
  generalize (w1.alloc (.cells #[.int .i64 most, .int .u64 0, .slice none 0 0] 75)) = w2 at *
  go_loopw [7] (fun v7 wr => ∃ (i n last : Nat) (cs : List Cur) (T okR : Nat → Prop) (vL : Value), v7 = .int .i64 (i : Int) ∧ Aside0 (i ≤ ds.length) ∧ Aside0 (n ≤ i) ∧ Aside0 (last ≤ i) ∧ Aside0 (St w wr g b r n most last cs T okR vL)) (fun v7 _ => ds.length - (intOf v7).toNat)
  case atStart => exact ⟨0, 0, 0, [], _, _, _, rfl, ⟨Nat.zero_le _⟩, ⟨Nat.le_refl _⟩, ⟨Nat.le_refl _⟩, HS0⟩
  case round =>
    clear HS0
    obtain ⟨i, n, last, cs, T, okR, vL, rfl, HI, HNI, HLI, HS'⟩ := hrel
    obtain ⟨okS, hokS⟩ : ∃ o : Nat → Prop, o = fun k => okR k ∧ k < wr.heap.size := ⟨_, rfl⟩
    have HOK : Aside0 (∀ k, okS k → k < wr.heap.size) := ⟨fun k hk => by rw [hokS] at hk; exact hk.2⟩
    have HS : Aside0 (St w wr g b r n most last cs T okS vL) := ⟨by rw [hokS]; exact HS'.out.okb⟩
    clear hokS HS'
    obtain ⟨AL, cL, rfl⟩ := Kd.V_slice HS.out.vV
    rw [List.length_map] at HS
    have HLC2 : Aside0 (cs.length ≤ last) := ⟨HS.out.ts.few⟩
    have HL40 : Aside0 (last < 3300000000000 ∧ n < 3300000000000 ∧ (cs.map curR).length < 3300000000000) := ⟨by have := HLI.out; have := HNI.out; have := HI.out; have := HN.out; have := HLC2.out; rw [List.length_map]; omega⟩
    have HIB : Aside0 ((i : Int) ≤ 3000000000000) := ⟨by have := HI.out; have := HN.out; omega⟩
    by_cases hi : i < ds.length
    · obtain ⟨ad, B, c8, rfl, x0, x1, x2, x3, hC, hlc, hh0, hh1⟩ := HD.out i hi
      have d1 : decide (i < ds.length) = true := decide_eq_true hi
      obtain ⟨dd, hdd⟩ : ∃ dd, gd ds i = dd := ⟨_, rfl⟩
      rw [hdd] at x0 x1 x2 x3 hC hlc hh0 hh1
      clear hdd
      obtain ⟨kd, hd, vr, hs⟩ := dd
      simp only at x0 x1 x2 x3 hC hlc hh0 hh1
      replace x0 := pw_cell_below HS.out.hB x0
      replace x1 := pw_cell_below HS.out.hB x1
      replace x2 := pw_cell_below HS.out.hB x2
      replace x3 := pw_cell_below HS.out.hB x3
      have HCW := Aside0.mk hC
      replace hC := Kd.C_below hC HS.out.hB
      have HWR : Aside0 (wr.heap.size < wr.heap.size + 1) := ⟨by omega⟩
      have HW := Aside0.mk (wf_u64 hh0 hh1)
      have HC := Aside0.mk (Kd.C_below hC (below_alloc (Below.refl _ _) (.cells #[.int .i64 kd, .int .u64 hd, .int .i64 vr, .slice B hs.length c8] 25)))
      have HLC := Aside0.mk hlc
      have HS1 := Aside0.mk (HS.out.alloc (.cells #[.int .i64 kd, .int .u64 hd, .int .i64 vr, .slice B hs.length c8] 25))
      have HQ := Aside0.mk (blk_new wr (.cells #[.int .i64 kd, .int .u64 hd, .int .i64 vr, .slice B hs.length c8] 25))
      have e3 : (wr.alloc (.cells #[.int .i64 kd, .int .u64 hd, .int .i64 vr, .slice B hs.length c8] 25)).cell? ⟨wr.heap.size, 3, none⟩ = some (.slice B hs.length c8) := (blk_cell HQ.out 3).trans rfl
      have HNQ : Aside0 (¬ T wr.heap.size ∧ wr.heap.size ≠ r ∧ ¬ okS wr.heap.size) := ⟨⟨fun h => Nat.lt_irrefl _ (HS.out.ts.tlt _ h), fun e => by have := HS.out.last_lt; omega, fun h => Nat.lt_irrefl _ (HOK.out _ h)⟩⟩
      have HWQ : Aside0 (w.heap.size ≤ wr.heap.size) := ⟨HS.out.hB.size⟩
      clear hC hlc hh0 hh1
      have HMF := may_f hs
      obtain ⟨km, hkm⟩ := HMF
      have HMC := Aside0.mk (fun (W : World) (hW : Kd.C k31 W B hs.length hs) => waywiserlaw29_may.calls km B c8 hs (mayH hs) W hW HLC.out hkm)
      clear hkm
      go_upto_region 7 with (fail)
      generalize hq8 : wr.heap.size = q8 at *
      clear hq8 HWR
      generalize (wr.alloc (.cells #[.int .i64 kd, .int .u64 hd, .int .i64 vr, .slice B hs.length c8] 25)) = W8 at *
      go_upto_if 34 with ((go_at_call 32; (with_reducible refine (HMC.out _ HC.out).mono ?_); rintro e w3 ⟨rfl, hb⟩; have HX := Aside0.mk hb.below; clear hb))
      cases hmay : mayH hs with
      | false =>
        go_wp2_with ((go_at_call 13; (with_reducible refine (lives_calls _).mono ?_); rintro e w9 ⟨rfl, hb⟩; have HZ := Aside0.mk (below_then (HS1.out.below HX.out).hB (HS1.out.below HX.out).hB.size hb); clear hb))
        go_ret
        exact ⟨rfl, HZ.out⟩
      | true =>
        have HMAY := Aside0.mk hmay
        have HS3 := Aside0.mk (HS1.out.below HX.out)
        have HQ3 := Aside0.mk (blk_below HQ.out HX.out)
        have HC3 := Aside0.mk (Kd.C_below HC.out HX.out)
        clear HS1 HQ HC HX e3 hmay x0 x1 x2 x3
        have e0 : w3.cell? ⟨q8, 0, none⟩ = some (.int .i64 kd) := (blk_cell HQ3.out 0).trans rfl
        go_upto_region 11 with (fail)
        have e0 : w3.cell? ⟨q8, 0, none⟩ = some (.int .i64 kd) := (blk_cell HQ3.out 0).trans rfl
        have hw4 := below_alloc (below_alloc (Below.refl w3.heap.size w3) (.cells #[.int .u64 0, .int .i64 0] 31)) (.cells #[.int .u64 0, .int .i64 0] 31)
        have HS4 := Aside0.mk ((HS3.out.alloc (.cells #[.int .u64 0, .int .i64 0] 31)).alloc (.cells #[.int .u64 0, .int .i64 0] 31))
        have HQ4 := Aside0.mk (blk_below HQ3.out hw4)
        have HC4 := Aside0.mk (Kd.C_below HC3.out hw4)
        have H13 := Aside0.mk (blk_alloc (blk_new w3 (.cells #[.int .u64 0, .int .i64 0] 31)) (.cells #[.int .u64 0, .int .i64 0] 31))
        have h14 := blk_new (w3.alloc (.cells #[.int .u64 0, .int .i64 0] 31)) (.cells #[.int .u64 0, .int .i64 0] 31)
        rw [show (w3.alloc (.cells #[.int .u64 0, .int .i64 0] 31)).heap.size = w3.heap.size + 1 from by simp] at h14
        have H14 := Aside0.mk h14
        have N13 : Aside0 (¬ T w3.heap.size ∧ w3.heap.size ≠ r ∧ ¬ okS w3.heap.size ∧ q8 ≠ w3.heap.size) := ⟨⟨fun h => Nat.lt_irrefl _ (HS3.out.ts.tlt _ h), fun e => by have := HS3.out.last_lt; omega, fun h => by have := HOK.out _ h; have := blk_lt HQ3.out; omega, by have := blk_lt HQ3.out; omega⟩⟩
        have N14 : Aside0 (¬ T (w3.heap.size + 1) ∧ w3.heap.size + 1 ≠ r ∧ ¬ okS (w3.heap.size + 1) ∧ q8 ≠ w3.heap.size + 1) := ⟨⟨fun h => by have := HS3.out.ts.tlt _ h; omega, fun e => by have := HS3.out.last_lt; omega, fun h => by have := HOK.out _ h; have := blk_lt HQ3.out; omega, by have := blk_lt HQ3.out; omega⟩⟩
        have HWQ3 : Aside0 (w.heap.size ≤ w3.heap.size) := ⟨HS3.out.hB.size⟩
        have HZ4 : Aside0 (w3.heap.size < ((w3.alloc (.cells #[.int .u64 0, .int .i64 0] 31)).alloc (.cells #[.int .u64 0, .int .i64 0] 31)).heap.size ∧ w3.heap.size + 1 < ((w3.alloc (.cells #[.int .u64 0, .int .i64 0] 31)).alloc (.cells #[.int .u64 0, .int .i64 0] 31)).heap.size) := ⟨by constructor <;> rw [Go.Deep.nblk_alloc, Go.Deep.nblk_alloc] <;> omega⟩
        clear hw4 h14 HS3 HQ3 HC3
        have e0 : ((w3.alloc (.cells #[.int .u64 0, .int .i64 0] 31)).alloc (.cells #[.int .u64 0, .int .i64 0] 31)).cell? ⟨q8, 0, none⟩ = some (.int .i64 kd) := (blk_cell HQ4.out 0).trans rfl
        go_upto_block 2 with (fail)
        obtain ⟨q13, hq13⟩ : ∃ q, w3.heap.size = q := ⟨_, rfl⟩
        obtain ⟨q14, hq14⟩ : ∃ q, w3.heap.size + 1 = q := ⟨_, rfl⟩
        have N1314 : Aside0 (q14 ≠ q13 ∧ w.heap.size ≤ q14) := ⟨by have := HWQ3.out; omega⟩
        generalize ((w3.alloc (.cells #[.int .u64 0, .int .i64 0] 31)).alloc (.cells #[.int .u64 0, .int .i64 0] 31)) = W4 at *
        rw [hq14] at H14 N14 HZ4 ⊢
        rw [hq13] at H13 N13 HZ4 HWQ3 ⊢
        clear hq14
        clear hq13 e0
        go_cut [9, 10, 11, 12] (fun s9 s10 s11 s12 wx => ∃ (nn er : Int) (x : S31) (n' last' : Nat) (cs' : List Cur) (T' okR' : Nat → Prop) (A' : Option Addr) (m' c' : Nat), s9 = .int .u64 nn ∧ s10 = .int .u64 nn ∧ s11 = .int .i64 er ∧ s12 = .int .i64 er ∧ Aside0 (n' ≤ i + 1 ∧ last' ≤ i + 1) ∧ Aside0 (St w wx g b r n' most last' cs' T' okR' (.slice A' m' c')) ∧
          Aside0 (wx.heap[q13]? = some (.cells #[.int .u64 x.f0, .int .i64 x.f1] 31 (0, 0))) ∧ Aside0 (wx.heap[q14]? = some (.cells #[.int .u64 x.f0, .int .i64 x.f1] 31 (0, 0))))
        case first =>
          have e0 : W4.cell? ⟨q8, 0, none⟩ = some (.int .i64 kd) := (blk_cell HQ4.out 0).trans rfl
          by_cases hk0 : kd = 0
          · have d20 : (kd == 0) = true := beq_iff_eq.2 hk0
            have e2 : W4.cell? ⟨q8, 2, none⟩ = some (.int .i64 vr) := (blk_cell HQ4.out 2).trans rfl
            have e3 : W4.cell? ⟨q8, 3, none⟩ = some (.slice B hs.length c8) := (blk_cell HQ4.out 3).trans rfl
            have HQR : Aside0 (∀ k, okS k → k < W4.heap.size) := ⟨fun k hk => by have := HOK.out k hk; have := blk_lt HQ4.out; omega⟩
            clear hk0
            go_upto_region 15 with (fail)
            go_region_held3 (fun w' => w'.cell? ⟨q8, 2, none⟩ = some (.int .i64 vr) ∧ w'.cell? ⟨q8, 3, none⟩ = some (.slice B hs.length c8)) (first | go_keep | exact ⟨pw_cell_below hbw e2, pw_cell_below hbw e3⟩ | exact ⟨pw_cell_below hbp f2, pw_cell_below hbp f3⟩ | exact ⟨g2, g3⟩) (first | (go_at_call 33; (with_reducible refine (walk_calls B hs c8 _ (Kd.C_below HC4.out (below_drew1 (Below.refl _ _))) (may_bd HMAY.out).1).mono ?_); rintro e w5 ⟨gW, l, rfl, h1, h2, h3⟩; have hbw := h3.out; have BW : Aside0 (Below W4.heap.size W4 w5) := ⟨below_then (below_drew1 (Below.refl _ _)) (Nat.le_refl _) hbw⟩; have TS5 := Aside0.mk (HS4.out.ts.below BW.out); have NC := Aside0.mk (newC_at (last := last) (ver := vr) (base := w.heap.size) (g := g) (b := b) (T := T) h1.out h2.out HMAY.out HS4.out.hB.size HS4.out.ts.tg HS4.out.ts.tb HS4.out.ts.tlt); have PO : Aside0 (Calls Try.prog 8 #[.pointer (some ⟨g, 0, none⟩), .int .i64 vr, .pointer (some ⟨gW, 0, none⟩)] w5 (RetPO w w5 w.heap.size g b n most last cs T (newC last vr hs gW l W4.heap.size w5))) := ⟨popen_calls w.heap.size g b n most last cs T (newC last vr hs gW l W4.heap.size w5) w w5 TS5.out (below_then HS4.out.hB HS4.out.hB.size BW.out) (Nat.le_trans HS4.out.hB.size BW.out.size) HL40.out.1 HL40.out.2.1 rfl NC.out (fun k hk hT => by have := HS4.out.ts.tlt k hT; have h9 : W4.heap.size ≤ k := hk.1; omega) (fun k hk => hk.2)⟩; have g2 := pw_cell_below BW.out e2; have g3 := pw_cell_below BW.out e3; clear h1 h2 h3) | (go_at_call 8; (with_reducible refine PO.out.mono ?_); rintro e w6 ⟨nn, er, n2, last2, cs2, T2, rfl, h1, h2, h3, h4, h5, h6⟩; have PC := h1; have PN := h2; have PT := h3; have PTT := h4; have PE := h5; have h14 := blk_kept (blk_below H14.out BW.out) h6.out N14.out.1; have h13 := blk_kept (blk_below H13.out BW.out) h6.out N13.out.1; have h8 := blk_kept (blk_below HQ4.out BW.out) h6.out HNQ.out.1; have hr6 := blk_kept (blk_below HS4.out.rh BW.out) h6.out HS4.out.rT; have PV := Aside0.mk (Kd.V_kept (Kd.V_below HS4.out.vV BW.out) h6.out (fun k hk => (HS4.out.off k hk).1)); have P13 := Aside0.mk h13; have P14 := Aside0.mk h14; have P8 := Aside0.mk h8; have PR := Aside0.mk hr6; have PS : Aside0 (W4.heap.size ≤ w6.heap.size) := ⟨Nat.le_trans BW.out.size (kept_size h6.out)⟩; have g2 : w6.cell? ⟨q8, 2, none⟩ = some (.int .i64 vr) := (blk_cell h8 2).trans rfl; have g3 : w6.cell? ⟨q8, 3, none⟩ = some (.slice B hs.length c8) := (blk_cell h8 3).trans rfl; clear h1 h2 h3 h4 h5 h6 h8 h13 h14 hr6))
            clear e0 e2 e3
            have e2 : w6.cell? ⟨q8, 2, none⟩ = some (.int .i64 vr) := (blk_cell P8.out 2).trans rfl
            have e3 : w6.cell? ⟨q8, 3, none⟩ = some (.slice B hs.length c8) := (blk_cell P8.out 3).trans rfl
            have r0 : w6.cell? ⟨r, 0, none⟩ = some (.int .i64 most) := (blk_cell PR.out 0).trans rfl
            have r1 : w6.cell? ⟨r, 1, none⟩ = some (.int .u64 (last : Int)) := (blk_cell PR.out 1).trans rfl
            have r2 : w6.cell? ⟨r, 2, none⟩ = some (.slice AL cs.length cL) := (blk_cell PR.out 2).trans rfl
            go_upto_region 16 with (fail)
            go_region_with (first | (go_at_call 35; (with_reducible refine (waywiserref11_Sort.calls (2 * hs.length + 2) B c8 hs (sortH [] hs) _ (Kd.C_below (Kd.C_below HCW.out PE.out) (below_drew1 (Below.refl _ _))) HLC.out (sort_f hs (by have := (may_bd HMAY.out).1; omega))).mono ?_); rintro e w7 ⟨v7, rfl, h1, h2⟩; obtain ⟨A7, c7, e7⟩ := Kd.V_slice (Kd.R_V (base' := 0) h1); subst e7; have BX : Aside0 (Below w6.heap.size w6 w7) := ⟨below_then (below_drew1 (Below.refl _ _)) (Nat.le_refl _) h2⟩; have VH : Aside0 (Kd.V k31 31 w7 w.heap.size (fun k => w6.heap.size ≤ k) (.slice A7 (sortH [] hs).length c7) (sortH [] hs)) := ⟨Kd.R_V (Kd.R_mono (Kd.R_bound h1) (fun k hk => hk.2.1))⟩; have VL := Aside0.mk (Kd.V_below PV.out BX.out); have i2 := pw_cell_below BX.out e2; have i3 := pw_cell_below BX.out e3; have i4 := pw_cell_below BX.out r0; have i5 := pw_cell_below BX.out r1; have i6 := pw_cell_below BX.out r2; clear h1 h2) | (go_at_call 34; (with_reducible refine (ropen_calls most last vr (cs.map curR) (sortH [] hs) okS (fun k => w6.heap.size ≤ k) AL A7 _ cL c7 w7 w.heap.size VL.out VH.out HL40.out.1 HL40.out.2.2).mono ?_); rintro e w8 ⟨A2, m2, c2, nn2, er2, last3, cs3, rfl, k1, k2, k3⟩; obtain ⟨rfl, rfl, rfl, rfl⟩ := PC.out.det k1.out; have KV := k2; have KO : Aside0 (∀ k, (okS k ∨ w6.heap.size ≤ k ∨ w7.heap.size ≤ k) → ¬ T2 k ∧ k ≠ r) := ⟨fun k hk => hk.elim (fun h => ⟨fun h9 => (PTT.out k h9).elim (HS4.out.off k h).1 (fun h8 => by have h7 : W4.heap.size ≤ k := h8.1; have := HQR.out k h; omega), (HS4.out.off k h).2⟩) (fun h => by have h5 : w6.heap.size ≤ k := h.elim id (Nat.le_trans BX.out.size); exact ⟨fun h9 => by have := PT.out.tlt k h9; omega, fun e2 => by have := HS4.out.last_lt; have := PS.out; omega⟩)⟩; have KT : Aside0 (¬ T2 r) := ⟨fun h9 => (PTT.out r h9).elim HS4.out.rT (fun h8 => by have h7 : W4.heap.size ≤ r := h8.1; have := HS4.out.last_lt; omega)⟩; have KTB : Aside0 (∀ k, T2 k → w.heap.size ≤ k) := ⟨fun k h9 => (PTT.out k h9).elim (HS4.out.tb k) (fun h8 => by have h7 : W4.heap.size ≤ k := h8.1; have := HS4.out.hB.size; omega)⟩; have BY := Aside0.mk (below_then BX.out BX.out.size k3.out); have P1 := Aside0.mk (PT.out.below BY.out); have hr7 := blk_below PR.out BY.out; have PR7 := Aside0.mk hr7; have P137 := Aside0.mk (blk_below P13.out BY.out); have P147 := Aside0.mk (blk_below P14.out BY.out); have PB := Aside0.mk (below_then PE.out PE.out.size BY.out); have s0 : w8.cell? ⟨r, 0, none⟩ = some (.int .i64 most) := (blk_cell hr7 0).trans rfl; have s1 : w8.cell? ⟨r, 1, none⟩ = some (.int .u64 (last : Int)) := (blk_cell hr7 1).trans rfl; have s2 : w8.cell? ⟨r, 2, none⟩ = some (.slice AL cs.length cL) := (blk_cell hr7 2).trans rfl; have y0 := blk_frozen hr7 0; have y1 := blk_frozen hr7 1; have y2 := blk_frozen hr7 2; have h8 := blk_below P8.out BY.out; have j2 : w8.cell? ⟨q8, 2, none⟩ = some (.int .i64 vr) := (blk_cell h8 2).trans rfl; have j3 : w8.cell? ⟨q8, 3, none⟩ = some (.slice B hs.length c8) := (blk_cell h8 3).trans rfl; have j4 := s0; have j5 := s1; have j6 := s2; clear k1 k2 k3 hr7 h8))
            all_goals
              go_wp2
              go_meet
              exact ⟨nn, er, z31, n2, last2, cs2, T2, _, A2, m2, c2, rfl, rfl, rfl, rfl, ⟨by have := HNI.out; have := HLI.out; have := PN.out; omega⟩, ⟨St.write P1.out PR7.out KV.out KO.out KT.out HS4.out.rb KTB.out PB.out⟩, ⟨blk3 P137.out N13.out.2.1 _ _ _⟩, ⟨blk3 P147.out N14.out.2.1 _ _ _⟩⟩
          · by_cases hk1 : kd = 1
            · have d20 : (kd == 0) = false := beq_eq_false_iff_ne.2 hk0
              have d21 : (kd == 1) = true := beq_iff_eq.2 hk1
              have e1 : W4.cell? ⟨q8, 1, none⟩ = some (.int .u64 hd) := (blk_cell HQ4.out 1).trans rfl
              have e2 : W4.cell? ⟨q8, 2, none⟩ = some (.int .i64 vr) := (blk_cell HQ4.out 2).trans rfl
              clear hk0 hk1
              go_upto_region 19 with ((go_at_call 9; (with_reducible refine (pnext_calls w.heap.size g b n most last cs T hd vr HW.out w _ HS4.out.ts HS4.out.hB HS4.out.hB.size).mono ?_); rintro e w6 ⟨x, er, cs6, rfl, h1, h2, h3, h4⟩; have PC := h1; have h13 := blk_kept H13.out h4.out N13.out.1; have PM := Aside0.mk (mid2 (wS := W4) h2.out (blk_kept HS4.out.rh h4.out HS4.out.rT) (Kd.V_kept HS4.out.vV h4.out (fun k hk => (HS4.out.off k hk).1)) h13 (blk_kept H14.out h4.out N14.out.1) (blk_kept HQ4.out h4.out HNQ.out.1) h3.out (kept_size h4.out) N13.out N1314.out.1 HWQ3.out (.int .u64 x.f0) (.int .i64 x.f1)); have z0 := blk_frozen h13 0; have z1 := blk_frozen h13 1; have c0 : w6.cell? ⟨q13, 0, none⟩ = some (.int .u64 0) := (blk_cell h13 0).trans rfl; have c1 : w6.cell? ⟨q13, 1, none⟩ = some (.int .i64 0) := (blk_cell h13 1).trans rfl; clear h1 h2 h3 h4 h13))
              clear e0 e1 e2 z0 z1 c0 c1
              generalize ((w6.setCell ⟨q13, 0, none⟩ (.int .u64 x.f0)).setCell ⟨q13, 1, none⟩ (.int .i64 x.f1)) = W6 at *
              have e1 : W6.cell? ⟨q8, 1, none⟩ = some (.int .u64 hd) := (blk_cell PM.out.h8 1).trans rfl
              have e2 : W6.cell? ⟨q8, 2, none⟩ = some (.int .i64 vr) := (blk_cell PM.out.h8 2).trans rfl
              have r0 : W6.cell? ⟨r, 0, none⟩ = some (.int .i64 most) := (blk_cell PM.out.rh 0).trans rfl
              have r1 : W6.cell? ⟨r, 1, none⟩ = some (.int .u64 (last : Int)) := (blk_cell PM.out.rh 1).trans rfl
              have r2 : W6.cell? ⟨r, 2, none⟩ = some (.slice AL cs.length cL) := (blk_cell PM.out.rh 2).trans rfl
              go_wp2_with ((go_at_call 36; (with_reducible refine (rnext_calls most last hd vr (cs.map curR) okS AL _ cL _ w.heap.size PM.out.vV HL40.out.2.2).mono ?_); rintro e w7 ⟨A2, n2, c2, k2, er2, cs7, rfl, k1, k4, k3⟩; obtain ⟨rfl, rfl, rfl⟩ := PC.out.det k1.out; have KV := k4; have KO : Aside0 (∀ k, (okS k ∨ W6.heap.size ≤ k) → ¬ T k ∧ k ≠ r) := ⟨fun k hk => hk.elim (fun h => HS4.out.off k h) (fun h => ⟨fun hT => by have := HS4.out.ts.tlt k hT; have := PM.out.sz; omega, fun e2 => by have := HS4.out.last_lt; have := PM.out.sz; omega⟩)⟩; have P1 := Aside0.mk (PM.out.ts.below k3.out); have hr7 := blk_below PM.out.rh k3.out; have PR := Aside0.mk hr7; have P13 := Aside0.mk (blk_below PM.out.h13 k3.out); have h14 := blk_below PM.out.h14 k3.out; have P14 := Aside0.mk h14; have PB := Aside0.mk (below_then PM.out.hB PM.out.hB.size k3.out); have s0 : w7.cell? ⟨r, 0, none⟩ = some (.int .i64 most) := (blk_cell hr7 0).trans rfl; have s1 : w7.cell? ⟨r, 1, none⟩ = some (.int .u64 (last : Int)) := (blk_cell hr7 1).trans rfl; have s2 : w7.cell? ⟨r, 2, none⟩ = some (.slice AL cs.length cL) := (blk_cell hr7 2).trans rfl; have y0 := blk_frozen hr7 0; have y1 := blk_frozen hr7 1; have y2 := blk_frozen hr7 2; have t0 : w7.cell? ⟨q14, 0, none⟩ = some (.int .u64 0) := (blk_cell h14 0).trans rfl; have t1 : w7.cell? ⟨q14, 1, none⟩ = some (.int .i64 0) := (blk_cell h14 1).trans rfl; have hne := N14.out.2.1; have hne2 := hne.symm; have u0 := blk_frozen h14 0; have u1 := blk_frozen h14 1; clear k1 k4 k3 hr7 h14))
              go_meet
              exact ⟨0, er, x, n, last, cs6, T, _, A2, n2, c2, rfl, rfl, rfl, rfl, ⟨by have := HNI.out; have := HLI.out; omega⟩, ⟨St.far2 (St.write P1.out PR.out KV.out KO.out HS4.out.rT HS4.out.rb HS4.out.tb PB.out) N14.out.1 (fun hk => hk.elim N14.out.2.2.1 (fun h => by have := PM.out.sz; have := HZ4.out; omega)) N14.out.2.1 N1314.out.2 _ _⟩, ⟨blk2 (blk3 P13.out N13.out.2.1 _ _ _) N1314.out.1.symm _ _⟩, ⟨stored31 (blk3 P14.out N14.out.2.1 _ _ _) _ _⟩⟩
            · have d20 : (kd == 0) = false := beq_eq_false_iff_ne.2 hk0
              have d21 : (kd == 1) = false := beq_eq_false_iff_ne.2 hk1
              have e1 : W4.cell? ⟨q8, 1, none⟩ = some (.int .u64 hd) := (blk_cell HQ4.out 1).trans rfl
              clear hk0 hk1
              go_wp2_with (first | (go_at_call 10; (with_reducible refine (pclose_calls w.heap.size g b n most last cs T hd HW.out w _ HS4.out.ts HS4.out.hB HS4.out.hB.size).mono ?_); rintro e w6 ⟨er, cs6, rfl, h1, h2, h3, h4⟩; have PC := h1; have P6 := h2; have PB6 := h3; have hr6 := blk_kept HS4.out.rh h4.out HS4.out.rT; have PR6 := Aside0.mk hr6; have PV := Aside0.mk (Kd.V_kept HS4.out.vV h4.out (fun k hk => (HS4.out.off k hk).1)); have hq6 := blk_kept HQ4.out h4.out HNQ.out.1; have P136 := Aside0.mk (blk_kept H13.out h4.out N13.out.1); have P146 := Aside0.mk (blk_kept H14.out h4.out N14.out.1); have PZ : Aside0 (W4.heap.size ≤ w6.heap.size) := ⟨kept_size h4.out⟩; have r0 : w6.cell? ⟨r, 0, none⟩ = some (.int .i64 most) := (blk_cell hr6 0).trans rfl; have r1 : w6.cell? ⟨r, 1, none⟩ = some (.int .u64 (last : Int)) := (blk_cell hr6 1).trans rfl; have r2 : w6.cell? ⟨r, 2, none⟩ = some (.slice AL cs.length cL) := (blk_cell hr6 2).trans rfl; have q1 : w6.cell? ⟨q8, 1, none⟩ = some (.int .u64 hd) := (blk_cell hq6 1).trans rfl; clear h1 h2 h3 h4 hr6 hq6) | (go_at_call 37; (with_reducible refine (rclose_calls most last hd (cs.map curR) okS AL _ cL _ w.heap.size PV.out HL40.out.2.2).mono ?_); rintro e w7 ⟨A2, n2, c2, er2, cs7, rfl, k1, k2, k3⟩; have KD := Aside0.mk (PC.out.det k1.out); have KV := k2; have KO : Aside0 (∀ k, (okS k ∨ w6.heap.size ≤ k) → ¬ T k ∧ k ≠ r) := ⟨fun k hk => hk.elim (fun h => HS4.out.off k h) (fun h => ⟨fun hT => by have := HS4.out.ts.tlt k hT; have := PZ.out; omega, fun e2 => by have := HS4.out.last_lt; have := PZ.out; omega⟩)⟩; have P1 := Aside0.mk (P6.out.below k3.out); have hr7 := blk_below PR6.out k3.out; have PR := Aside0.mk hr7; have P13 := Aside0.mk (blk_below P136.out k3.out); have P14 := Aside0.mk (blk_below P146.out k3.out); have PB := Aside0.mk (below_then PB6.out PB6.out.size k3.out); have s0 : w7.cell? ⟨r, 0, none⟩ = some (.int .i64 most) := (blk_cell hr7 0).trans rfl; have s1 : w7.cell? ⟨r, 1, none⟩ = some (.int .u64 (last : Int)) := (blk_cell hr7 1).trans rfl; have s2 : w7.cell? ⟨r, 2, none⟩ = some (.slice AL cs.length cL) := (blk_cell hr7 2).trans rfl; have y0 := blk_frozen hr7 0; have y1 := blk_frozen hr7 1; have y2 := blk_frozen hr7 2; clear k1 k2 k3 hr7))
              go_meet
              exact ⟨0, er, z31, n, last, cs6, T, _, A2, n2, c2, rfl, rfl, rfl, by rw [KD.out.1], ⟨by have := HNI.out; have := HLI.out; omega⟩, ⟨St.write P1.out PR.out (by rw [KD.out.2]; exact KV.out) KO.out HS4.out.rT HS4.out.rb HS4.out.tb PB.out⟩, ⟨blk3 P13.out N13.out.2.1 _ _ _⟩, ⟨blk3 P14.out N14.out.2.1 _ _ _⟩⟩
        case rest =>
          obtain ⟨nn, er, x, n2, last2, cs2, T2, okR2, A2, m2, c2, rfl, rfl, rfl, rfl, HBN, HSX, HX13, HX14⟩ := hcut
          obtain rfl : m2 = cs2.length := by have := (Kd.V_at HSX.out.vV).1; rwa [List.length_map] at this
          have HLC' : Aside0 (cs2.length < 3000000000000) := ⟨by have := HSX.out.ts.few; have := HBN.out; have := HI.out; have := HN.out; omega⟩
          have HL2 : Aside0 (last2 < 3300000000000) := ⟨by have := HBN.out; have := HI.out; have := HN.out; omega⟩
          have HIM := Aside0.mk hi
          try clear HS4
          try clear HQ4
          try clear HC4
          try clear H13
          try clear H14
          try clear HZ4
          try clear HS
          try clear HC
          try clear HWQ3
          try clear HNQ
          try clear HMC
          try clear HQ1
          try clear HL40
          try clear HLC2
          try clear HLC
          try clear HW
          try clear N13
          try clear N14
          try clear N1314
          try clear HCW
          try clear HOK
          try clear HMAY
          try clear HWQ
          try clear HNI
          try clear HLI
          try clear d1
          try clear hi
          have r2 : wc.cell? ⟨r, 2, none⟩ = some (.slice A2 cs2.length c2) := (blk_cell HSX.out.rh 2).trans rfl
          go_wp2
          go_loopw [15, 16] (fun s15 s16 wy => ∃ (m : Nat) (A : Option Addr) (c : Nat), s15 = .slice A m c ∧ s16 = .int .i64 (m : Int) ∧ Aside0 (m ≤ cs2.length) ∧ Aside0 (wy.ownsRow wc.heap.size 22 1 (.slice A m c) m (nums .u64 ((cs2.map (·.h)).take m))) ∧ Aside0 (Below wc.heap.size wc wy)) (fun _ s16 _ => cs2.length - (intOf s16).toNat)
          case atStart => exact ⟨0, none, 0, rfl, rfl, ⟨Nat.zero_le _⟩, ⟨own_nil _ _ _ _⟩, ⟨Below.refl _ _⟩⟩
          case round =>
            obtain ⟨m, A, c, rfl, rfl, HM, HR, HB⟩ := hrel
            replace r2 := pw_cell_below HB.out r2
            by_cases hm : m < cs2.length
            · have d5 : decide (m < cs2.length) = true := decide_eq_true hm
              obtain ⟨a2, rfl, ha0⟩ := at_cur HSX.out.vV hm
              replace ha0 := pw_cell_below HB.out ha0
              have HV : Aside0 (nums .u64 ((cs2.map (·.h)).take (m + 1)) = nums .u64 ((cs2.map (·.h)).take m) ++ [.int .u64 (cs2[m]).h]) := ⟨by rw [List.take_succ_eq_append_getElem (by simpa using hm), nums_append]; simp; rfl⟩
              have hmb : (m : Int) ≤ 3000000000000 := by have := HLC'.out; omega
              have HMM := Aside0.mk hm
              generalize (cs2[m]).h = hm0 at *
              go_wp2_with (((with_reducible refine gate_builtin (b := .append) (xs := #[.tmp 100, .tmp 107]) rfl ?_); refine print_append_cells (w0 := wc) (W := _) wc.heap.size rfl (.tmp 100) (.tmp 107) 36 22 (.int .u64 0) 1 8 rfl Try.underlying36 info22 rfl (by decide) (by decide) (.slice A m c) m (nums .u64 ((cs2.map (·.h)).take m)) [.int .u64 hm0] rfl (by rfl) rfl (by simp [Value.oneCell']) HR.out HB.out HB.out.size (by have := HLC'.out; have := HMM.out; omega) ?_; intro v1 w1 hr hb1 hgr hat; obtain ⟨A3, c3, rfl⟩ := own_slice hr; have RX := Aside0.mk hr; have BX := Aside0.mk hb1; clear hr hb1 hgr hat))
              go_roundw
              case rel => exact ⟨m + 1, A3, c3, rfl, by go_num, ⟨by have := HMM.out; omega⟩, ⟨by rw [HV.out]; exact RX.out⟩, BX⟩
              case measure => simp [intOf]; have := HMM.out; omega
            · obtain rfl : m = cs2.length := by have := HM.out; omega
              have d5 : decide (cs2.length < cs2.length) = false := decide_eq_false (by omega)
              have HRR : Aside0 (wr.ownsRow wc.heap.size 22 1 (.slice A cs2.length c) cs2.length (nums .u64 (cs2.map (·.h)))) := ⟨by have := HR.out; rwa [List.take_of_length_le (by simp)] at this⟩
              have HTS := Aside0.mk (HSX.out.ts.below HB.out)
              have p0 : wr.cell? ⟨q13, 0, none⟩ = some (.int .u64 x.f0) := (blk_cell (blk_below HX13.out HB.out) 0).trans rfl
              have p1 : wr.cell? ⟨q13, 1, none⟩ = some (.int .i64 x.f1) := (blk_cell (blk_below HX13.out HB.out) 1).trans rfl
              have p2 : wr.cell? ⟨q14, 0, none⟩ = some (.int .u64 x.f0) := (blk_cell (blk_below HX14.out HB.out) 0).trans rfl
              have p3 : wr.cell? ⟨q14, 1, none⟩ = some (.int .i64 x.f1) := (blk_cell (blk_below HX14.out HB.out) 1).trans rfl
              clear hm
              go_upto_region 25 with (fail)
              go_region_held3 (fun w' => ((w'.cell? ⟨q13, 0, none⟩ = some (.int .u64 x.f0) ∧ w'.cell? ⟨q13, 1, none⟩ = some (.int .i64 x.f1)) ∧ w'.cell? ⟨q14, 0, none⟩ = some (.int .u64 x.f0) ∧ w'.cell? ⟨q14, 1, none⟩ = some (.int .i64 x.f1)) ∧ w'.cell? ⟨r, 2, none⟩ = some (.slice A2 cs2.length c2)) (first | go_keep | exact ⟨⟨⟨i0, i1⟩, i2, i3⟩, i4⟩ | exact ⟨⟨⟨j0, j1⟩, j2, j3⟩, j4⟩) (first | (go_at_call 11; (with_reducible refine (plen_calls w.heap.size g b n2 most last2 cs2 T2 _ (HTS.out.below (below_drew1 (Below.refl _ _)))).mono ?_); rintro e w5 ⟨rfl, rfl⟩) | (go_at_call 12; (with_reducible refine (phandles_calls w.heap.size g b n2 most last2 cs2 T2 _ (HTS.out.below (below_drew1 (Below.refl _ _))) HL2.out).mono ?_); rintro e w7 ⟨A7, c7, rfl, h1, h2⟩; have R7 := h1; have B7 : Aside0 (Below wr.heap.size wr w7) := ⟨below_then (below_drew1 (Below.refl _ _)) (Nat.le_refl _) h2.out⟩; have HR7 := Aside0.mk (pw_own_below HRR.out B7.out); have i0 := pw_cell_below B7.out p0; have i1 := pw_cell_below B7.out p1; have i2 := pw_cell_below B7.out p2; have i3 := pw_cell_below B7.out p3; have i4 := pw_cell_below B7.out r2; clear h1 h2) | (go_at_call 26; (with_reducible refine (psame2 (cs := cs2) (by have := HLC'.out; omega) R7.out HR7.out).mono ?_); rintro e w8 ⟨rfl, hb⟩; have B8 : Aside0 (Below wr.heap.size wr w8) := ⟨below_then B7.out B7.out.size hb⟩; have j0 := pw_cell_below B8.out p0; have j1 := pw_cell_below B8.out p1; have j2 := pw_cell_below B8.out p2; have j3 := pw_cell_below B8.out p3; have j4 := pw_cell_below B8.out r2; clear hb))
              have hib := HIB.out
              go_wp2
              go_roundw
              case rel => exact ⟨i + 1, n2, last2, cs2, T2, okR2, _, by go_num, ⟨by have := HIM.out; omega⟩, ⟨HBN.out.1⟩, ⟨HBN.out.2⟩, ⟨HSX.out.below (below_then HB.out HB.out.size B8.out)⟩⟩
              case measure => simp [intOf]; have := HIM.out; omega
    · have h2 := HI.out
      have d1 : decide (i < ds.length) = false := decide_eq_false hi
      go_wp2_with ((go_at_call 13; (with_reducible refine (lives_calls _).mono ?_); rintro e w9 ⟨rfl, hb⟩; have HZ := Aside0.mk (below_then HS.out.hB HS.out.hB.size hb); clear hb))
      go_ret
      exact ⟨rfl, HZ.out⟩
end Go.Proofs.Ytncbnejldlfbdaa.PCur
