/- What lives of the law's package tells; no condition. -/
import Derived.Test.YtncbnejldlfbdaaJS
namespace Go.Proofs.Ytncbnejldlfbdaa.PIdx
open Go.RowKit Go.Proofs.YtncbnejldlfbdaaW.PrintWords Go.Proofs.YtncbnejldlfbdaaW.PrintLast Go.Proofs.YtncbnejldlfbdaaW.PrintMore
open Go.Proofs.Ytncbnejldlfbdaa.PIndexFresh
open Go.Proofs.Ytncbnejldlfbdaa.PHeap (Row)
open Go.Maps (Keyed int_keyed keyOf_int_mk)
open Go.ChangeMaps Go.MapKept
set_option linter.unusedVariables false
set_option linter.unusedSimpArgs false
set_option maxHeartbeats 40000000 in
set_option maxRecDepth 1000000 in
theorem fresh_no (A : Option Addr) (n c : Nat) (T : List It) (p : Int → Bool) (w : World) (hT : Lie w A T) (hn : T.length = n) (hbig : n < 1152921504606846976) (hw : ∀ t ∈ T, (Lit.int .u64 t.x.f0).wf = true)
    (hp : ∀ (id : Int) (W : World), Below w.heap.size w W → Calls Try.prog 51 #[.int .u64 id] W fun e w' => e = .returned (.bool (p id)) ∧ Below W.heap.size W w') :
    Calls Try.prog 24 #[.slice A n c, .func (.func 51) #[] #[]] w fun e w' => ∃ m f, e = .returned (.tuple #[.int .i64 m, .int .i64 f]) ∧ Aside0 (FreshAt T p m f) ∧ Aside0 (Below w.heap.size w w') := by
  have hu54 := Try.underlying54
  have hu65 := Try.underlying65
  have hmm := @run_makeMap Try.prog
  have HT := Aside0.mk hT
  have HN : Aside0 (T.length = n ∧ n < 1152921504606846976) := ⟨hn, hbig⟩
  have HWF := Aside0.mk hw
  have HP := Aside0.mk hp
  clear hT hn hbig hw hp
  have HM0 : Aside0 (IM (w.alloc (.map #[] 0)) w.heap.size 0 (.map [])) := ⟨World.ownsMap_made w Try.prog 22 _⟩
  have HB0 : Aside0 (Below w.heap.size w (w.alloc (.map #[] 0))) := ⟨below_alloc (Below.refl _ _) _⟩
  go_enter Try.func24, Try.ntmps24
  go_wp2
  go_loopw [14] (fun v14 wr => ∃ (i : Nat) (D : DataW Value), v14 = .int .i64 (i : Int) ∧ Aside0 (i ≤ n) ∧ Aside0 (IM wr w.heap.size i D) ∧ Aside0 (Below w.heap.size w wr) ∧ Aside0 (Met_ T D i ∧ ∀ j, j < i → ¬ Bad T p j)) (fun v14 _ => n - (intOf v14).toNat)
  case atStart => exact ⟨0, .map [], rfl, ⟨Nat.zero_le _⟩, HM0, HB0, ⟨met_zero T, fun j h => by omega⟩⟩
  case round =>
    clear HM0 HB0
    obtain ⟨i, D, rfl, HI, HM, HB, HD⟩ := hrel
    by_cases hin : i < n
    · have d1 : decide (i < n) = true := decide_eq_true hin
      have HIN := Aside0.mk hin
      have e1 : (i : Int) < 1152921504606846976 := by have := HN.out; omega
      obtain ⟨ad, rfl, hcl⟩ := HT.out (by have := HN.out; omega)
      have HTI : Aside0 (T[i]? = some (gi T i)) := ⟨gi_some (by have := HN.out; omega)⟩
      obtain ⟨t0, t1, t2, t3⟩ := cells4_at T i (gi T i) HTI.out
      have x0 := pw_cell_below HB.out (hcl _ _ t0)
      have x1 : wr.cell? ⟨(ad.add (i * 4)).block, (ad.add (i * 4)).off + 1, none⟩ = some (.int .i64 (gi T i).x.f1.f0) := by rw [← add_field _ _ 1 (by omega)]; exact pw_cell_below HB.out (hcl _ _ t1)
      have x2 : wr.cell? ⟨(ad.add (i * 4)).block, (ad.add (i * 4)).off + 2, none⟩ = some (.slice (gi T i).A (gi T i).x.f1.f1.length (gi T i).c) := by rw [← add_field _ _ 2 (by omega)]; exact pw_cell_below HB.out (hcl _ _ t2)
      have x3 : wr.cell? ⟨(ad.add (i * 4)).block, (ad.add (i * 4)).off + 3, none⟩ = some (.string (gi T i).x.f1.f2) := by rw [← add_field _ _ 3 (by omega)]; exact pw_cell_below HB.out (hcl _ _ t3)
      clear t0 t1 t2 t3 hcl
      go_upto_region 4 with (fail)
      go_cut [7, 8] (fun v7 v8 wx => ∃ gX, v7 = .int .i64 (i : Int) ∧ v8 = .pointer (some ⟨gX, 0, none⟩) ∧ Aside0 (wx.heap[gX]? = some (.cells #[.int .u64 (gi T i).x.f0, .int .i64 (gi T i).x.f1.f0, .slice (gi T i).A (gi T i).x.f1.f1.length (gi T i).c, .string (gi T i).x.f1.f2] 65 (0, 0))) ∧ Aside0 (Below wr.heap.size wr wx))
      case first =>
        go_wp2
        go_meet
        exact ⟨_, rfl, rfl, ⟨blk_new _ _⟩, ⟨below_alloc (Below.refl _ _) _⟩⟩
      case rest =>
        obtain ⟨gX, rfl, rfl, HX, HB2⟩ := hcut
        have HM2 := Aside0.mk (im_below HM.out HB2.out)
        have HBB := Aside0.mk (below_step HB.out HB2.out)
        have y0 : wc.cell? ⟨gX, 0, none⟩ = some (.int .u64 (gi T i).x.f0) := (blk_cell HX.out 0).trans rfl
        have HK := Aside0.mk (key22 (i := (gi T i).x.f0) (HWF.out _ (List.mem_of_getElem? HTI.out)))
        have HWI : Aside0 ((Lit.int .i64 (i : Int)).wf = true) := ⟨Go.WalkArith.wf_i64 ⟨by omega, by omega⟩⟩
        have HMT := Aside0.mk (HD.out.1 (gi T i).x.f0)
        have HIM := Aside0.mk HM.out.isMap
        clear x0 x1 x2 x3 HX HM HB HB2
        cases hh : Maps.has D (.int .u64 (gi T i).x.f0) with
        | true =>
          have HBAD : Aside0 (Bad T p i) := ⟨.inl (HMT.out.1 hh)⟩
          go_wp2_with ((at_lookup; refine wpList_lookup_own_ok_int _ rfl _ _ 108 rfl 22 3 .i64 K22 Try.underlying108 Try.underlying3 (zero3 _) w.heap.size i D rfl HM2.out _ _ rfl HK.out ?_; intro cc hat hwc))
          go_returns
          exact ⟨_, _, rfl, ⟨.inl ⟨i, rfl, by have := HN.out; have := HIN.out; omega, rfl, HBAD.out, HD.out.2⟩⟩, HBB⟩
        | false =>
          have HNM : Aside0 (¬ ∃ j, j < i ∧ ky (gi T j) = ky (gi T i)) := ⟨fun h => by have := HMT.out.2 h; rw [hh] at this; cases this⟩
          cases hq : p (gi T i).x.f0 with
          | true =>
            have HBAD : Aside0 (Bad T p i) := ⟨.inr hq⟩
            go_wp2_with (first | (at_lookup; refine wpList_lookup_own_ok_int _ rfl _ _ 108 rfl 22 3 .i64 K22 Try.underlying108 Try.underlying3 (zero3 _) w.heap.size i D rfl HM2.out _ _ rfl HK.out ?_; intro cc hat hwc) | (go_at_call 51; (with_reducible refine (HP.out (gi T i).x.f0 _ HBB.out).mono ?_); rintro e w1 ⟨rfl, hb⟩; have HM3 := Aside0.mk (im_below HM2.out hb); have HB3 := Aside0.mk (below_step HBB.out hb); have y1 := pw_cell_below hb y0; clear hb))
            go_returns
            exact ⟨_, _, rfl, ⟨.inl ⟨i, rfl, by have := HN.out; have := HIN.out; omega, rfl, HBAD.out, HD.out.2⟩⟩, HB3⟩
          | false =>
            have HNB : Aside0 (∀ j, j < i + 1 → ¬ Bad T p j) := ⟨fun j hj => by
              by_cases e : j = i
              · subst e
                rintro (h | h)
                · exact HNM.out h
                · unfold ky at h; rw [hq] at h; cases h
              · exact HD.out.2 j (by omega)⟩
            go_wp2_with (first | (at_lookup; refine wpList_lookup_own_ok_int _ rfl _ _ 108 rfl 22 3 .i64 K22 Try.underlying108 Try.underlying3 (zero3 _) w.heap.size i D rfl HM2.out _ _ rfl HK.out ?_; intro cc hat hwc) | (go_at_call 51; (with_reducible refine (HP.out (gi T i).x.f0 _ HBB.out).mono ?_); rintro e w1 ⟨rfl, hb⟩; have HM3 := Aside0.mk (im_below HM2.out hb); have HB3 := Aside0.mk (below_step HBB.out hb); have y1 := pw_cell_below hb y0; clear hb) | (at_mapUpdate; refine wpList_mapUpdate_in _ rfl _ _ _ 108 rfl 22 3 K22 Try.underlying108 (plainElem Try.prog 3) w.heap.size i D rfl HM3.out (by have := HN.out; have := HIN.out; simp only [maxLen]; omega) _ _ (.int .u64 (gi T i).x.f0) rfl rfl HK.out (.lit (.int .i64 (i : Int))) [] (plainElem_int Try.underlying3 HWI.out) ?_; intro w2 ho ht; have HM4 := Aside0.mk ho; have HB4 := Aside0.mk (below_turned HB3.out (Nat.le_refl _) ht); clear ho ht))
            go_roundw
            case rel => exact ⟨i + 1, _, by go_num, ⟨by have := HIN.out; omega⟩, HM4, HB4, ⟨met_put HD.out.1 HIM.out _, HNB.out⟩⟩
            case measure => simp [intOf]; have := HIN.out; omega
    · have d1 : decide (i < n) = false := decide_eq_false hin
      have hi : i = n := by have := HI.out; omega
      clear hin
      go_wp2
      go_returns
      exact ⟨_, _, rfl, ⟨.inr ⟨by have := HN.out; omega, rfl, fun j h => HD.out.2 j (by have := HN.out; omega)⟩⟩, HB⟩
def it3 (i : Int) : It := ⟨⟨i, ⟨0, [], ⟨#[]⟩⟩⟩, none, 0⟩
set_option maxHeartbeats 8000000 in
set_option maxRecDepth 1000000 in
theorem lives_calls (w : World) : Calls Try.prog 30 #[] w fun e w' => e = .returned (.bool true) ∧ Below w.heap.size w w' := by
  have hu54 := Try.underlying54
  have hu65 := Try.underlying65
  have HB0 : Aside0 (Below w.heap.size w (w.alloc (.cells #[.int .u64 3, .int .i64 0, .slice none 0 0, .string ⟨#[]⟩, .int .u64 5, .int .i64 0, .slice none 0 0, .string ⟨#[]⟩, .int .u64 3, .int .i64 0, .slice none 0 0, .string ⟨#[]⟩] 65))) := ⟨below_alloc (Below.refl _ _) _⟩
  have HL : Aside0 (Lie (w.alloc (.cells #[.int .u64 3, .int .i64 0, .slice none 0 0, .string ⟨#[]⟩, .int .u64 5, .int .i64 0, .slice none 0 0, .string ⟨#[]⟩, .int .u64 3, .int .i64 0, .slice none 0 0, .string ⟨#[]⟩] 65)) (some ⟨w.heap.size, 0, none⟩) [it3 3, it3 5, it3 3]) := ⟨fun _ => ⟨_, rfl, fun j u hu => by
    have hn := blk_new w (.cells #[.int .u64 3, .int .i64 0, .slice none 0 0, .string ⟨#[]⟩, .int .u64 5, .int .i64 0, .slice none 0 0, .string ⟨#[]⟩, .int .u64 3, .int .i64 0, .slice none 0 0, .string ⟨#[]⟩] 65)
    rw [add_zero_lit]
    exact (blk_cell hn j).trans (by simpa [cells4, it3] using hu)⟩⟩
  have HC := Aside0.mk (fresh_no (some ⟨w.heap.size, 0, none⟩) 3 3 [it3 3, it3 5, it3 3] (fun _ => false) _ HL.out rfl (by omega) (by intro t ht; simp only [List.mem_cons, List.not_mem_nil, or_false] at ht; rcases ht with rfl | rfl | rfl <;> decide) (fun id W _ => no_calls id W))
  have HF : Aside0 (∀ m f, FreshAt [it3 3, it3 5, it3 3] (fun _ => false) m f → m = 2 ∧ f = 4) := ⟨fun m f h => by
    have hb : Bad [it3 3, it3 5, it3 3] (fun _ => false) 2 := .inl ⟨0, by omega, rfl⟩
    have h0 : ¬ Bad [it3 3, it3 5, it3 3] (fun _ => false) 0 := by rintro (⟨j, h1, _⟩ | h1); omega; cases h1
    have h1 : ¬ Bad [it3 3, it3 5, it3 3] (fun _ => false) 1 := by
      rintro (⟨j, h1, h2⟩ | h1)
      · obtain rfl : j = 0 := by omega
        exact absurd h2 (by decide)
      · cases h1
    rcases h with ⟨i, rfl, hl, rfl, hi, hm⟩ | ⟨_, _, hm⟩
    · have : i = 2 := by
        match i, hl, hi, hm with
        | 0, _, hi, _ => exact absurd hi h0
        | 1, _, hi, _ => exact absurd hi h1
        | 2, _, _, _ => rfl
        | i + 3, hl, _, _ => simp at hl; omega
      subst this
      exact ⟨rfl, rfl⟩
    · exact absurd hb (hm 2 (by simp))⟩
  go_enter Try.func30, Try.ntmps30
  go_wp2_with ((go_at_call 24; (with_reducible refine HC.out.mono ?_); rintro e w1 ⟨m, f, rfl, h1, h2⟩; obtain ⟨rfl, rfl⟩ := HF.out m f h1.out; have B1 := Aside0.mk (below_step HB0.out h2.out); clear h1 h2))
  go_returns
  exact ⟨rfl, B1.out⟩
end Go.Proofs.Ytncbnejldlfbdaa.PIdx
