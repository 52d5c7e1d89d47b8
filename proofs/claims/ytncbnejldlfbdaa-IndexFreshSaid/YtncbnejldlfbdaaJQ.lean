/- What index.Fresh and index.Missing answer of items that came in; of fewer than 2^60 items. -/
import Derived.Test.YtncbnejldlfbdaaJP
import Derived.Maps.OwnSet
import Derived.Maps.OwnOps
import Derived.Carry
import Derived.WalkArith
namespace Go.Proofs.Ytncbnejldlfbdaa.PIdx
open Go.RowKit Go.Proofs.YtncbnejldlfbdaaW.PrintWords Go.Proofs.YtncbnejldlfbdaaW.PrintLast Go.Proofs.YtncbnejldlfbdaaW.PrintMore
open Go.Proofs.Ytncbnejldlfbdaa.PIndexFresh
open Go.Proofs.Ytncbnejldlfbdaa.PHeap (Row)
open Go.Maps (Keyed int_keyed keyOf_int_mk)
open Go.ChangeMaps Go.MapKept
set_option linter.unusedVariables false
set_option linter.unusedSimpArgs false
theorem K22 : Keyed Try.prog 22 := int_keyed Try.underlying22
theorem key22 {i : Int} (h : (Lit.int .u64 i).wf = true) : keyOf Try.prog 22 (.int .u64 i) = some (.int .u64 i) := keyOf_int_mk Try.underlying22 h
theorem zero3 (w : World) : (zeroValue 3).run Try.prog w = .ok (.int .i64 0) w := by kernel_rfl
/-- a map of numbers -/
abbrev IM (w : World) (b n : Nat) (D : DataW Value) : Prop := w.ownsMap Try.prog 22 (plainElem (H := Value) Try.prog 3) b n D
theorem im_move {w w1 : World} {b n : Nat} {D : DataW Value} (h : IM w b n D) (hm : w1.heap[b]? = w.heap[b]?) : IM w1 b n D := by
  obtain ⟨es, clock, hb, F, hs, e⟩ := h
  exact ⟨es, clock, hm.trans hb, F, hs, e⟩
theorem im_below {w w1 : World} {b n : Nat} {D : DataW Value} (h : IM w b n D) (hb : Below w.heap.size w w1) : IM w1 b n D := im_move h (hb.block b h.lt)
theorem below_turned {w0 w w1 : World} {base b : Nat} (hB : Below base w0 w) (hb : base ≤ b) (ht : w.mapTurned w1 b) : Below base w0 w1 := by
  obtain ⟨es, clock, es', clock', h1, rfl⟩ := ht
  exact ⟨hB.os, hB.tape, hB.output, by have := hB.size; simpa [setBlock] using this, fun k hk => by rw [heap_setBlock_other h1 _ (fun e => by omega)]; exact hB.block k hk⟩
/-- the number at place i was met already, or is there -/
def Bad (T : List It) (p : Int → Bool) (i : Nat) : Prop := (∃ j, j < i ∧ ky (gi T j) = ky (gi T i)) ∨ p (ky (gi T i)) = true
/-- the first such place, and what it is called -/
def FreshAt (T : List It) (p : Int → Bool) (m f : Int) : Prop :=
  (∃ i : Nat, m = (i : Int) ∧ i < T.length ∧ f = 4 ∧ Bad T p i ∧ ∀ j, j < i → ¬ Bad T p j) ∨ (m = (T.length : Int) ∧ f = 0 ∧ ∀ j, j < T.length → ¬ Bad T p j)
/-- D holds the numbers of the first i -/
def Met_ (T : List It) (D : DataW Value) (i : Nat) : Prop := ∀ x : Int, Maps.has D (.int .u64 x) = true ↔ ∃ j, j < i ∧ ky (gi T j) = x
theorem met_zero (T : List It) : Met_ T (.map []) 0 := fun x => ⟨fun h => absurd h (by have e : Maps.has (.map [] : DataW Value) (.int .u64 x) = false := rfl; rw [e]; simp), fun ⟨j, h, _⟩ => absurd h (by omega)⟩
theorem met_put {T : List It} {D : DataW Value} {i : Nat} (h : Met_ T D i) (hD : Maps.IsMap D) (d : DataW Value) : Met_ T (D.put (.int .u64 (ky (gi T i))) d) (i + 1) := fun x => by
  by_cases hx : x = ky (gi T i)
  · subst hx
    rw [Maps.has_put_same hD (by trivial)]
    exact ⟨fun _ => ⟨i, by omega, rfl⟩, fun _ => rfl⟩
  · rw [Maps.has_put_other (fun e => hx (by injection e)), h x]
    constructor
    · rintro ⟨j, h1, h2⟩
      exact ⟨j, by omega, h2⟩
    · rintro ⟨j, h1, h2⟩
      by_cases hj : j = i
      · subst hj; exact absurd h2.symm hx
      · exact ⟨j, by omega, h2⟩
set_option maxHeartbeats 40000000 in
set_option maxRecDepth 1000000 in
theorem fresh_calls (gP : Nat) (A : Option Addr) (n c : Nat) (T : List It) (p : Int → Bool) (w : World) (hT : Lie w A T) (hn : T.length = n) (hbig : n < 1152921504606846976) (hw : ∀ t ∈ T, (Lit.int .u64 t.x.f0).wf = true)
    (hp : ∀ (id : Int) (W : World), Below w.heap.size w W → Calls Try.prog 22 #[.int .u64 id, .pointer (some ⟨gP, 0, none⟩)] W fun e w' => e = .returned (.bool (p id)) ∧ Below W.heap.size W w') :
    Calls Try.prog 24 #[.slice A n c, .func (.func 22) #[] #[.pointer (some ⟨gP, 0, none⟩)]] w fun e w' => ∃ m f, e = .returned (.tuple #[.int .i64 m, .int .i64 f]) ∧ Aside0 (FreshAt T p m f) ∧ Aside0 (Below w.heap.size w w') := by
  have hu54 := Try.underlying54
  have hu65 := Try.underlying65
  have hmm := @run_makeMap Try.prog
  have HT := Aside0.mk hT
  have HN : Aside0 (T.length = n ∧ n < 1152921504606846976) := ⟨hn, hbig⟩
  have HWF := Aside0.mk hw
  have HP := Aside0.mk hp
  clear hT hn hbig hw hp
  have HM0 : Aside0 (IM (w.alloc (.map #[] 0)) w.heap.size 0 (.map [])) := ⟨World.ownsMap_made w Try.prog 22 _⟩
  have HB0 : Aside0 (Below w.heap.size w (w.alloc (.map #[] 0))) := ⟨below_alloc (Below.refl _ _) _⟩
  go_enter Try.func24, Try.ntmps24
  go_wp2
  go_loopw [14] (fun v14 wr => ∃ (i : Nat) (D : DataW Value), v14 = .int .i64 (i : Int) ∧ Aside0 (i ≤ n) ∧ Aside0 (IM wr w.heap.size i D) ∧ Aside0 (Below w.heap.size w wr) ∧ Aside0 (Met_ T D i ∧ ∀ j, j < i → ¬ Bad T p j)) (fun v14 _ => n - (intOf v14).toNat)
  case atStart => exact ⟨0, .map [], rfl, ⟨Nat.zero_le _⟩, HM0, HB0, ⟨met_zero T, fun j h => by omega⟩⟩
  case round =>
    clear HM0 HB0
    obtain ⟨i, D, rfl, HI, HM, HB, HD⟩ := hrel
    by_cases hin : i < n
    · have d1 : decide (i < n) = true := decide_eq_true hin
      have HIN := Aside0.mk hin
      have e1 : (i : Int) < 1152921504606846976 := by have := HN.out; omega
      obtain ⟨ad, rfl, hcl⟩ := HT.out (by have := HN.out; omega)
      have HTI : Aside0 (T[i]? = some (gi T i)) := ⟨gi_some (by have := HN.out; omega)⟩
      obtain ⟨t0, t1, t2, t3⟩ := cells4_at T i (gi T i) HTI.out
      have x0 := pw_cell_below HB.out (hcl _ _ t0)
      have x1 : wr.cell? ⟨(ad.add (i * 4)).block, (ad.add (i * 4)).off + 1, none⟩ = some (.int .i64 (gi T i).x.f1.f0) := by rw [← add_field _ _ 1 (by omega)]; exact pw_cell_below HB.out (hcl _ _ t1)
      have x2 : wr.cell? ⟨(ad.add (i * 4)).block, (ad.add (i * 4)).off + 2, none⟩ = some (.slice (gi T i).A (gi T i).x.f1.f1.length (gi T i).c) := by rw [← add_field _ _ 2 (by omega)]; exact pw_cell_below HB.out (hcl _ _ t2)
      have x3 : wr.cell? ⟨(ad.add (i * 4)).block, (ad.add (i * 4)).off + 3, none⟩ = some (.string (gi T i).x.f1.f2) := by rw [← add_field _ _ 3 (by omega)]; exact pw_cell_below HB.out (hcl _ _ t3)
      clear t0 t1 t2 t3 hcl
      go_upto_region 4 with (fail)
      go_cut [7, 8] (fun v7 v8 wx => ∃ gX, v7 = .int .i64 (i : Int) ∧ v8 = .pointer (some ⟨gX, 0, none⟩) ∧ Aside0 (wx.heap[gX]? = some (.cells #[.int .u64 (gi T i).x.f0, .int .i64 (gi T i).x.f1.f0, .slice (gi T i).A (gi T i).x.f1.f1.length (gi T i).c, .string (gi T i).x.f1.f2] 65 (0, 0))) ∧ Aside0 (Below wr.heap.size wr wx))
      case first =>
        go_wp2
        go_meet
        exact ⟨_, rfl, rfl, ⟨blk_new _ _⟩, ⟨below_alloc (Below.refl _ _) _⟩⟩
      case rest =>
        obtain ⟨gX, rfl, rfl, HX, HB2⟩ := hcut
        have HM2 := Aside0.mk (im_below HM.out HB2.out)
        have HBB := Aside0.mk (below_step HB.out HB2.out)
        have y0 : wc.cell? ⟨gX, 0, none⟩ = some (.int .u64 (gi T i).x.f0) := (blk_cell HX.out 0).trans rfl
        have HK := Aside0.mk (key22 (i := (gi T i).x.f0) (HWF.out _ (List.mem_of_getElem? HTI.out)))
        have HWI : Aside0 ((Lit.int .i64 (i : Int)).wf = true) := ⟨Go.WalkArith.wf_i64 ⟨by omega, by omega⟩⟩
        have HMT := Aside0.mk (HD.out.1 (gi T i).x.f0)
        have HIM := Aside0.mk HM.out.isMap
        clear x0 x1 x2 x3 HX HM HB HB2
        cases hh : Maps.has D (.int .u64 (gi T i).x.f0) with
        | true =>
          have HBAD : Aside0 (Bad T p i) := ⟨.inl (HMT.out.1 hh)⟩
          go_wp2_with ((at_lookup; refine wpList_lookup_own_ok_int _ rfl _ _ 108 rfl 22 3 .i64 K22 Try.underlying108 Try.underlying3 (zero3 _) w.heap.size i D rfl HM2.out _ _ rfl HK.out ?_; intro cc hat hwc))
          go_returns
          exact ⟨_, _, rfl, ⟨.inl ⟨i, rfl, by have := HN.out; have := HIN.out; omega, rfl, HBAD.out, HD.out.2⟩⟩, HBB⟩
        | false =>
          have HNM : Aside0 (¬ ∃ j, j < i ∧ ky (gi T j) = ky (gi T i)) := ⟨fun h => by have := HMT.out.2 h; rw [hh] at this; cases this⟩
          cases hq : p (gi T i).x.f0 with
          | true =>
            have HBAD : Aside0 (Bad T p i) := ⟨.inr hq⟩
            go_wp2_with (first | (at_lookup; refine wpList_lookup_own_ok_int _ rfl _ _ 108 rfl 22 3 .i64 K22 Try.underlying108 Try.underlying3 (zero3 _) w.heap.size i D rfl HM2.out _ _ rfl HK.out ?_; intro cc hat hwc) | (go_at_call 22; (with_reducible refine (HP.out (gi T i).x.f0 _ HBB.out).mono ?_); rintro e w1 ⟨rfl, hb⟩; have HM3 := Aside0.mk (im_below HM2.out hb); have HB3 := Aside0.mk (below_step HBB.out hb); have y1 := pw_cell_below hb y0; clear hb))
            go_returns
            exact ⟨_, _, rfl, ⟨.inl ⟨i, rfl, by have := HN.out; have := HIN.out; omega, rfl, HBAD.out, HD.out.2⟩⟩, HB3⟩
          | false =>
            have HNB : Aside0 (∀ j, j < i + 1 → ¬ Bad T p j) := ⟨fun j hj => by
              by_cases e : j = i
              · subst e
                rintro (h | h)
                · exact HNM.out h
                · unfold ky at h; rw [hq] at h; cases h
              · exact HD.out.2 j (by omega)⟩
            go_wp2_with (first | (at_lookup; refine wpList_lookup_own_ok_int _ rfl _ _ 108 rfl 22 3 .i64 K22 Try.underlying108 Try.underlying3 (zero3 _) w.heap.size i D rfl HM2.out _ _ rfl HK.out ?_; intro cc hat hwc) | (go_at_call 22; (with_reducible refine (HP.out (gi T i).x.f0 _ HBB.out).mono ?_); rintro e w1 ⟨rfl, hb⟩; have HM3 := Aside0.mk (im_below HM2.out hb); have HB3 := Aside0.mk (below_step HBB.out hb); have y1 := pw_cell_below hb y0; clear hb) | (at_mapUpdate; refine wpList_mapUpdate_in _ rfl _ _ _ 108 rfl 22 3 K22 Try.underlying108 (plainElem Try.prog 3) w.heap.size i D rfl HM3.out (by have := HN.out; have := HIN.out; simp only [maxLen]; omega) _ _ (.int .u64 (gi T i).x.f0) rfl rfl HK.out (.lit (.int .i64 (i : Int))) [] (plainElem_int Try.underlying3 HWI.out) ?_; intro w2 ho ht; have HM4 := Aside0.mk ho; have HB4 := Aside0.mk (below_turned HB3.out (Nat.le_refl _) ht); clear ho ht))
            go_roundw
            case rel => exact ⟨i + 1, _, by go_num, ⟨by have := HIN.out; omega⟩, HM4, HB4, ⟨met_put HD.out.1 HIM.out _, HNB.out⟩⟩
            case measure => simp [intOf]; have := HIN.out; omega
    · have d1 : decide (i < n) = false := decide_eq_false hin
      have hi : i = n := by have := HI.out; omega
      clear hin
      go_wp2
      go_returns
      exact ⟨_, _, rfl, ⟨.inr ⟨by have := HN.out; omega, rfl, fun j h => HD.out.2 j (by have := HN.out; omega)⟩⟩, HB⟩
end Go.Proofs.Ytncbnejldlfbdaa.PIdx
