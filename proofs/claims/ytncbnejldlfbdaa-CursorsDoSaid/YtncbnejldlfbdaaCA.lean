/- A table of cursors in memory, and what New, Len and find of it answer; no condition. -/
import Derived.Test.YtncbnejldlfbdaaChecked
import Derived.Test.YtncbnejldlfbdaaWLast
import Derived.Test.YtncbnejldlfbdaaWMore
import Derived.Maps.OwnSet
import Derived.Maps.OwnOps
import Derived.Carry
import Derived.StillTailTactics
import Derived.Handy
import Derived.WalkArith
namespace Go.Proofs.Ytncbnejldlfbdaa.PCur
open Go.RowKit Go.Proofs.YtncbnejldlfbdaaW.PrintWords Go.Proofs.YtncbnejldlfbdaaW.PrintLast Go.Proofs.YtncbnejldlfbdaaW.PrintMore
open Go.Maps (Keyed int_keyed keyOf_int_mk)
open Go.ChangeMaps Go.MapKept
set_option linter.unusedVariables false
set_option linter.unusedSimpArgs false
/-- an element reads as itself -/
def curV (v : Int) (p : Option Addr) : Value := .agg #[.int .i64 v, .pointer p]
open Classical in
noncomputable def RV (v : Value) : Option (DataW Value × List MemPlace) := if ∃ n p, v = curV n p then some (.held v, []) else none
theorem RV_mk (n : Int) (p : Option Addr) : RV (.agg #[.int .i64 n, .pointer p]) = some (.held (curV n p), []) := by
  unfold RV; rw [if_pos ⟨n, p, rfl⟩]; rfl
theorem RV_inv {v : Value} {d : DataW Value} {ps : List MemPlace} (h : RV v = some (d, ps)) : ∃ n p, v = .agg #[.int .i64 n, .pointer p] ∧ d = .held (curV n p) := by
  unfold RV at h
  split at h
  · rename_i hx
    obtain ⟨n, p, rfl⟩ := hx
    refine ⟨n, p, rfl, ?_⟩
    simp only [Option.some.injEq, Prod.mk.injEq] at h
    exact h.1.symm
  · cases h
theorem zero92 (w : World) : (zeroValue 92).run Try.prog w = .ok (.agg #[.int .i64 0, .pointer none]) w := by kernel_rfl
theorem K22 : Keyed Try.prog 22 := int_keyed Try.underlying22
theorem key22 {i : Int} (h : (Lit.int .u64 i).wf = true) : keyOf Try.prog 22 (.int .u64 i) = some (.int .u64 i) := keyOf_int_mk Try.underlying22 h
/-- a table at g, its map at b: at most `most` are open, `last` is the last handle, D what is open -/
def Tab (w : World) (base g b n : Nat) (most last : Int) (D : DataW Value) : Prop :=
  w.heap[g]? = some (.cells #[.int .i64 most, .int .u64 last, .map (some b)] 90 (0, 0)) ∧ base ≤ g ∧ base ≤ b ∧ w.ownsMap Try.prog 22 RV b n D
section
variable {w w1 : World} {base g b n : Nat} {most last : Int} {D : DataW Value}
theorem ownsMap_move (h : w.ownsMap Try.prog 22 RV b n D) (hm : w1.heap[b]? = w.heap[b]?) : w1.ownsMap Try.prog 22 RV b n D := by
  obtain ⟨es, clock, hb, F, hs, e⟩ := h
  exact ⟨es, clock, hm.trans hb, F, hs, e⟩
theorem Tab.below (h : Tab w base g b n most last D) (hb : Below w.heap.size w w1) : Tab w1 base g b n most last D :=
  ⟨blk_below h.1 hb, h.2.1, h.2.2.1, ownsMap_move h.2.2.2 (hb.block b h.2.2.2.lt)⟩
theorem Tab.ne (h : Tab w base g b n most last D) : b ≠ g := by
  intro e
  obtain ⟨es, clock, hb, _⟩ := h.2.2.2
  rw [e, h.1] at hb
  cases hb
theorem Tab.setLast (h : Tab w base g b n most last D) (l : Int) : Tab (w.setCell ⟨g, 1, none⟩ (.int .u64 l)) base g b n most l D :=
  ⟨by simpa using blk_set h.1 1 (.int .u64 l), h.2.1, h.2.2.1, h.2.2.2.setCell (a := ⟨g, 1, none⟩) h.ne _⟩
theorem Tab.turned (h : Tab w base g b n most last D) {n1 : Nat} {D1 : DataW Value} (ho : w1.ownsMap Try.prog 22 RV b n1 D1) (ht : w.mapTurned w1 b) : Tab w1 base g b n1 most last D1 :=
  ⟨blk_grown h.1 ht.grown (fun e => h.ne (Option.some.inj e).symm), h.2.1, h.2.2.1, ho⟩
theorem below_turned {w0 : World} (hB : Below base w0 w) (hb : base ≤ b) (ht : w.mapTurned w1 b) : Below base w0 w1 := by
  obtain ⟨es, clock, es', clock', h1, rfl⟩ := ht
  exact ⟨hB.os, hB.tape, hB.output, by have := hB.size; simpa [setBlock] using this, fun k hk => by rw [heap_setBlock_other h1 _ (fun e => by omega)]; exact hB.block k hk⟩
end
theorem new_calls (most : Int) (w : World) : Calls Try.prog 31 #[.int .i64 most] w fun e w' => ∃ g b, e = .returned (.pointer (some ⟨g, 0, none⟩)) ∧ Tab w' w.heap.size g b 0 most 0 (.map []) ∧ Below w.heap.size w w' := by
  have hu90 := Try.underlying90
  have hmm := @run_makeMap Try.prog
  have hb := below_alloc (below_alloc (Below.refl w.heap.size w) (.map #[] 0)) (.cells #[.int .i64 most, .int .u64 0, .map (some w.heap.size)] 90)
  have HN : Aside0 (Tab ((w.alloc (.map #[] 0)).alloc (.cells #[.int .i64 most, .int .u64 0, .map (some w.heap.size)] 90)) w.heap.size (w.heap.size + 1) w.heap.size 0 most 0 (.map [])) :=
    ⟨by simpa using heap_alloc_new (w.alloc (.map #[] 0)) (.cells #[.int .i64 most, .int .u64 0, .map (some w.heap.size)] 90), by simp, Nat.le_refl _, (World.ownsMap_made w Try.prog 22 RV).alloc _⟩
  have HB := Aside0.mk hb
  clear hb
  go_enter Try.func31, Try.ntmps31
  go_wp2
  go_ret
  exact ⟨_, _, rfl, HN.out, HB.out⟩
theorem len_calls (base g b n : Nat) (most last : Int) (D : DataW Value) (w : World) (h : Tab w base g b n most last D) : Calls Try.prog 11 #[.pointer (some ⟨g, 0, none⟩)] w fun e w' => e = .returned (.int .i64 (Maps.size D)) ∧ w = w' := by
  have hu90 := Try.underlying90
  have hc : w.cell? ⟨g, 2, none⟩ = some (.map (some b)) := (blk_cell h.1 2).trans rfl
  have hl := fun ty => h.2.2.2.len Try.underlying88 ty
  clear h
  go_enter Try.func11, Try.ntmps11
  go_wp2
  go_ret
  exact ⟨rfl, rfl⟩
theorem find_calls (base g b n : Nat) (most last : Int) (D : DataW Value) (i : Int) (hi : (Lit.int .u64 i).wf = true) (w : World) (h : Tab w base g b n most last D) :
    Calls Try.prog 38 #[.pointer (some ⟨g, 0, none⟩), .int .u64 i] w fun e w' => Below w.heap.size w w' ∧ ((Maps.has D (.int .u64 i) = false ∧ e = .returned (.tuple #[.agg #[.int .i64 0, .pointer none], .int .i64 7])) ∨
      ∃ v p, Maps.has D (.int .u64 i) = true ∧ D.atKey (.int .u64 i) (.held (curV 0 none)) = .held (curV v p) ∧ e = .returned (.tuple #[.agg #[.int .i64 v, .pointer p], .int .i64 0])) := by
  have hu90 := Try.underlying90
  have hu92 := Try.underlying92
  have h1 := h.below (below_alloc (Below.refl _ _) (.cells #[.int .i64 0, .pointer none] 92))
  have hc : (w.alloc (.cells #[.int .i64 0, .pointer none] 92)).cell? ⟨g, 2, none⟩ = some (.map (some b)) := (blk_cell h1.1 2).trans rfl
  obtain ⟨v, ps, hrun, hv⟩ := h1.2.2.2.look_ok K22 Try.underlying88 (zero92 _) (RV_mk 0 none) (key22 hi)
  obtain ⟨x, p, rfl, hat⟩ := RV_inv hv
  have HB : Aside0 (∀ o1 : Obj, Below w.heap.size w ((w.alloc (.cells #[.int .i64 0, .pointer none] 92)).alloc o1)) := ⟨fun o1 => below_alloc (below_alloc (Below.refl _ _) _) o1⟩
  have HD := Aside0.mk hat
  cases hh : Maps.has D (.int .u64 i) with
  | true =>
    rw [hh] at hrun
    have HH := Aside0.mk hh
    clear hh h h1 hv hat
    go_enter Try.func38, Try.ntmps38
    go_wp2
    go_returns
    exact ⟨below_alloc (below_alloc (Below.refl _ _) _) _, .inr ⟨x, p, trivial, HD.out, rfl⟩⟩
  | false =>
    rw [hh] at hrun
    have HH := Aside0.mk hh
    clear hh h h1 hv hat
    go_enter Try.func38, Try.ntmps38
    go_wp2
    go_returns
    exact ⟨below_alloc (below_alloc (Below.refl _ _) _) _, .inl ⟨trivial, rfl⟩⟩
/-- nothing of old but the blocks g and b has turned -/
def Two2 (w w1 : World) (g b : Nat) : Prop := w.heap.size ≤ w1.heap.size ∧ ∀ k, k < w.heap.size → k ≠ g → k ≠ b → w1.heap[k]? = w.heap[k]?
theorem Two2.turned {w w1 : World} {b : Nat} (g : Nat) (ht : w.mapTurned w1 b) : Two2 w w1 g b :=
  ⟨ht.grown.size, fun k hk _ hb => ht.grown.block k hk (fun e => hb (Option.some.inj e))⟩
theorem Two2.set {w W w1 : World} {b g : Nat} {u : Value} (hW : W.heap = (w.setCell ⟨g, 1, none⟩ u).heap) (ht : W.mapTurned w1 b) : Two2 w w1 g b := by
  have h := Two2.turned g ht
  refine ⟨by have := h.1; rw [hW] at this; simpa [World.setCell] using this, fun k hk hg hb => (h.2 k (by rw [hW]; simpa [World.setCell] using hk) hg hb).trans (by rw [hW]; exact Below.heap_setCell w ⟨g, 1, none⟩ u k hg)⟩
set_option maxRecDepth 100000 in
theorem open_full (base g b n : Nat) (most last : Int) (D : DataW Value) (ver : Int) (p : Option Addr) (w : World) (h : Tab w base g b n most last D) (hf : most ≤ (Maps.size D : Int)) :
    Calls Try.prog 8 #[.pointer (some ⟨g, 0, none⟩), .int .i64 ver, .pointer p] w fun e w' => e = .returned (.tuple #[.int .u64 0, .int .i64 6]) ∧ Below w.heap.size w w' := by
  have hu90 := Try.underlying90
  have hc0 : w.cell? ⟨g, 0, none⟩ = some (.int .i64 most) := (blk_cell h.1 0).trans rfl
  have hc2 : w.cell? ⟨g, 2, none⟩ = some (.map (some b)) := (blk_cell h.1 2).trans rfl
  have hl := fun ty => h.2.2.2.drew.len Try.underlying88 ty
  have d1 : decide (most ≤ (Maps.size D : Int)) = true := decide_eq_true hf
  have HB := Aside0.mk (below_drew1 (Below.refl w.heap.size w))
  clear h
  go_enter Try.func8, Try.ntmps8
  go_wp2
  go_still (by kernel_rfl)
  go_wp2
  go_returns
  exact ⟨rfl, HB.out⟩
set_option maxRecDepth 100000 in
theorem open_calls (base g b n : Nat) (most last : Int) (D : DataW Value) (ver : Int) (p : Option Addr) (w0 w : World) (h : Tab w base g b n most last D) (hB : Below base w0 w) (hf : (Maps.size D : Int) < most) (hl0 : 0 ≤ last) (hl1 : last < 18446744073709551615) (hn : n < maxLen) :
    Calls Try.prog 8 #[.pointer (some ⟨g, 0, none⟩), .int .i64 ver, .pointer p] w fun e w' => e = .returned (.tuple #[.int .u64 (last + 1), .int .i64 0]) ∧ Tab w' base g b (n + 1) most (last + 1) (D.put (.int .u64 (last + 1)) (.held (curV ver p))) ∧ Below base w0 w' ∧ Two2 w w' g b := by
  have hu90 := Try.underlying90
  have hu92 := Try.underlying92
  have hc0 : w.cell? ⟨g, 0, none⟩ = some (.int .i64 most) := (blk_cell h.1 0).trans rfl
  have hc1 : w.cell? ⟨g, 1, none⟩ = some (.int .u64 last) := (blk_cell h.1 1).trans rfl
  have hc2 : w.cell? ⟨g, 2, none⟩ = some (.map (some b)) := (blk_cell h.1 2).trans rfl
  have hz1 : w.frozen? ⟨g, 1, none⟩ = false := blk_frozen h.1 1
  have hl := fun ty => h.2.2.2.drew.len Try.underlying88 ty
  have d1 : decide (most ≤ (Maps.size D : Int)) = false := decide_eq_false (by omega)
  have HT := Aside0.mk h
  have HB := Aside0.mk hB
  have HK := Aside0.mk (key22 (i := last + 1) (Go.WalkArith.wf_u64 ⟨by omega, by omega⟩))
  have HN := Aside0.mk hn
  have hd1 : (w.setCell ⟨g, 1, none⟩ (.int .u64 (last + 1))).cell? ⟨g, 1, none⟩ = some (.int .u64 (last + 1)) := (blk_cell (h.setLast (last + 1)).1 1).trans rfl
  have hd2 : (w.setCell ⟨g, 1, none⟩ (.int .u64 (last + 1))).cell? ⟨g, 2, none⟩ = some (.map (some b)) := (blk_cell (h.setLast (last + 1)).1 2).trans rfl
  clear h hf hB hn
  go_enter Try.func8, Try.ntmps8
  go_wp2
  go_still (by kernel_rfl)
  go_wp2
  generalize hW : (w.setCell ⟨g, 1, none⟩ (.int .u64 (last + 1))).drew = W
  replace hd1 : W.cell? ⟨g, 1, none⟩ = some (.int .u64 (last + 1)) := by rw [← hW]; exact hd1
  replace hd2 : W.cell? ⟨g, 2, none⟩ = some (.map (some b)) := by rw [← hW]; exact hd2
  have HT1 : Aside0 (Tab W.drew base g b n most (last + 1) D) := ⟨by rw [← hW]; exact HT.out.setLast (last + 1)⟩
  have HB1 : Aside0 (Below base w0 W.drew) := ⟨by rw [← hW]; exact ((HB.out.setCell (p := ⟨g, 1, none⟩) HT.out.2.1 _).drew).drew⟩
  have HW : Aside0 (W.drew.heap = (w.setCell ⟨g, 1, none⟩ (.int .u64 (last + 1))).heap) := ⟨by rw [← hW]; rfl⟩
  clear hW hc0 hc1 hc2
  go_still_tail 11, (by kernel_rfl)
  go_wp2_with ((at_mapUpdate; refine wpList_mapUpdate_in _ rfl _ _ _ 88 rfl 22 92 K22 Try.underlying88 RV b n D rfl HT1.out.2.2.2 HN.out _ _ (.int .u64 (last + 1)) rfl rfl HK.out (.held (curV ver p)) [] (RV_mk ver p) ?_; intro w1 ho ht; have HT2 := Aside0.mk (HT1.out.turned ho ht); have HB2 := Aside0.mk (below_turned HB1.out HT1.out.2.2.1 ht); have H2 := Aside0.mk (Two2.set HW.out ht); have hk : w1.cell? ⟨g, 1, none⟩ = some (.int .u64 (last + 1)) := (blk_cell HT2.out.1 1).trans rfl; clear ho ht HT1 HB1))
  go_returns
  exact ⟨rfl, HT2.out, HB2.out, H2.out⟩
theorem Two2.below {w w1 w2 : World} {g b : Nat} (h : Below w.heap.size w w1) (k : Two2 w1 w2 g b) : Two2 w w2 g b :=
  ⟨Nat.le_trans h.size k.1, fun i hi hg hb => (k.2 i (Nat.lt_of_lt_of_le hi h.size) hg hb).trans (h.block i hi)⟩
set_option maxRecDepth 100000 in
theorem close_calls (base g b n : Nat) (most last : Int) (D : DataW Value) (i : Int) (hi : (Lit.int .u64 i).wf = true) (w0 w : World) (h : Tab w base g b n most last D) (hB : Below base w0 w) (hbw : base ≤ w.heap.size) (hh : Maps.has D (.int .u64 i) = true) :
    Calls Try.prog 10 #[.pointer (some ⟨g, 0, none⟩), .int .u64 i] w fun e w' => e = .returned (.int .i64 0) ∧ Tab w' base g b n most last (D.del (.int .u64 i)) ∧ Below base w0 w' ∧ Two2 w w' g b := by
  have hu90 := Try.underlying90
  have hu92 := Try.underlying92
  have HT := Aside0.mk h
  have HB := Aside0.mk hB
  have HK := Aside0.mk (key22 hi)
  have HI := Aside0.mk hi
  have HH := Aside0.mk hh
  have HW := Aside0.mk hbw
  clear h hB hi hh hbw
  go_enter Try.func10, Try.ntmps10
  go_wp2_with (first | (go_at_call 38; (with_reducible refine (find_calls base g b n most last D i HI.out _ HT.out).mono ?_); rintro e w1 ⟨hb, hx⟩; rcases hx with ⟨h0, _⟩ | ⟨v, p, _, hat, rfl⟩; exact absurd (h0.symm.trans HH.out) (by decide); have hb2 := below_alloc hb (.cells #[.int .i64 v, .pointer p] 92); have n0_ := Aside0.mk (HT.out.below hb2); have n1_ := Aside0.mk (HB.out.trans ⟨hb2.os, hb2.tape, hb2.output, hb2.size, fun i hi => hb2.block i (Nat.lt_of_lt_of_le hi HW.out)⟩); have hc2 : (w1.alloc (.cells #[.int .i64 v, .pointer p] 92)).cell? ⟨g, 2, none⟩ = some (.map (some b)) := (blk_cell n0_.out.1 2).trans rfl; have HX := Aside0.mk hb2; clear hat hb hb2 HB; have HT1 := n0_; have HB := n1_; clear n0_ n1_) | (at_delete; refine wpList_delete_own _ rfl _ _ 88 22 rfl 92 K22 Try.underlying88 RV b n D rfl HT1.out.2.2.2 _ (.int .u64 i) rfl HK.out ?_; intro w2 ho ht; have HT2 := Aside0.mk (HT1.out.turned ho ht); have HB2 := Aside0.mk (below_turned HB.out HT1.out.2.2.1 ht); have H2 := Aside0.mk (Two2.below HX.out (Two2.turned g ht)); clear ho ht))
  go_returns
  exact ⟨rfl, HT2.out, HB2.out, H2.out⟩
end Go.Proofs.Ytncbnejldlfbdaa.PCur
