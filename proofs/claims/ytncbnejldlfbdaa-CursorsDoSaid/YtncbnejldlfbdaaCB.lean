/- That the laws' lives of a table of cursors holds, and what a nil table answers; no condition. -/
import Derived.Test.YtncbnejldlfbdaaCA
namespace Go.Proofs.Ytncbnejldlfbdaa.PCur
open Go.RowKit Go.Proofs.YtncbnejldlfbdaaW.PrintWords Go.Proofs.YtncbnejldlfbdaaW.PrintLast Go.Proofs.YtncbnejldlfbdaaW.PrintMore
set_option linter.unusedVariables false
set_option linter.unusedSimpArgs false
theorem open_nil (ver : Int) (p : Option Addr) (w : World) : Calls Try.prog 8 #[.pointer none, .int .i64 ver, .pointer p] w fun e w' => e = .returned (.tuple #[.int .u64 0, .int .i64 1]) ∧ w = w' := by
  go_enter Try.func8, Try.ntmps8
  go_wp2
  go_returns
  exact ⟨rfl, rfl⟩
theorem len_nil (w : World) : Calls Try.prog 11 #[.pointer none] w fun e w' => e = .returned (.int .i64 0) ∧ w = w' := by
  go_enter Try.func11, Try.ntmps11
  go_wp2
  go_returns
  exact ⟨rfl, rfl⟩
theorem handles_nil (w : World) : Calls Try.prog 12 #[.pointer none] w fun e w' => e = .returned (.slice none 0 0) ∧ w = w' := by
  go_enter Try.func12, Try.ntmps12
  go_wp2
  go_returns
  exact ⟨rfl, rfl⟩
theorem find_nil (i : Int) (w : World) : Calls Try.prog 38 #[.pointer none, .int .u64 i] w fun e w' => e = .returned (.tuple #[.agg #[.int .i64 0, .pointer none], .int .i64 1]) ∧ Below w.heap.size w w' := by
  have hu92 := Try.underlying92
  have HB := Aside0.mk (below_alloc (Below.refl w.heap.size w) (.cells #[.int .i64 0, .pointer none] 92))
  go_enter Try.func38, Try.ntmps38
  go_wp2
  go_returns
  exact ⟨rfl, HB.out⟩
theorem close_nil (i : Int) (w : World) : Calls Try.prog 10 #[.pointer none, .int .u64 i] w fun e w' => e = .returned (.int .i64 1) ∧ Below w.heap.size w w' := by
  have hu92 := Try.underlying92
  go_enter Try.func10, Try.ntmps10
  go_wp2_with ((go_at_call 38; (with_reducible refine (find_nil i _).mono ?_); rintro e w1 ⟨rfl, hb⟩; have HB := Aside0.mk hb; clear hb))
  go_returns
  exact ⟨rfl, below_alloc HB.out _⟩
set_option maxRecDepth 100000 in
theorem next_nil (i v : Int) (w : World) : Calls Try.prog 9 #[.pointer none, .int .u64 i, .int .i64 v] w fun e w' => e = .returned (.tuple #[.agg #[.int .u64 0, .int .i64 0], .int .i64 1]) ∧ Below w.heap.size w w' := by
  have hu92 := Try.underlying92
  have hu31 := Try.underlying31
  have HB0 := Aside0.mk (below_alloc (Below.refl w.heap.size w) (.cells #[.int .u64 0, .int .i64 0] 31))
  have HG := Aside0.mk (blk_new w (.cells #[.int .u64 0, .int .i64 0] 31))
  go_enter Try.func9, Try.ntmps9
  go_wp2_with ((go_at_call 38; (with_reducible refine (find_nil i _).mono ?_); rintro e w1 ⟨rfl, hb⟩; have G1 := blk_alloc (blk_below HG.out hb) (.cells #[.int .i64 0, .pointer none] 92); have hc0 : (w1.alloc (.cells #[.int .i64 0, .pointer none] 92)).cell? ⟨w.heap.size, 0, none⟩ = some (.int .u64 0) := (blk_cell G1 0).trans rfl; have hc1 : (w1.alloc (.cells #[.int .i64 0, .pointer none] 92)).cell? ⟨w.heap.size, 1, none⟩ = some (.int .i64 0) := (blk_cell G1 1).trans rfl; have hz0 := blk_frozen G1 0; have hz1 := blk_frozen G1 1; have HB := Aside0.mk (below_alloc (below_step HB0.out hb) (.cells #[.int .i64 0, .pointer none] 92)); have hr0 : (((w1.alloc (.cells #[.int .i64 0, .pointer none] 92)).setCell ⟨w.heap.size, 0, none⟩ (.int .u64 0)).setCell ⟨w.heap.size, 1, none⟩ (.int .i64 0)).cell? ⟨w.heap.size, 0, none⟩ = some (.int .u64 0) := (blk_cell (blk_set (blk_set G1 0 _) 1 _) 0).trans rfl; have hr1 : (((w1.alloc (.cells #[.int .i64 0, .pointer none] 92)).setCell ⟨w.heap.size, 0, none⟩ (.int .u64 0)).setCell ⟨w.heap.size, 1, none⟩ (.int .i64 0)).cell? ⟨w.heap.size, 1, none⟩ = some (.int .i64 0) := (blk_cell (blk_set (blk_set G1 0 _) 1 _) 1).trans rfl; clear hb G1))
  refine bodyPost_ret (by simp [results, Try.results9, go_sem, hr0, hr1]; try rfl) rfl ?_
  exact ⟨rfl, (HB.out.setCell (p := ⟨w.heap.size, 0, none⟩) (Nat.le_refl _) _).setCell (p := ⟨w.heap.size, 1, none⟩) (Nat.le_refl _) _⟩
def D0 : DataW Value := .map []
def D1 : DataW Value := D0.put (.int .u64 1) (.held (curV 0 none))
def D2 : DataW Value := D1.put (.int .u64 2) (.held (curV 0 none))
def D3 : DataW Value := D2.del (.int .u64 1)
def D4 : DataW Value := D3.put (.int .u64 3) (.held (curV 0 none))
set_option maxRecDepth 100000 in
set_option maxHeartbeats 4000000 in
theorem lives_calls (w : World) : Calls Try.prog 13 #[] w fun e w' => e = .returned (.bool true) ∧ Below w.heap.size w w' := by
  have Z1 : Aside0 (Maps.size D0 = 0) := ⟨by kernel_rfl⟩
  have Z2 : Aside0 (Maps.size D1 = 1) := ⟨by kernel_rfl⟩
  have HH : Aside0 (Maps.has D2 (.int .u64 1) = true) := ⟨by kernel_rfl⟩
  have Z4 : Aside0 (Maps.size D3 = 1) := ⟨by kernel_rfl⟩
  have Z5 : Aside0 (Maps.size D4 = 2) := ⟨by kernel_rfl⟩
  go_enter Try.func13, Try.ntmps13
  go_wp2_with (first | (go_at_call 31; (with_reducible refine (new_calls 2 _).mono ?_); rintro e w1 ⟨g, b, rfl, ht, hb⟩; have HT := Aside0.mk ht; have HB := Aside0.mk hb; clear ht hb; have tok0 : Aside0 True := ⟨trivial⟩) | (go_at_call 8; have tk := tok0; (with_reducible refine (open_calls w.heap.size g b 0 2 0 D0 0 none w _ HT.out HB.out (by rw [Z1.out]; decide) (by decide) (by decide) (by decide)).mono ?_); rintro e w2 ⟨rfl, ht, hb, _⟩; clear HT HB tk tok0; have HT := Aside0.mk ht; have HB := Aside0.mk hb; clear ht hb; have tok1 : Aside0 True := ⟨trivial⟩) | (go_at_call 8; have tk := tok1; (with_reducible refine (open_calls w.heap.size g b 1 2 1 D1 0 none w _ HT.out HB.out (by rw [Z2.out]; decide) (by decide) (by decide) (by decide)).mono ?_); rintro e w3 ⟨rfl, ht, hb, _⟩; clear HT HB tk tok1; have HT := Aside0.mk ht; have HB := Aside0.mk hb; clear ht hb; have tok2 : Aside0 True := ⟨trivial⟩) | (go_at_call 10; have tk := tok2; (with_reducible refine (close_calls w.heap.size g b 2 2 2 D2 1 (by decide) w _ HT.out HB.out HB.out.size HH.out).mono ?_); rintro e w4 ⟨rfl, ht, hb, _⟩; clear HT HB tk tok2; have HT := Aside0.mk ht; have HB := Aside0.mk hb; clear ht hb; have tok3 : Aside0 True := ⟨trivial⟩) | (go_at_call 8; have tk := tok3; (with_reducible refine (open_calls w.heap.size g b 2 2 2 D3 0 none w _ HT.out HB.out (by rw [Z4.out]; decide) (by decide) (by decide) (by decide)).mono ?_); rintro e w5 ⟨rfl, ht, hb, _⟩; clear HT HB tk tok3; have HT := Aside0.mk ht; have HB := Aside0.mk hb; clear ht hb; have tok4 : Aside0 True := ⟨trivial⟩) | (go_at_call 11; (with_reducible refine (len_calls w.heap.size g b 3 2 3 D4 _ HT.out).mono ?_); rintro e w_ ⟨rfl, rfl⟩; rw [Z5.out]))
  go_ret
  exact ⟨rfl, HB.out⟩
end Go.Proofs.Ytncbnejldlfbdaa.PCur
