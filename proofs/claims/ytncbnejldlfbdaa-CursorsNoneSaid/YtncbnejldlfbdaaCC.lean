/- Of any deed the law CursorsNone answers true; no condition. -/
import Derived.Test.YtncbnejldlfbdaaCB
namespace Go.Proofs.Ytncbnejldlfbdaa.PCur
open Go.RowKit Go.Proofs.YtncbnejldlfbdaaW.PrintWords Go.Proofs.YtncbnejldlfbdaaW.PrintLast Go.Proofs.YtncbnejldlfbdaaW.PrintMore
set_option linter.unusedVariables false
set_option linter.unusedSimpArgs false
set_option maxRecDepth 100000 in
set_option maxHeartbeats 4000000 in
theorem none_calls (W : World) (kd h ver : Int) (A : Option Addr) (n c : Nat) :
    Calls Try.prog 3 #[.agg #[.int .i64 kd, .int .u64 h, .int .i64 ver, .slice A n c]] W fun e w' => e = .returned (.bool true) ∧ Below W.heap.size W w' := by
  have hu25 := Try.underlying25
  have hu31 := Try.underlying31
  have HB0 := Aside0.mk (below_alloc (Below.refl W.heap.size W) (.cells #[.int .i64 kd, .int .u64 h, .int .i64 ver, .slice A n c] 25))
  have HG := Aside0.mk (blk_new W (.cells #[.int .i64 kd, .int .u64 h, .int .i64 ver, .slice A n c] 25))
  go_enter Try.func3, Try.ntmps3
  go_wp2_with (first | (go_at_call 8; (with_reducible refine (open_nil _ _ _).mono ?_); rintro e w_ ⟨rfl, rfl⟩) | (go_at_call 9; (with_reducible refine (next_nil _ _ _).mono ?_); rintro e w1 ⟨rfl, hb⟩; have G1 := blk_alloc (blk_below HG.out hb) (.cells #[.int .u64 0, .int .i64 0] 31); have hh : (w1.alloc (.cells #[.int .u64 0, .int .i64 0] 31)).cell? ⟨W.heap.size, 1, none⟩ = some (.int .u64 h) := (blk_cell G1 1).trans rfl; have HB1 := Aside0.mk (below_alloc (below_step HB0.out hb) (.cells #[.int .u64 0, .int .i64 0] 31)); clear hb G1) | (go_at_call 10; (with_reducible refine (close_nil _ _).mono ?_); rintro e w2 ⟨rfl, hb⟩; have HB2 := Aside0.mk (below_step HB1.out hb); clear hb) | (go_at_call 11; (with_reducible refine (len_nil _).mono ?_); rintro e w_ ⟨rfl, rfl⟩) | (go_at_call 12; (with_reducible refine (handles_nil _).mono ?_); rintro e w_ ⟨rfl, rfl⟩) | (go_at_call 13; (with_reducible refine (lives_calls _).mono ?_); rintro e w3 ⟨rfl, hb⟩; have HB3 := Aside0.mk (below_step HB2.out hb); clear hb))
  go_ret
  exact ⟨rfl, HB3.out⟩
end Go.Proofs.Ytncbnejldlfbdaa.PCur
