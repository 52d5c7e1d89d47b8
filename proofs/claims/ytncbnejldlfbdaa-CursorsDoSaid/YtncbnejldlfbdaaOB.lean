/- What the order of entries answers, as a closed form; no condition. -/
import Derived.Test.YtncbnejldlfbdaaHO
import Derived.Test.YtncbnejldlfbdaaHB
namespace Go.Proofs.Ytncbnejldlfbdaa.PHeap
open Go.RowKit Go.Proofs.YtncbnejldlfbdaaW.PrintWords Go.Proofs.YtncbnejldlfbdaaW.PrintLast Go.Proofs.YtncbnejldlfbdaaW.PrintMore
open Go.Proofs.Ytncbnejldlfbdaa.PRef
set_option linter.unusedVariables false
set_option linter.unusedSimpArgs false
theorem thing_f (a : Ent) : front_thing.f a.1 a.2.1 a.2.2 = some (thingI a) := by
  unfold front_thing.f thingI; split <;> rfl
theorem compare_f (a b : Int) : cmp_Compare_int.f a b = some (cmpI a b) := by
  unfold cmp_Compare_int.f cmp_isNaN_int.f cmpI
  simp only [bne_self_eq_false, Option.bind_some, Bool.false_eq_true, if_false]
  repeat' split
  all_goals first | rfl | omega
theorem compare_u (a b : Int) : cmp_Compare_uint64.f a b = some (cmpI a b) := by
  unfold cmp_Compare_uint64.f cmp_isNaN_uint64.f cmpI
  simp only [bne_self_eq_false, Option.bind_some, Bool.false_eq_true, if_false]
  repeat' split
  all_goals first | rfl | omega
theorem or_f (a b : Int) : cmp_Or_int.f 3 [a, b] = some (if a ≠ 0 then a else b) := by
  have e1 : wrap64 1 = 1 := by unfold wrap64; omega
  have e2 : wrap64 2 = 2 := by unfold wrap64; omega
  have r0 : rd [a, b] 0 = a := rfl
  have r1 : rd [a, b] 1 = b := rfl
  unfold cmp_Or_int.f
  by_cases ha : a = 0
  · by_cases hb : b = 0
    · subst ha; subst hb
      simp [cmp_Or_int.l0, e1, e2, r0, r1]
    · subst ha
      simp [cmp_Or_int.l0, e1, e2, r0, r1, hb]
  · simp [cmp_Or_int.l0, e1, e2, r0, r1, ha]
theorem order_f (a b : Ent) : front_order.f 3 a.1 a.2.1 a.2.2 b.1 b.2.1 b.2.2 = some (ordE a b) := by
  unfold front_order.f ordE
  rw [compare_f]
  simp only [Option.bind_some]
  rw [thing_f, thing_f]
  simp only [Option.bind_some]
  rw [compare_f]
  simp only [Option.bind_some]
  rw [or_f]
  simp only [Option.bind_some]
  rw [compare_f, compare_u]
  simp only [Option.bind_some]
  by_cases h1 : cmpI a.1 b.1 = 0
  · by_cases h2 : cmpI (thingI a) (thingI b) = 0
    · simp only [h1, h2]
      simp only [ne_eq, not_true_eq_false, if_false, if_true]
      split <;> rfl
    · simp [h1, h2]
  · simp [h1]
theorem order_calls (a b : Ent) (w : World) : Calls Try.prog 54 #[.agg #[.int .i64 a.1, .int .i64 a.2.1, .int .u64 a.2.2], .agg #[.int .i64 b.1, .int .i64 b.2.1, .int .u64 b.2.2]] w fun e w' => e = .returned (.int .i64 (ordE a b)) ∧ Below w.heap.size w w' :=
  front_order.calls 3 _ _ _ _ _ _ _ w (order_f a b)
end Go.Proofs.Ytncbnejldlfbdaa.PHeap
