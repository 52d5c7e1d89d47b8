/- A heap of entries in memory, and what Top and swap of it answer and leave; no condition. -/
import Derived.Test.YtncbnejldlfbdaaHA
import Derived.Test.YtncbnejldlfbdaaOA
import Derived.StillTailTactics
import Derived.Handy
import Derived.BigQuiet
import Derived.Deep.RegionHeld3
namespace Go.Proofs.Ytncbnejldlfbdaa.PHeap
open Go.RowKit Go.Proofs.YtncbnejldlfbdaaW.PrintWords Go.Proofs.YtncbnejldlfbdaaW.PrintLast Go.Proofs.YtncbnejldlfbdaaW.PrintMore
set_option linter.unusedVariables false
set_option linter.unusedSimpArgs false
def entV (p : Ent) : Value := .agg #[.int .i64 p.1, .int .i64 p.2.1, .int .u64 p.2.2]
def cells3 : List Ent → List Value
  | [] => []
  | p :: l => .int .i64 p.1 :: .int .i64 p.2.1 :: .int .u64 p.2.2 :: cells3 l
theorem cells3_length (l : List Ent) : (cells3 l).length = l.length * 3 := by
  induction l with
  | nil => rfl
  | cons p l ih => simp only [cells3, List.length_cons, ih]; omega
theorem cells3_append (l m : List Ent) : cells3 (l ++ m) = cells3 l ++ cells3 m := by
  induction l with
  | nil => rfl
  | cons p l ih => simp only [List.cons_append, cells3, ih]
theorem cells3_at (l : List Ent) (i : Nat) (p : Ent) (h : l[i]? = some p) : (cells3 l)[i * 3]? = some (.int .i64 p.1) ∧ (cells3 l)[i * 3 + 1]? = some (.int .i64 p.2.1) ∧ (cells3 l)[i * 3 + 2]? = some (.int .u64 p.2.2) := by
  induction l generalizing i with
  | nil => simp at h
  | cons q l ih =>
    cases i with
    | zero =>
      simp only [List.getElem?_cons_zero, Option.some.injEq] at h
      subst h
      exact ⟨rfl, rfl, rfl⟩
    | succ i =>
      have := ih i (by simpa using h)
      rw [show (i + 1) * 3 = i * 3 + 1 + 1 + 1 from by omega]
      simp only [cells3, List.getElem?_cons_succ]
      exact this
theorem cells3_set (l : List Ent) (i : Nat) (p : Ent) : cells3 (l.set i p) = (((cells3 l).set (i * 3) (.int .i64 p.1)).set (i * 3 + 1) (.int .i64 p.2.1)).set (i * 3 + 2) (.int .u64 p.2.2) := by
  induction l generalizing i with
  | nil => simp [cells3]
  | cons q l ih =>
    cases i with
    | zero => simp [cells3]
    | succ i =>
      rw [show (i + 1) * 3 = i * 3 + 1 + 1 + 1 from by omega]
      simp only [List.set_cons_succ, cells3, ih]
theorem cells3_take (l : List Ent) (m : Nat) : (cells3 l).take (m * 3) = cells3 (l.take m) := by
  induction l generalizing m with
  | nil => simp [cells3]
  | cons p l ih =>
    cases m with
    | zero => simp [cells3]
    | succ m =>
      rw [show (m + 1) * 3 = m * 3 + 1 + 1 + 1 from by omega]
      simp only [List.take_succ_cons, cells3, ih]
/-- A HEAP at block g, all of whose blocks are told by S: its entries as they lie -/
def Hp (w : World) (base g : Nat) (l : List Ent) (S : Nat → Prop) : Prop :=
  ∃ vL, w.heap[g]? = some (.cells #[.func (.func 54) #[] #[], vL] 119 (0, 0)) ∧ base ≤ g ∧ Row w base 98 3 vL l.length (cells3 l) ∧ S g ∧ (∀ k, vL.ownBlock = some k → S k)
section
variable {w w1 : World} {base g : Nat} {l : List Ent} {S S' : Nat → Prop}
theorem Hp.mono (h : Hp w base g l S) (hs : ∀ k, S k → S' k) : Hp w base g l S' := by
  obtain ⟨vL, hg, hb, hL, h1, h2⟩ := h
  exact ⟨vL, hg, hb, hL, hs _ h1, fun k hk => hs _ (h2 k hk)⟩
theorem Hp.bound (h : Hp w base g l S) : Hp w base g l (fun k => S k ∧ k < w.heap.size) := by
  obtain ⟨vL, hg, hb, hL, h1, h2⟩ := h
  exact ⟨vL, hg, hb, hL, ⟨h1, blk_lt hg⟩, fun k hk => ⟨h2 k hk, hL.lt k hk⟩⟩
theorem Hp.move (h : Hp w base g l S) (hm : ∀ k, S k → k < w.heap.size → w1.heap[k]? = w.heap[k]?) : Hp w1 base g l S := by
  obtain ⟨vL, hg, hb, hL, h1, h2⟩ := h
  exact ⟨vL, (hm g h1 (blk_lt hg)).trans hg, hb, hL.move (fun k hk => hm k (h2 k hk) (hL.lt k hk)), h1, h2⟩
theorem Hp.below (h : Hp w base g l S) (hb : Below w.heap.size w w1) : Hp w1 base g l S := h.move (fun k _ hk => hb.block k hk)
theorem Hp.alloc (h : Hp w base g l S) (o : Obj) : Hp (w.alloc o) base g l S := h.below (below_alloc (Below.refl _ _) o)
theorem Hp.drew (h : Hp w base g l S) : Hp w.drew base g l S := h
theorem Hp.far (h : Hp w base g l S) {p : Addr} (hp : ¬ S p.block) (u : Value) : Hp (w.setCell p u) base g l S := h.move (fun k hk _ => Below.heap_setCell w p u k (fun e => hp (e ▸ hk)))
theorem Hp.lt (h : Hp w base g l S) : g < w.heap.size := by
  obtain ⟨vL, hg, _⟩ := h
  exact blk_lt hg
end
theorem far3 {w : World} {gL g : Nat} (hn : gL ≠ g) (a b c o : Nat) (x y z : Value) : (((w.setCell ⟨gL, a, none⟩ x).setCell ⟨gL, b, none⟩ y).setCell ⟨gL, c, none⟩ z).cell? ⟨g, o, none⟩ = w.cell? ⟨g, o, none⟩ :=
  (World.cell?_setCell_far _ _ _ _ hn).trans ((World.cell?_setCell_far _ _ _ _ hn).trans (World.cell?_setCell_far _ _ _ _ hn))
theorem Row.three {w : World} {base g cap : Nat} {l : List Ent} (h : Row w base 98 3 (.slice (some ⟨g, 0, none⟩) l.length cap) l.length (cells3 l)) (i : Nat) (p : Ent) :
    Row (((w.setCell ⟨g, i * 3, none⟩ (.int .i64 p.1)).setCell ⟨g, i * 3 + 1, none⟩ (.int .i64 p.2.1)).setCell ⟨g, i * 3 + 2, none⟩ (.int .u64 p.2.2)) base 98 3 (.slice (some ⟨g, 0, none⟩) (l.set i p).length cap) (l.set i p).length (cells3 (l.set i p)) := by
  rw [cells3_set, List.length_set]
  exact ((h.put _ _).put _ _).put _ _
end Go.Proofs.Ytncbnejldlfbdaa.PHeap
