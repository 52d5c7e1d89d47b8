/- What holds between an arena and the reference's at the head of a round, and what a step of either leaves of it; no condition. -/
import Derived.Test.YtlhoikcdjpnnfaaAY
namespace Go.Proofs.Ytlhoikcdjpnnfaa.PArena
open Go.RowKit Go.Proofs.YtlhoikcdjpnnfaaW.PrintWords Go.Proofs.YtlhoikcdjpnnfaaW.PrintLast Go.Proofs.YtlhoikcdjpnnfaaW.PrintMore
open Go.Proofs.Ytlhoikcdjpnnfaa.PRef
set_option linter.unusedVariables false
/-- the arena at g (slots sl, free fr, blocks S), the reference's in the variable at gR (slots sr, free fq) -/
structure Two (w0 : World) (g gR : Nat) (w : World) (sl : List Slot) (fr : List Int) (sr : List Slot) (fq : List Int) (S : Nat → Prop) (vL vF : Value) : Prop where
  ar : ArS w w0.heap.size g sl fr S
  sb : ∀ k, S k → k < w.heap.size
  hg : w.heap[gR]? = some (.cells #[vL, vF] 43 (0, 0))
  hS : ¬ S gR
  hR : w0.heap.size ≤ gR
  rl : Kd.R k51 51 w w0.heap.size (fun k => ¬ S k) vL (toS sr)
  rf : Kd.R (Kd.int .i64) 3 w w0.heap.size (fun k => ¬ S k) vF fq
  hB : Below w0.heap.size w0 w
section
variable {w0 w w1 : World} {g gR : Nat} {sl sr sl' sr' : List Slot} {fr fq fr' fq' : List Int} {S : Nat → Prop} {vL vF : Value}
theorem Two.below (h : Two w0 g gR w sl fr sr fq S vL vF) (hb : Below w.heap.size w w1) : Two w0 g gR w1 sl fr sr fq S vL vF :=
  ⟨h.ar.below hb, fun k hk => Nat.lt_of_lt_of_le (h.sb k hk) hb.size, blk_below h.hg hb, h.hS, h.hR, Kd.R_below h.rl hb, Kd.R_below h.rf hb, below_step h.hB hb⟩
theorem Two.drew (h : Two w0 g gR w sl fr sr fq S vL vF) : Two w0 g gR w.drew sl fr sr fq S vL vF := h.below (below_drew1 (Below.refl _ _))
theorem Two.drewN (h : Two w0 g gR w sl fr sr fq S vL vF) (m : Nat) : Two w0 g gR (w.drewN m) sl fr sr fq S vL vF := h.below (pw_below_drewN (Below.refl _ _) m)
/-- a step of the arena -/
theorem Two.arena (h : Two w0 g gR w sl fr sr fq S vL vF) (ha : ArS w1 w0.heap.size g sl' fr' (fun k => S k ∨ w.heap.size ≤ k)) (hb : Below w0.heap.size w0 w1) (hk : Kept w w1 S) :
    Two w0 g gR w1 sl' fr' sr fq (fun k => (S k ∨ w.heap.size ≤ k) ∧ k < w1.heap.size) vL vF := by
  refine ⟨ha.bound, fun k hk => hk.2, (hk.2 gR (blk_lt h.hg) h.hS).trans h.hg, ?_, h.hR, ?_, ?_, hb⟩
  · rintro ⟨h1 | h1, _⟩
    · exact h.hS h1
    · have := blk_lt h.hg; omega
  · exact Kd.R_mono (Kd.R_keptB h.rl hk (fun _ hk => hk)) (fun k hk => by
      rintro ⟨h1 | h1, _⟩
      · exact hk.1 h1
      · have := hk.2.2; omega)
  · exact Kd.R_mono (Kd.R_keptB h.rf hk (fun _ hk => hk)) (fun k hk => by
      rintro ⟨h1 | h1, _⟩
      · exact hk.1 h1
      · have := hk.2.2; omega)
/-- another block, that a step of the arena leaves as it was -/
theorem Kept.blk {o : Obj} {k : Nat} (hk : Kept w w1 S) (ho : w.heap[k]? = some o) (hn : ¬ S k) : w1.heap[k]? = some o ∧ ¬ ((S k ∨ w.heap.size ≤ k) ∧ k < w1.heap.size) := by
  refine ⟨(hk.2 k (blk_lt ho) hn).trans ho, ?_⟩
  rintro ⟨h1 | h1, _⟩
  · exact hn h1
  · have := blk_lt ho; omega
theorem blk_two {k t : Nat} {cs : Array Value} {u0 u1 : Value} (ho : w.heap[k]? = some (.cells cs t (0, 0))) (hne : k ≠ gR) : ((w.setCell ⟨gR, 0, none⟩ u0).setCell ⟨gR, 1, none⟩ u1).heap[k]? = some (.cells cs t (0, 0)) := blk_far (blk_far ho hne _) hne _
/-- a step of the reference that makes its slices anew, stored back -/
theorem Two.fresh (h : Two w0 g gR w sl fr sr fq S vL vF) {u0 u1 : Value} (hb : Below w.heap.size w w1) (r0 : Kd.R k51 51 w1 w.heap.size (fun _ => True) u0 (toS sr')) (r1 : Kd.R (Kd.int .i64) 3 w1 w.heap.size (fun _ => True) u1 fq') :
    Two w0 g gR ((w1.setCell ⟨gR, 0, none⟩ u0).setCell ⟨gR, 1, none⟩ u1) sl fr sr' fq' S u0 u1 := by
  have hg1 := blk_below h.hg hb
  have n0 : ∀ k, w.heap.size ≤ k → ¬ S k := fun k hk hs => by have := h.sb k hs; omega
  have q0 := Kd.R_types (Kd.R_mono (Kd.R_bound r0) (ok' := fun k => ¬ S k) (fun k hk => n0 k hk.2.1)) hg1 (by decide)
  have q1 := Kd.R_types (Kd.R_mono (Kd.R_bound r1) (ok' := fun k => ¬ S k) (fun k hk => n0 k hk.2.1)) hg1 (by decide)
  refine ⟨((h.ar.below hb).far (p := ⟨gR, 0, none⟩) h.hS _).far (p := ⟨gR, 1, none⟩) h.hS _, fun k hk => ?_, ?_, h.hS, h.hR, ?_, ?_, ((below_step h.hB hb).setCell (p := ⟨gR, 0, none⟩) h.hR _).setCell (p := ⟨gR, 1, none⟩) h.hR _⟩
  · have := h.sb k hk; have := hb.size; simp only [World.setCell, Array.size_modify]; omega
  · have e0 := blk_set hg1 0 u0
    have e1 := blk_set e0 1 u1
    simpa using e1
  · exact Kd.R_lower (Kd.R_mono (Kd.R_far (p := ⟨gR, 1, none⟩) (Kd.R_far (p := ⟨gR, 0, none⟩) q0 (fun _ hk => hk.2) u0) (fun _ hk => hk.2) u1) (fun _ hk => hk.1)) h.hB.size
  · exact Kd.R_lower (Kd.R_mono (Kd.R_far (p := ⟨gR, 1, none⟩) (Kd.R_far (p := ⟨gR, 0, none⟩) q1 (fun _ hk => hk.2) u0) (fun _ hk => hk.2) u1) (fun _ hk => hk.1)) h.hB.size
/-- a step of the reference that hands on its slices, or makes them anew, stored back -/
theorem Two.own (h : Two w0 g gR w sl fr sr fq S vL vF) {u0 u1 : Value} {P : Nat → Prop} (hP : ∀ k, P k → ¬ S k ∧ k ≠ gR) (hB : Below w0.heap.size w0 w1) (hk : Kept w w1 (fun k => P k ∨ P k))
    (r0 : Kd.R k51 51 w1 w0.heap.size (fun k => (P k ∨ P k) ∨ w.heap.size ≤ k) u0 (toS sr')) (r1 : Kd.R (Kd.int .i64) 3 w1 w0.heap.size (fun k => (P k ∨ P k) ∨ w.heap.size ≤ k) u1 fq') :
    Two w0 g gR ((w1.setCell ⟨gR, 0, none⟩ u0).setCell ⟨gR, 1, none⟩ u1) sl fr sr' fq' S u0 u1 := by
  have nP : ∀ k, (P k ∨ P k) → ¬ S k ∧ k ≠ gR := fun k hk => hk.elim (hP k) (hP k)
  have hg1 : w1.heap[gR]? = some (.cells #[vL, vF] 43 (0, 0)) := (hk.2 gR (blk_lt h.hg) (fun hp => (nP _ hp).2 rfl)).trans h.hg
  have n0 : ∀ k, ((P k ∨ P k) ∨ w.heap.size ≤ k) → ¬ S k := fun k hk => hk.elim (fun hp => (nP k hp).1) (fun hk hs => by have := h.sb k hs; omega)
  have q0 := Kd.R_types (Kd.R_mono r0 (ok' := fun k => ¬ S k) n0) hg1 (by decide)
  have q1 := Kd.R_types (Kd.R_mono r1 (ok' := fun k => ¬ S k) n0) hg1 (by decide)
  have ha : ArS w1 w0.heap.size g sl fr S := h.ar.move (fun k hk2 hlt => hk.2 k hlt (fun hp => (nP k hp).1 hk2))
  refine ⟨(ha.far (p := ⟨gR, 0, none⟩) h.hS _).far (p := ⟨gR, 1, none⟩) h.hS _, fun k hk2 => ?_, ?_, h.hS, h.hR, ?_, ?_, (hB.setCell (p := ⟨gR, 0, none⟩) h.hR _).setCell (p := ⟨gR, 1, none⟩) h.hR _⟩
  · have := h.sb k hk2; have := hk.1; simp only [World.setCell, Array.size_modify]; omega
  · have e0 := blk_set hg1 0 u0
    have e1 := blk_set e0 1 u1
    simpa using e1
  · exact Kd.R_mono (Kd.R_far (p := ⟨gR, 1, none⟩) (Kd.R_far (p := ⟨gR, 0, none⟩) q0 (fun _ hk => hk.2) u0) (fun _ hk => hk.2) u1) (fun _ hk => hk.1)
  · exact Kd.R_mono (Kd.R_far (p := ⟨gR, 1, none⟩) (Kd.R_far (p := ⟨gR, 0, none⟩) q1 (fun _ hk => hk.2) u0) (fun _ hk => hk.2) u1) (fun _ hk => hk.1)
end
end Go.Proofs.Ytlhoikcdjpnnfaa.PArena
