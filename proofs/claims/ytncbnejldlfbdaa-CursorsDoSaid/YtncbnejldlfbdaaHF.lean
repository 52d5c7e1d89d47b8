/- What first and down of a heap answer and leave, of fewer than 2^42 entries. -/
import Derived.Test.YtncbnejldlfbdaaHU
namespace Go.Proofs.Ytncbnejldlfbdaa.PHeap
open Go.RowKit Go.Proofs.YtncbnejldlfbdaaW.PrintWords Go.Proofs.YtncbnejldlfbdaaW.PrintLast Go.Proofs.YtncbnejldlfbdaaW.PrintMore
set_option linter.unusedVariables false
set_option linter.unusedSimpArgs false
/-- the first of i and what was looked at till then -/
def fN (l : List Ent) (i : Nat) : Nat → Nat
  | 0 => i
  | t + 1 => if 2 * i + 1 + t < l.length ∧ ordE (gt l (2 * i + 1 + t)) (gt l (fN l i t)) < 0 then 2 * i + 1 + t else fN l i t
theorem fN_two (l : List Ent) (i : Nat) : fN l i 2 = firstL l i := rfl
theorem fN_lt (l : List Ent) (i : Nat) (h : i < l.length) : ∀ t, fN l i t < l.length
  | 0 => h
  | t + 1 => by unfold fN; split; omega; exact fN_lt l i h t
theorem fN_end (l : List Ent) (i t : Nat) (h : l.length ≤ 2 * i + 1 + t) (ht : t ≤ 2) : firstL l i = fN l i t := by
  rw [← fN_two]
  have e : ∀ s, t ≤ s → fN l i (s + 1) = fN l i s := fun s hs => by rw [fN, if_neg (by omega)]
  match t, ht with
  | 0, _ => rw [e 1 (by omega), e 0 (by omega)]
  | 1, _ => rw [e 1 (by omega)]
  | 2, _ => rfl
set_option maxHeartbeats 8000000 in
set_option maxRecDepth 1000000 in
theorem first_calls (g base : Nat) (l : List Ent) (S : Nat → Prop) (i : Nat) (w : World) (h : Hp w base g l S) (hi : i < l.length) (hlen : l.length < 35184372088832) :
    Calls Try.prog 67 #[.pointer (some ⟨g, 0, none⟩), .int .i64 i] w fun e w' => e = .returned (.int .i64 (firstL l i : Nat)) ∧ Below w.heap.size w w' := by
  have hu98 := Try.underlying98
  have hu119 := Try.underlying119
  have H0 := Aside0.mk h
  have hib : (i : Int) < 35184372088832 := by omega
  have hi0 : (0 : Int) ≤ (i : Int) := by omega
  have N0 := Aside0.mk hi
  have M0 := Aside0.mk hlen
  clear h hi hlen
  go_enter Try.func67, Try.ntmps67
  go_wp2
  go_loopw [5, 6] (fun v5 v6 wr => ∃ (t o k : Nat), v5 = .int .i64 (o : Int) ∧ v6 = .int .i64 (k : Int) ∧ Aside0 (t ≤ 2) ∧ Aside0 (k = 2 * i + 1 + t) ∧ Aside0 (o = fN l i t) ∧ Aside0 (Below w.heap.size w wr)) (fun _ v6 _ => (2 * i + 3) - (intOf v6).toNat)
  case atStart => exact ⟨0, i, 2 * i + 1, rfl, by go_num, ⟨by omega⟩, ⟨rfl⟩, ⟨rfl⟩, ⟨Below.refl _ _⟩⟩
  case round =>
    obtain ⟨t, o, k, rfl, rfl, HT, HK, HO, HB⟩ := hrel
    have hkb : (k : Int) < 140737488355328 := by have := HT.out; have := HK.out; omega
    by_cases ht : t < 2
    · have c1 : decide ((k : Int) ≤ 2 * (i : Int) + 2) = true := by have := HK.out; rw [decide_eq_true_iff]; omega
      have c1' : (k : Int) ≤ 2 * (i : Int) + 2 := of_decide_eq_true c1
      have hl := HO.out ▸ fN_lt l i N0.out t
      obtain ⟨gL, cap, hg, hbg, hbL, s1, s2, hne, hrow, hcells⟩ := (H0.out.below HB.out).at_ (by omega)
      have hc0 : wr.cell? ⟨g, 0, none⟩ = some (.func (.func 54) #[] #[]) := (blk_cell hg 0).trans rfl
      have hc1 : wr.cell? ⟨g, 1, none⟩ = some (.slice (some ⟨gL, 0, none⟩) l.length cap) := (blk_cell hg 1).trans rfl
      obtain ⟨y0, y1, y2⟩ := hcells o hl
      by_cases hk : k < l.length
      · have c2 : decide (k < l.length) = true := decide_eq_true hk
        obtain ⟨x0, x1, x2⟩ := hcells k hk
        have hT := Aside0.mk ht
        clear hcells hrow hg ht
        by_cases hlt : ordE (gt l k) (gt l o) < 0
        · have HN : Aside0 (k = fN l i (t + 1)) := ⟨by rw [fN, if_pos]; exact HK.out; rw [← HK.out, ← HO.out]; exact ⟨hk, hlt⟩⟩
          go_wp2
          go_still_tail 18, (by kernel_rfl)
          go_wp2_with ((go_at_call 54; (with_reducible refine (order_calls (gt l k) (gt l o) _).mono ?_); rintro e w1 ⟨rfl, hb⟩; have HX : Aside0 (Below wr.heap.size wr w1) := ⟨below_step (below_drew1 (Below.refl wr.heap.size wr)) hb⟩; clear hb))
          go_roundw
          case rel => exact ⟨t + 1, k, k + 1, rfl, by go_num, ⟨by have := hT.out; omega⟩, ⟨by have := HK.out; omega⟩, HN, ⟨below_then HB.out HB.out.size HX.out⟩⟩
          case measure => simp [intOf]; have := HK.out; have := hT.out; omega
        · have HN : Aside0 (o = fN l i (t + 1)) := ⟨by rw [fN, if_neg]; exact HO.out; rw [← HK.out, ← HO.out]; exact fun hh => hlt hh.2⟩
          obtain ⟨r, hr⟩ : ∃ r, ordE (gt l k) (gt l o) = r := ⟨_, rfl⟩
          have HR := Aside0.mk hr
          have d3 : decide (r < 0) = false := decide_eq_false (hr ▸ hlt)
          clear hlt hr
          go_wp2
          go_still_tail 18, (by kernel_rfl)
          go_wp2_with ((go_at_call 54; (with_reducible refine (order_calls (gt l k) (gt l o) _).mono ?_); rintro e w1 ⟨rfl, hb⟩; rw [HR.out]; have HX : Aside0 (Below wr.heap.size wr w1) := ⟨below_step (below_drew1 (Below.refl wr.heap.size wr)) hb⟩; clear hb))
          go_roundw
          case rel => exact ⟨t + 1, o, k + 1, rfl, by go_num, ⟨by have := hT.out; omega⟩, ⟨by have := HK.out; omega⟩, HN, ⟨below_then HB.out HB.out.size HX.out⟩⟩
          case measure => simp [intOf]; have := HK.out; have := hT.out; omega
      · have c2 : decide (k < l.length) = false := decide_eq_false hk
        have HN : Aside0 (firstL l i = o) := ⟨by rw [HO.out]; exact fN_end l i t (by have := HK.out; omega) (by omega)⟩
        clear hcells hrow hg ht hk
        go_wp2
        go_ret
        exact ⟨by rw [HN.out]; rfl, HB.out⟩
    · have c1 : decide ((k : Int) ≤ 2 * (i : Int) + 2) = false := by have := HK.out; have := HT.out; rw [decide_eq_false_iff_not]; omega
      have c1' : ¬ (k : Int) ≤ 2 * (i : Int) + 2 := of_decide_eq_false c1
      have HN : Aside0 (firstL l i = o) := ⟨by rw [HO.out, ← fN_two]; have := HT.out; rw [show t = 2 from by omega]⟩
      clear ht
      go_wp2
      go_ret
      exact ⟨by rw [HN.out]; rfl, HB.out⟩
end Go.Proofs.Ytncbnejldlfbdaa.PHeap
