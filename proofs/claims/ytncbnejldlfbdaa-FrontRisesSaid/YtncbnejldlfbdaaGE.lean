/- What Take of a walk over a graph comes to: rising distances; of a weight less than 2^40. -/
import Derived.Test.YtncbnejldlfbdaaGD
namespace Go.Proofs.Ytncbnejldlfbdaa.PHeap
open Go.RowKit Go.Proofs.YtncbnejldlfbdaaW.PrintWords Go.Proofs.YtncbnejldlfbdaaW.PrintLast Go.Proofs.YtncbnejldlfbdaaW.PrintMore
set_option linter.unusedVariables false
set_option linter.unusedSimpArgs false
/-- a hit: its number, how far -/
abbrev Ht := Int × Int
def cellsH : List Ht → List Value
  | [] => []
  | p :: l => .int .u64 p.1 :: .int .i64 p.2 :: cellsH l
theorem cellsH_length (l : List Ht) : (cellsH l).length = l.length * 2 := by
  induction l with
  | nil => rfl
  | cons p l ih => simp only [cellsH, List.length_cons, ih]; omega
theorem cellsH_snoc (l : List Ht) (p : Ht) : cellsH (l ++ [p]) = cellsH l ++ [.int .u64 p.1, .int .i64 p.2] := by
  induction l with
  | nil => rfl
  | cons q l ih => simp only [List.cons_append, cellsH, ih]
theorem cellsH_at (l : List Ht) (i : Nat) (p : Ht) (h : l[i]? = some p) : (cellsH l)[i * 2]? = some (.int .u64 p.1) ∧ (cellsH l)[i * 2 + 1]? = some (.int .i64 p.2) := by
  induction l generalizing i with
  | nil => simp at h
  | cons q l ih =>
    cases i with
    | zero =>
      simp only [List.getElem?_cons_zero, Option.some.injEq] at h
      subst h
      exact ⟨rfl, rfl⟩
    | succ i =>
      have := ih i (by simpa using h)
      rw [show (i + 1) * 2 = i * 2 + 1 + 1 from by omega]
      simp only [cellsH, List.getElem?_cons_succ]
      exact this
theorem info31 : (Try.prog.info? 31).map (fun i => (i.zero, i.size, i.bytes)) = some (some (.agg #[.int .u64 0, .int .i64 0]), 2, 16) := by kernel_rfl
theorem low_of (l : List Ent) : ∃ d, ∀ x ∈ l, d ≤ x.1 := by
  induction l with
  | nil => exact ⟨0, fun x hx => by simp at hx⟩
  | cons y l ih =>
    obtain ⟨d, hd⟩ := ih
    refine ⟨if d ≤ y.1 then d else y.1, fun x hx => ?_⟩
    rcases List.mem_cons.1 hx with rfl | hx
    · split <;> omega
    · have := hd x hx
      split <;> omega
set_option maxHeartbeats 16000000 in
set_option maxRecDepth 1000000 in
theorem take_g (gW gG : Nat) (bs : List (List Ent)) (l : List Ent) (n : Int) (S : Nat → Prop) (w0 w : World) (hG : Good w0 gG bs) (h : Wk w w0.heap.size gW (.func (.func 41) #[] #[.pointer (some ⟨gG, 0, none⟩)]) l n S) (hB : Below w0.heap.size w0 w) (hwt : wts bs.length l < 1099511627776) :
    Calls Try.prog 17 #[.pointer (some ⟨gW, 0, none⟩), .int .i64 2000] w fun e w' => ∃ (v : Value) (hs : List Ht), e = .returned v ∧ Aside0 (Row w' w0.heap.size 31 2 v hs.length (cellsH hs)) ∧ Aside0 (hs.length ≤ 2000) ∧ Aside0 (hs.Pairwise (fun a b => a.2 ≤ b.2)) ∧ Aside0 (Below w0.heap.size w0 w') := by
  have hu31 := Try.underlying31
  have HGD := Aside0.mk hG
  have HW0 := Aside0.mk h
  have HB0 := Aside0.mk hB
  have HWT := Aside0.mk hwt
  obtain ⟨d0, hd0⟩ := low_of l
  have HD0 := Aside0.mk hd0
  clear hG h hB hwt hd0
  go_enter Try.func17, Try.ntmps17
  go_wp2
  go_loopg [5] 2000 (fun kq v5 wr => ∃ (hs : List Ht) (l2 : List Ent) (n2 d : Int) (S2 : Nat → Prop) (A : Option Addr) (c : Nat), v5 = .slice A hs.length c ∧ Aside0 (kq + hs.length = 2000) ∧ Aside0 (Row wr w0.heap.size 31 2 (.slice A hs.length c) hs.length (cellsH hs)) ∧ Aside0 (Wk wr w0.heap.size gW (.func (.func 41) #[] #[.pointer (some ⟨gG, 0, none⟩)]) l2 n2 S2) ∧
    Aside0 (∀ k, (Value.slice A hs.length c).ownBlock = some k → ¬ S2 k ∧ w.heap.size ≤ k) ∧ Aside0 (∀ k, S2 k → S k ∨ w.heap.size ≤ k) ∧ Aside0 (∀ a ∈ hs, a.2 ≤ d) ∧ Aside0 (∀ x ∈ l2, d ≤ x.1) ∧ Aside0 (hs.Pairwise (fun a b => a.2 ≤ b.2)) ∧ Aside0 (wts bs.length l2 ≤ wts bs.length l) ∧ Aside0 (Below w0.heap.size w0 wr) ∧ Aside0 (Kept w wr S))
  case atStart => exact ⟨[], l, n, d0, S, none, 0, rfl, ⟨rfl⟩, ⟨Row.nil _ _ _ _⟩, HW0, ⟨fun k hk => by simp [Value.ownBlock] at hk⟩, ⟨fun k h => .inl h⟩, ⟨fun a ha => by simp at ha⟩, HD0, ⟨List.Pairwise.nil⟩, ⟨Nat.le_refl _⟩, HB0, ⟨Kept.refl _ _⟩⟩
  case round =>
    clear HW0 HB0 HD0
    obtain ⟨hs, l2, n2, d, S2, A, c, rfl, HQ, HR, HW, HV, HS, HA, HLO, HPW, HLE, HB, HK⟩ := hrel
    have HWT2 : Aside0 (wts bs.length l2 < 1099511627776) := ⟨by have := HLE.out; have := HWT.out; omega⟩
    by_cases hk : hs.length < 2000
    · have hkI : (hs.length : Int) < 2000 := by omega
      have HKK := Aside0.mk hk
      clear hk
      go_upto_if 18 with ((go_at_call 18; (with_reducible refine (next_g gW gG bs l2 n2 (fun k => S2 k ∧ k < wr.heap.size) d w0 _ HGD.out HW.out.bound HB.out HLO.out HWT2.out).mono ?_); rintro e w1 ⟨b, i, z, l3, n3, rfl, h1, h2, h3, h4, h5⟩; have X1 := Aside0.mk (h1.out.bound.below (below_alloc (Below.refl _ _) (.cells #[.int .u64 i, .int .i64 z] 31))); have X2 := h2; have X3 := h3; have X4 := Aside0.mk (h4.out.alloc h4.out.size (.cells #[.int .u64 i, .int .i64 z] 31)); have X5 := Aside0.mk (HK.out.then_ h5.out (fun k hk => HS.out k hk.1)); have X6 := Aside0.mk (X5.out.alloc (.cells #[.int .u64 i, .int .i64 z] 31)); have XR := Aside0.mk ((HR.out.move (w1 := w1) (fun k hk => h5.out.2 k (HR.out.lt k hk) (fun h => (HV.out k hk).1 h.1))).below (below_alloc (Below.refl _ _) (.cells #[.int .u64 i, .int .i64 z] 31))); have XZ : Aside0 (wr.heap.size ≤ w1.heap.size) := ⟨kept_size h5.out⟩; have HQ := blk_new w1 (.cells #[.int .u64 i, .int .i64 z] 31); have hq0 : (w1.alloc (.cells #[.int .u64 i, .int .i64 z] 31)).cell? ⟨w1.heap.size, 0, none⟩ = some (.int .u64 i) := (blk_cell HQ 0).trans rfl; have hq1 : (w1.alloc (.cells #[.int .u64 i, .int .i64 z] 31)).cell? ⟨w1.heap.size, 1, none⟩ = some (.int .i64 z) := (blk_cell HQ 1).trans rfl; clear h1 h2 h3 h4 h5 HQ))
      cases b with
      | false =>
        go_wp2
        go_ret
        exact ⟨_, hs, rfl, XR, ⟨by have := HKK.out; omega⟩, HPW, X4⟩
      | true =>
        have XT := Aside0.mk (X2.out rfl)
        have Z2 : Aside0 ((w1.alloc (.cells #[.int .u64 i, .int .i64 z] 31)).heap.size = w1.heap.size + 1) := ⟨by simp⟩
        have Z3 : Aside0 (w0.heap.size ≤ (w1.alloc (.cells #[.int .u64 i, .int .i64 z] 31)).heap.size) := ⟨X4.out.size⟩
        have Z4 : Aside0 ((hs.length + 1) * 16 ≤ 140737488355328) := ⟨by have := HKK.out; omega⟩
        have NR : Aside0 (∀ k, (Value.slice A hs.length c).ownBlock = some k → k < wr.heap.size) := ⟨fun k hk => HR.out.lt k hk⟩
        go_wp2_with (((with_reducible refine gate_builtin (b := .append) (xs := #[.tmp 19, .tmp 21]) rfl ?_); refine print_append_cells (w0 := w0) (W := w1.alloc (.cells #[.int .u64 i, .int .i64 z] 31)) w0.heap.size rfl (.tmp 19) (.tmp 21) 23 31 (.agg #[.int .u64 0, .int .i64 0]) 2 16 rfl Try.underlying23 info31 rfl (by decide) (by decide) (.slice A hs.length c) hs.length (cellsH hs) [.int .u64 i, .int .i64 z] rfl (by rw [Z2.out]; rfl) rfl (by simp [Value.oneCell']) XR.out.own X4.out Z3.out Z4.out ?_; intro v1 w2 hr hb1 hgr hat))
        obtain ⟨A1, c1, rfl, hnc1⟩ := Row.form (Row.of_own hr)
        go_roundg (gk - 1)
        case measure => have := HQ.out; have := HKK.out; omega
        case rel =>
          have hlen : (hs ++ [((i, z) : Ht)]).length = hs.length + 1 := by simp
          refine ⟨hs ++ [(i, z)], l3, n3, z, _, A1, c1, by rw [hlen], ⟨by have := HQ.out; have := HKK.out; rw [hlen]; omega⟩, ⟨?_⟩, ⟨X1.out.move (w1 := w2) (fun k hk hlt => hgr.block k hlt (fun e => ?_))⟩, ⟨?_⟩, ⟨?_⟩, ⟨?_⟩, ⟨XT.out.2⟩, ⟨?_⟩, ⟨Nat.le_trans X3.out HLE.out⟩, ⟨hb1⟩, ⟨?_⟩⟩
          · rw [hlen, cellsH_snoc]; exact Row.of_own hr
          · have h6 := NR.out k e.symm
            rcases hk.1 with h7 | h7
            · exact (HV.out k e.symm).1 h7.1
            · omega
          · rw [hlen]
            intro k hk
            have hW : w.heap.size ≤ k := by
              rcases hat with e | ⟨b, e, hb⟩
              · exact (HV.out k (e.symm.trans hk)).2
              · have h6 : b = k := Option.some.inj (e.symm.trans hk)
                have h7 := kept_size X6.out
                omega
            refine ⟨fun hS => ?_, hW⟩
            rcases hat with e | ⟨b, e, hb⟩
            · have h6 := NR.out k (e.symm.trans hk)
              rcases hS.1 with h7 | h7
              · exact (HV.out k (e.symm.trans hk)).1 h7.1
              · omega
            · have h6 : b = k := Option.some.inj (e.symm.trans hk)
              have h7 := Z2.out
              have h8 := hS.2
              omega
          · intro k hk
            rcases hk.1 with h7 | h7
            · exact HS.out k h7.1
            · exact .inr (Nat.le_trans (kept_size HK.out) h7)
          · intro a ha
            rcases List.mem_append.1 ha with h | h
            · exact Int.le_trans (HA.out a h) XT.out.1
            · simp only [List.mem_singleton] at h; subst h; exact Int.le_refl _
          · rw [List.pairwise_append]
            refine ⟨HPW.out, List.pairwise_singleton _ _, fun a ha b hb => ?_⟩
            simp only [List.mem_singleton] at hb
            subst hb
            exact Int.le_trans (HA.out a ha) XT.out.1
          · refine Kept.of_grown hgr X6.out (fun k hk => ?_)
            exact .inr ((HV.out k hk).2)
    · have hk2 := HQ.out
      have hkI : ¬ (hs.length : Int) < 2000 := by omega
      clear hk
      go_wp2
      go_ret
      exact ⟨_, rfl, hs, HR, ⟨by omega⟩, HPW, HB⟩
end Go.Proofs.Ytncbnejldlfbdaa.PHeap
