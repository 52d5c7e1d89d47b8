/- What the law FrontRises answers, of rows that are no longer than a slice can be. -/
import Derived.Test.YtncbnejldlfbdaaGH
import Derived.Test.YtncbnejldlfbdaaGF
import Derived.Test.YtncbnejldlfbdaaFN
import Derived.IntWalk
namespace Go.Proofs.Ytncbnejldlfbdaa.PHeap
open Go.RowKit Go.Proofs.YtncbnejldlfbdaaW.PrintWords Go.Proofs.YtncbnejldlfbdaaW.PrintLast Go.Proofs.YtncbnejldlfbdaaW.PrintMore
set_option linter.unusedVariables false
set_option linter.unusedSimpArgs false
theorem may_forw {es : List Ent} {bs : List (List Ent)} (h : MayP es bs true) : Forw bs ∧ es.length ≤ 4 ∧ bs.length ≤ 8 := by
  obtain ⟨h1, h2, h3⟩ := h rfl
  refine ⟨fun j hj => ⟨?_, fun x hx => ?_⟩, h3 0 (by simp), h2⟩
  · have := h3 (j + 1) (by simp; omega)
    rwa [gb_cons] at this
  · obtain ⟨k, hk, rfl⟩ := List.mem_iff_getElem.1 hx
    rw [← gt_eq hk]
    exact h1 rfl j hj k hk
theorem wts_small {es l : List Ent} {bs : List (List Ent)} (hb : bs.length ≤ 8) (he : es.length ≤ 4) (hp : l.Perm es) : wts bs.length l < 1099511627776 := by
  have h1 := wts_le bs.length 390625 l (fun x _ => by
    unfold wt
    split
    · omega
    · have := Nat.pow_le_pow_right (n := 5) (by decide) (show bs.length - x.2.1.toNat ≤ 8 by omega)
      exact this)
  have h2 := hp.length_eq
  have h3 : l.length * 390625 ≤ 4 * 390625 := Nat.mul_le_mul_right _ (by omega)
  omega
/-- place i of a list of hits -/
def gh (l : List Ht) (i : Nat) : Ht := l.getD i (0, 0)
theorem gh_some {l : List Ht} {i : Nat} (h : i < l.length) : l[i]? = some (gh l i) := by
  unfold gh; rw [List.getD_eq_getElem?_getD, List.getElem?_eq_getElem h]; rfl
theorem gh_rises {l : List Ht} (h : l.Pairwise (fun a b => a.2 ≤ b.2)) {i : Nat} (hi : i + 1 < l.length) : (gh l i).2 ≤ (gh l (i + 1)).2 := by
  have h1 := List.pairwise_iff_getElem.1 h i (i + 1) (by omega) hi (by omega)
  have e1 := gh_some (l := l) (i := i) (by omega)
  have e2 := gh_some (l := l) (i := i + 1) hi
  rw [List.getElem?_eq_getElem (by omega)] at e1
  rw [List.getElem?_eq_getElem hi] at e2
  rw [← Option.some.inj e1, ← Option.some.inj e2]
  exact h1
set_option maxHeartbeats 16000000 in
set_option maxRecDepth 1000000 in
theorem rises_calls (A0 A1 : Option Addr) (es : List Ent) (bs : List (List Ent)) (c0 c1 : Nat) (w : World) (hE : Ents w A0 es) (hBs : Behind w A1 bs) (hc : es.length ≤ c0) (hm : c0 ≤ maxLen) (hl : bs.length ≤ 9223372036854775807) :
    Calls Try.prog 4 #[.agg #[.slice A0 es.length c0, .slice A1 bs.length c1]] w fun e w' => e = .returned (.bool true) ∧ Below w.heap.size w w' := by
  have hu43 := Try.underlying43
  have hu47 := Try.underlying47
  have hu31 := Try.underlying31
  have HBB := Aside0.mk (below_alloc (Below.refl w.heap.size w) (.cells #[.slice A0 es.length c0, .slice A1 bs.length c1] 43))
  have HE := Aside0.mk (hE.below HBB.out)
  have HBS := Aside0.mk (hBs.below HBB.out)
  have HC := Aside0.mk hc
  have HM := Aside0.mk hm
  have HL := Aside0.mk hl
  have HX := Aside0.mk (blk_new w (.cells #[.slice A0 es.length c0, .slice A1 bs.length c1] 43))
  clear hE hBs hc hm hl
  go_enter Try.func4, Try.ntmps4
  go_upto_if 9 with ((go_at_call 14; (with_reducible refine (may_calls A0 A1 es bs c0 c1 _ HE.out HBS.out HC.out HM.out HL.out).mono ?_); rintro e w1 ⟨b, rfl, h1, h2⟩; have HP := h1; have B1 := Aside0.mk (below_step HBB.out h2.out); have hx0 : w1.cell? ⟨w.heap.size, 0, none⟩ = some (.slice A0 es.length c0) := (blk_cell (blk_below HX.out h2.out) 0).trans rfl; have hx1 : w1.cell? ⟨w.heap.size, 1, none⟩ = some (.slice A1 bs.length c1) := (blk_cell (blk_below HX.out h2.out) 1).trans rfl; have E1 := Aside0.mk (HE.out.below h2.out); have S1 := Aside0.mk (HBS.out.below h2.out); clear h1 h2))
  cases b with
  | false =>
    go_wp2_with ((go_at_call 15; (with_reducible refine (lives_calls _).mono ?_); rintro e w9 ⟨rfl, hb⟩; have HZ := Aside0.mk (below_step B1.out hb); clear hb))
    go_ret
    exact ⟨rfl, HZ.out⟩
  | true =>
    have HPF := Aside0.mk (may_forw HP.out)
    have HFW := Aside0.mk HPF.out.1
    have HEB := Aside0.mk HPF.out.2.1
    have HFB := Aside0.mk HPF.out.2.2
    have HES : Aside0 (es.length < 2199023255552) := ⟨by have := HEB.out; omega⟩
    go_wp2_with (first | (go_at_call 16; (with_reducible refine (walks_calls A0 A1 es bs c0 c1 w1 E1.out S1.out HFW.out HC.out HES.out).mono ?_); rintro e w2 ⟨gW, l, S, w0, rfl, h1, h2, h3, h4, h5⟩; have G1 := h1; have G2 := h2; have G3 := Aside0.mk (h3.out.below (below_alloc (Below.refl _ _) (.cells #[.slice A0 es.length c0, .slice A1 bs.length c1, .int .i64 0] 47))); have G4 : Aside0 (wts bs.length l < 1099511627776) := ⟨wts_small HFB.out HEB.out h4.out⟩; have G5 := Aside0.mk (h5.out.alloc h5.out.size (.cells #[.slice A0 es.length c0, .slice A1 bs.length c1, .int .i64 0] 47)); clear h1 h2 h3 h4 h5) | (go_at_call 17; (with_reducible refine (take_g gW w1.heap.size bs l 0 S w0 _ G1.out G3.out G5.out G4.out).mono ?_); rintro e w3 ⟨v, hs, rfl, h1, h2, h3, h4⟩; obtain ⟨A, c, rfl, hnc⟩ := h1.out.form; have R1 := h1; have R2 := h2; have R3 := h3; have R4 := h4; clear h1 h2 h3 h4 hnc))
    have hn2 : (hs.length : Int) ≤ 2000 := by have := R2.out; omega
    go_loopw [6] (fun v6 wr => ∃ i : Nat, v6 = .int .i64 (i : Int) ∧ Aside0 (1 ≤ i) ∧ Aside0 (i ≤ hs.length + 1) ∧ Aside0 (Row wr w0.heap.size 31 2 (.slice A hs.length c) hs.length (cellsH hs)) ∧ Aside0 (Below w.heap.size w wr)) (fun v6 _ => hs.length - (intOf v6).toNat)
    case atStart => exact ⟨1, by go_num, ⟨by omega⟩, ⟨by omega⟩, R1, ⟨below_step (below_step B1.out G2.out) R4.out⟩⟩
    case round =>
      obtain ⟨i, rfl, HI1, HI2, HR, HB⟩ := hrel
      have hib : (i : Int) ≤ 2001 := by have := HI2.out; omega
      by_cases hi : i < hs.length
      · obtain ⟨g, cap, cur, he, hbL, hg, hcell, hfr⟩ := HR.out.at_ (by omega)
        simp only [Value.slice.injEq, true_and] at he
        obtain ⟨rfl, rfl⟩ := he
        obtain ⟨j, hj⟩ : ∃ j, i = j + 1 := ⟨i - 1, by have := HI1.out; omega⟩
        have x1 : wr.cell? ⟨g, i * 2 + 1, none⟩ = some (.int .i64 (gh hs i).2) := (hcell _ (by omega)).trans (cellsH_at hs i _ (gh_some hi)).2
        have x2 : wr.cell? ⟨g, j * 2 + 1, none⟩ = some (.int .i64 (gh hs j).2) := (hcell _ (by omega)).trans (cellsH_at hs j _ (gh_some (by omega))).2
        have hle : (gh hs j).2 ≤ (gh hs i).2 := by rw [hj]; exact gh_rises R3.out (by omega)
        obtain ⟨p, hp⟩ : ∃ p, (gh hs i).2 = p := ⟨_, rfl⟩
        obtain ⟨q, hq⟩ : ∃ q, (gh hs j).2 = q := ⟨_, rfl⟩
        rw [hp] at x1 hle
        rw [hq] at x2 hle
        have d3 : decide (p < q) = false := decide_eq_false (by omega)
        have d3' : ¬ p < q := by omega
        have k1 : (1 : Int) ≤ (i : Int) := by omega
        have k2 : (0 : Int) ≤ (i : Int) - 1 := by omega
        have k3 : (i : Int) - 1 < (hs.length : Int) := by omega
        have k4 : ((i : Int) - 1).toNat = j := by omega
        have k5 : IntKind.i64.wrap ((i : Int) - 1) = (i : Int) - 1 := IntWalk.i64_in _ (by omega)
        have k6 : (i : Int) < (hs.length : Int) := by omega
        have d1 : decide (i < hs.length) = true := decide_eq_true hi
        clear hle hp hq hcell hg hfr hbL hj
        go_wp2
        go_still (by kernel_rfl)
        clear k2 k3 k4 k5
        go_wp2
        go_roundw
        case rel => exact ⟨i + 1, by go_num, ⟨by omega⟩, ⟨by omega⟩, ⟨HR.out.below (below_drew1 (Below.refl _ _))⟩, ⟨HB.out.drew⟩⟩
        case measure => simp [intOf]; omega
      · have d1 : decide (i < hs.length) = false := decide_eq_false hi
        go_wp2_with ((go_at_call 15; (with_reducible refine (lives_calls _).mono ?_); rintro e w9 ⟨rfl, hb⟩; have HZ := Aside0.mk (below_step HB.out hb); clear hb))
        go_ret
        exact ⟨rfl, HZ.out⟩
end Go.Proofs.Ytncbnejldlfbdaa.PHeap
