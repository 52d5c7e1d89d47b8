/- What swap of a heap leaves; no condition. -/
import Derived.Test.YtncbnejldlfbdaaHB
import Derived.BigRegion
namespace Go.Proofs.Ytncbnejldlfbdaa.PHeap
open Go.RowKit Go.Proofs.YtncbnejldlfbdaaW.PrintWords Go.Proofs.YtncbnejldlfbdaaW.PrintLast Go.Proofs.YtncbnejldlfbdaaW.PrintMore
set_option linter.unusedVariables false
set_option linter.unusedSimpArgs false
/-- three cells of a block are an entry -/
def set3 (w : World) (gL i : Nat) (p : Ent) : World := ((w.setCell ⟨gL, i * 3, none⟩ (.int .i64 p.1)).setCell ⟨gL, i * 3 + 1, none⟩ (.int .i64 p.2.1)).setCell ⟨gL, i * 3 + 2, none⟩ (.int .u64 p.2.2)
/-- a heap that lies in the blocks g and gL -/
structure HpAt (w0 W0 w : World) (base g gL cap : Nat) (l : List Ent) (S : Nat → Prop) : Prop where
  hg : w.heap[g]? = some (.cells #[.func (.func 54) #[] #[], .slice (some ⟨gL, 0, none⟩) l.length cap] 119 (0, 0))
  hb : base ≤ g
  hL : Row w base 98 3 (.slice (some ⟨gL, 0, none⟩) l.length cap) l.length (cells3 l)
  s1 : S g
  s2 : S gL
  hbL : base ≤ gL
  ne : g ≠ gL
  hB : Below base w0 w
  hK : Kept W0 w S
theorem HpAt.put {w0 W0 w : World} {base g gL cap : Nat} {l : List Ent} {S : Nat → Prop} (h : HpAt w0 W0 w base g gL cap l S) (i : Nat) (p : Ent) : HpAt w0 W0 (set3 w gL i p) base g gL cap (l.set i p) S := by
  refine ⟨?_, h.hb, h.hL.three i p, h.s1, h.s2, h.hbL, h.ne, ((h.hB.setCell (p := ⟨gL, i * 3, none⟩) h.hbL _).setCell (p := ⟨gL, i * 3 + 1, none⟩) h.hbL _).setCell (p := ⟨gL, i * 3 + 2, none⟩) h.hbL _,
    ((h.hK.setCell (p := ⟨gL, i * 3, none⟩) (.inl h.s2) _).setCell (p := ⟨gL, i * 3 + 1, none⟩) (.inl h.s2) _).setCell (p := ⟨gL, i * 3 + 2, none⟩) (.inl h.s2) _⟩
  rw [List.length_set]
  exact blk_far (p := ⟨gL, i * 3 + 2, none⟩) (blk_far (p := ⟨gL, i * 3 + 1, none⟩) (blk_far (p := ⟨gL, i * 3, none⟩) h.hg h.ne _) h.ne _) h.ne _
theorem HpAt.hp {w0 W0 w : World} {base g gL cap : Nat} {l : List Ent} {S : Nat → Prop} (h : HpAt w0 W0 w base g gL cap l S) : Hp w base g l S :=
  ⟨_, h.hg, h.hb, h.hL, h.s1, fun k hk => by
    have : gL = k := by simpa [Value.ownBlock] using hk
    exact this ▸ h.s2⟩
theorem HpAt.ends {w0 W0 w : World} {base g gL cap : Nat} {l : List Ent} {S : Nat → Prop} (h : HpAt w0 W0 w base g gL cap l S) : Hp w.drew base g l S ∧ Below base w0 w.drew ∧ Kept W0 w.drew S :=
  ⟨h.hp, h.hB.drew, ⟨h.hK.1, h.hK.2⟩⟩
set_option maxHeartbeats 40000000 in
set_option maxRecDepth 1000000 in
theorem swap_calls (g base : Nat) (l : List Ent) (S : Nat → Prop) (i k : Nat) (p q : Ent) (w0 w : World) (h : Hp w base g l S) (hB : Below base w0 w) (hi : l[i]? = some p) (hk : l[k]? = some q) :
    Calls Try.prog 58 #[.pointer (some ⟨g, 0, none⟩), .int .i64 i, .int .i64 k] w fun e w' => e = .returned (.tuple #[]) ∧ Hp w' base g ((l.set i q).set k p) S ∧ Below base w0 w' ∧ Kept w w' S := by
  obtain ⟨vL, hg, hbase, hL, s1, s2⟩ := h
  have h2 : i < l.length := (List.getElem?_eq_some_iff.1 hi).1
  have h3 : k < l.length := (List.getElem?_eq_some_iff.1 hk).1
  obtain ⟨gL, cap, cur, rfl, hbL, hgL, hcell, hfr⟩ := hL.at_ (by omega)
  have hu98 := Try.underlying98
  have hu119 := Try.underlying119
  have hc1 : w.cell? ⟨g, 1, none⟩ = some (.slice (some ⟨gL, 0, none⟩) l.length cap) := blk_cell hg 1
  have a0 : w.cell? ⟨gL, i * 3, none⟩ = some (.int .i64 p.1) := (hcell _ (by omega)).trans (cells3_at l i p hi).1
  have a1 : w.cell? ⟨gL, i * 3 + 1, none⟩ = some (.int .i64 p.2.1) := (hcell _ (by omega)).trans (cells3_at l i p hi).2.1
  have a2 : w.cell? ⟨gL, i * 3 + 2, none⟩ = some (.int .u64 p.2.2) := (hcell _ (by omega)).trans (cells3_at l i p hi).2.2
  have b0 : w.cell? ⟨gL, k * 3, none⟩ = some (.int .i64 q.1) := (hcell _ (by omega)).trans (cells3_at l k q hk).1
  have b1 : w.cell? ⟨gL, k * 3 + 1, none⟩ = some (.int .i64 q.2.1) := (hcell _ (by omega)).trans (cells3_at l k q hk).2.1
  have b2 : w.cell? ⟨gL, k * 3 + 2, none⟩ = some (.int .u64 q.2.2) := (hcell _ (by omega)).trans (cells3_at l k q hk).2.2
  have z0 : ∀ j, w.frozen? ⟨gL, j, none⟩ = false := hfr
  have hne : g ≠ gL := blk_ne hg hgL (by decide)
  have hnf : gL ≠ g := hne.symm
  have HA : Aside0 (HpAt w0 w w base g gL cap l S) := ⟨⟨hg, hbase, hL, s1, s2 gL rfl, hbL, hne, hB, Kept.refl w S⟩⟩
  have HL := Aside0.mk hL
  have HG := Aside0.mk hg
  have HB := Aside0.mk hB
  have HI := Aside0.mk hi
  have HK := Aside0.mk hk
  have S1 := Aside0.mk s1
  have S2 := Aside0.mk (s2 gL rfl)
  have HX := Aside0.mk hbase
  have HY := Aside0.mk hbL
  clear hcell hg hgL hL hi hk hfr s1 s2 hB hbase hbL
  by_cases hik : i = k
  · subst hik
    obtain rfl : p = q := Option.some.inj (HI.out.symm.trans HK.out)
    clear b0 b1 b2 h3
    have HE := Aside0.mk ((HA.out.put i p).put i p).ends
    go_enter Try.func58, Try.ntmps58
    go_wp2
    go_region
    go_returns
    exact ⟨rfl, HE.out⟩
  · have HE := Aside0.mk ((HA.out.put i q).put k p).ends
    have hki : ¬ k = i := fun e => hik e.symm
    have n1 : ¬ k * 3 + 1 = i * 3 := by omega
    have n2 : ¬ k * 3 + 2 = i * 3 := by omega
    have n3 : ¬ k * 3 = i * 3 + 1 := by omega
    have n4 : ¬ k * 3 = i * 3 + 2 := by omega
    have n5 : ¬ i * 3 + 1 = k * 3 := by omega
    have n6 : ¬ i * 3 + 2 = k * 3 := by omega
    have n7 : ¬ i * 3 = k * 3 + 1 := by omega
    have n8 : ¬ i * 3 = k * 3 + 2 := by omega
    go_enter Try.func58, Try.ntmps58
    go_wp2
    go_region
    go_returns
    exact ⟨rfl, HE.out⟩
theorem swap_at (g base : Nat) (l : List Ent) (S : Nat → Prop) (i k : Nat) (w0 w : World) (h : Hp w base g l S) (hB : Below base w0 w) (hi : i < l.length) (hk : k < l.length) :
    Calls Try.prog 58 #[.pointer (some ⟨g, 0, none⟩), .int .i64 i, .int .i64 k] w fun e w' => e = .returned (.tuple #[]) ∧ Hp w' base g (swapL l i k) S ∧ Below base w0 w' ∧ Kept w w' S :=
  swap_calls g base l S i k (gt l i) (gt l k) w0 w h hB (gt_some hi) (gt_some hk)
end Go.Proofs.Ytncbnejldlfbdaa.PHeap
