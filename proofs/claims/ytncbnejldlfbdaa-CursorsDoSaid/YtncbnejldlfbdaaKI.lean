/- The state of the law CursorsDo between deeds, and its reading of deeds; no condition. -/
import Derived.Test.YtncbnejldlfbdaaKH
namespace Go.Proofs.Ytncbnejldlfbdaa.PCur
open Go.RowKit Go.Proofs.YtncbnejldlfbdaaW.PrintWords Go.Proofs.YtncbnejldlfbdaaW.PrintLast Go.Proofs.YtncbnejldlfbdaaW.PrintMore
open Go.Proofs.Ytncbnejldlfbdaa.PCursorsDo
open Go.Proofs.Ytncbnejldlfbdaa.PHeap (Wk Ent kept_size gt Heaped gt_eq gt_some leE)
set_option linter.unusedVariables false
set_option linter.unusedSimpArgs false
/-- a deed: its kind, handle, version, hits -/
structure Dd where
  kd : Int
  h : Int
  ver : Int
  hs : List S31
def z0d : Dd := ⟨0, 0, 0, []⟩
def gd (ds : List Dd) (j : Nat) : Dd := ds.getD j z0d
def DeedsAt (w : World) (A : Option Addr) (ds : List Dd) : Prop := ∀ j, j < ds.length → ∃ ad B c, A = some ad ∧ w.cell? (ad.add (j * 4)) = some (.int .i64 (gd ds j).kd) ∧ w.cell? ⟨(ad.add (j * 4)).block, (ad.add (j * 4)).off + 1, none⟩ = some (.int .u64 (gd ds j).h) ∧
  w.cell? ⟨(ad.add (j * 4)).block, (ad.add (j * 4)).off + 2, none⟩ = some (.int .i64 (gd ds j).ver) ∧ w.cell? ⟨(ad.add (j * 4)).block, (ad.add (j * 4)).off + 3, none⟩ = some (.slice B (gd ds j).hs.length c) ∧ Kd.C k31 w B (gd ds j).hs.length (gd ds j).hs ∧ (gd ds j).hs.length ≤ c ∧ 0 ≤ (gd ds j).h ∧ (gd ds j).h < 18446744073709551616
theorem DeedsAt.below {w w1 : World} {A : Option Addr} {ds : List Dd} (h : DeedsAt w A ds) (hb : Below w.heap.size w w1) : DeedsAt w1 A ds := fun j hj => by
  obtain ⟨ad, B, c, e, h0, h1, h2, h3, h4, h5⟩ := h j hj
  exact ⟨ad, B, c, e, pw_cell_below hb h0, pw_cell_below hb h1, pw_cell_below hb h2, pw_cell_below hb h3, Kd.C_below h4 hb, h5⟩
/-- the program's table and the reference's, both of the same cursors -/
structure St (w0 w : World) (g b r n : Nat) (most : Int) (last : Nat) (cs : List Cur) (T okR : Nat → Prop) (vL : Value) : Prop where
  ts : TS w w0.heap.size g b n most last cs T
  rh : w.heap[r]? = some (.cells #[.int .i64 most, .int .u64 (last : Int), vL] 75 (0, 0))
  vV : Kd.V k86 86 w w0.heap.size okR vL (cs.map curR)
  off : ∀ k, okR k → ¬ T k ∧ k ≠ r
  rT : ¬ T r
  rb : w0.heap.size ≤ r
  tb : ∀ k, T k → w0.heap.size ≤ k
  hB : Below w0.heap.size w0 w
section
variable {w0 w w1 : World} {g b r n : Nat} {most : Int} {last : Nat} {cs : List Cur} {T okR : Nat → Prop} {vL : Value}
theorem St.below (h : St w0 w g b r n most last cs T okR vL) (hb : Below w.heap.size w w1) : St w0 w1 g b r n most last cs T okR vL :=
  ⟨h.ts.below hb, blk_below h.rh hb, Kd.V_below h.vV hb, h.off, h.rT, h.rb, h.tb, below_then h.hB h.hB.size hb⟩
theorem St.alloc (h : St w0 w g b r n most last cs T okR vL) (o : Obj) : St w0 (w.alloc o) g b r n most last cs T okR vL := h.below (below_alloc (Below.refl _ _) o)
theorem St.drew (h : St w0 w g b r n most last cs T okR vL) : St w0 w.drew g b r n most last cs T okR vL := h.below (below_drew1 (Below.refl _ _))
/-- a store into a block of neither -/
theorem St.far (h : St w0 w g b r n most last cs T okR vL) {p : Addr} (hT : ¬ T p.block) (hR : ¬ okR p.block) (hr : p.block ≠ r) (hb : w0.heap.size ≤ p.block) (u : Value) : St w0 (w.setCell p u) g b r n most last cs T okR vL :=
  ⟨h.ts.move (by simp [World.setCell]) (fun k hk => Below.heap_setCell w p u k (fun e => hT (e ▸ hk))), blk_far h.rh (fun e => hr e.symm) u, Kd.V_far h.vV (fun k hk e => hR (e ▸ hk)) u, h.off, h.rT, h.rb, h.tb, h.hB.setCell hb u⟩
theorem St.last_lt (h : St w0 w g b r n most last cs T okR vL) : r < w.heap.size := blk_lt h.rh
theorem St.okb (h : St w0 w g b r n most last cs T okR vL) : St w0 w g b r n most last cs T (fun k => okR k ∧ k < w.heap.size) vL :=
  ⟨h.ts, h.rh, Kd.V_bound h.vV, fun k hk => h.off k hk.1, h.rT, h.rb, h.tb, h.hB⟩
end
end Go.Proofs.Ytncbnejldlfbdaa.PCur
