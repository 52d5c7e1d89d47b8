/- What the table's functions answer and leave, of a table with its walks, and the reference's Close as a plain function; of fewer than 2^40 cursors. -/
import Derived.Test.YtncbnejldlfbdaaKG
import Derived.Test.YtncbnejldlfbdaaKD
namespace Go.Proofs.Ytncbnejldlfbdaa.PCur
open Go.RowKit Go.Proofs.YtncbnejldlfbdaaW.PrintWords Go.Proofs.YtncbnejldlfbdaaW.PrintLast Go.Proofs.YtncbnejldlfbdaaW.PrintMore
open Go.Proofs.Ytncbnejldlfbdaa.PCursorsDo
open Go.Proofs.Ytncbnejldlfbdaa.PHeap (Wk Ent kept_size gt Heaped gt_eq gt_some leE)
set_option linter.unusedVariables false
set_option linter.unusedSimpArgs false
theorem gc_eq {cs : List S86} {i : Nat} (h : i < cs.length) : gc cs i = cs[i] := by
  have := gc_some h
  rw [List.getElem?_eq_getElem h] at this
  exact (Option.some.inj this).symm
theorem close_loop (h : Int) (cs : List S86) (most last : Int) (hl : cs.length < 3300000000000) : ∀ (d i k : Nat) (acc : List S86), i + d = cs.length → d < k → acc.length ≤ i →
    waywiserref29_Close.l0 k h acc (i : Int) most last cs = some (if (acc ++ (cs.drop i).filter (fun c => decide (c.f0 ≠ h))).length = cs.length then (most, last, cs, 7) else (most, last, acc ++ (cs.drop i).filter (fun c => decide (c.f0 ≠ h)), 0)) := by
  intro d
  induction d with
  | zero =>
    intro i k acc hi hk ha
    obtain ⟨k, rfl⟩ : ∃ m, k = m + 1 := ⟨k - 1, by omega⟩
    simp only [waywiserref29_Close.l0]
    rw [if_neg (by omega), List.drop_of_length_le (by omega), List.filter_nil, List.append_nil]
    by_cases e : acc.length = cs.length
    · rw [if_pos (by omega), if_pos e]
    · rw [if_neg (by omega), if_neg e]
  | succ d ih =>
    intro i k acc hi hk ha
    obtain ⟨k, rfl⟩ : ∃ m, k = m + 1 := ⟨k - 1, by omega⟩
    have hlt : i < cs.length := by omega
    simp only [waywiserref29_Close.l0]
    rw [if_pos (by omega), if_pos (by omega)]
    have e1 : rd_T86 cs (i : Int) = cs[i] := gc_eq hlt
    rw [e1, List.drop_eq_getElem_cons hlt]
    by_cases e : cs[i].f0 = h
    · rw [if_pos e, wrap_succ (by omega), ih (i + 1) k acc (by omega) (by omega) (by omega), List.filter_cons_of_neg (by simpa using e)]
    · rw [if_neg e, if_pos (by omega), wrap_succ (by omega), ih (i + 1) k _ (by omega) (by omega) (by simp; omega), List.filter_cons_of_pos (by simpa using e)]
      rw [List.append_assoc]
      rfl
/-- the number and the cursors that Close of the reference leaves -/
theorem close_f (h : Int) (cs : List S86) (most last : Int) (hl : cs.length < 3300000000000) :
    waywiserref29_Close.f (cs.length + 1) most last cs h = some (if (cs.filter (fun c => decide (c.f0 ≠ h))).length = cs.length then (most, last, cs, 7) else (most, last, cs.filter (fun c => decide (c.f0 ≠ h)), 0)) := by
  unfold waywiserref29_Close.f
  have := close_loop h cs most last hl cs.length 0 (cs.length + 1) [] (by omega) (by omega) (by simp)
  simpa using this
/-- a reading row of hits, in whatever world keeps its memory -/
theorem F_of_C31 {w : World} {A : Option Addr} {n : Nat} {xs : List S31} (h : Kd.C k31 w A n xs) : Kd.F k31 w (fun k => k < w.heap.size) A n xs := fun W' hW => by
  obtain ⟨h1, h2, h3⟩ := h
  refine ⟨h1, h2, fun hn => ?_⟩
  obtain ⟨ad, e, hc⟩ := h3 hn
  refine ⟨ad, e, fun j p hj => ?_⟩
  obtain ⟨c, hl, hk, hcc⟩ := hc j p hj
  refine ⟨c, hl, ?_, fun i u hi => ?_⟩
  · rw [k31_open hk]; exact k31_mk W' p
  · have h5 := hcc i u hi
    have hb : (ad.add (j * k31.sz + i)).block < w.heap.size := World.block_lt_of_cell? w _ h5
    have h6 := hW _ hb hb
    simpa [World.cell?, h6] using h5
/-- how the walk's first thing and the hits' first one meet -/
theorem first_hit {l : List Ent} {x : S31} {hs : List S31} (hp : l.Perm ((x :: hs).map toE)) (ho : Heaped l) (hr : (x :: hs).Pairwise leH) : 0 < l.length ∧ gt l 0 = toE x := by
  have hl : l.length = hs.length + 1 := by simpa using hp.length_eq
  have hn : 0 < l.length := by omega
  refine ⟨hn, ?_⟩
  have hm : gt l 0 ∈ (x :: hs).map toE := hp.mem_iff.1 (by rw [gt_eq hn]; exact List.getElem_mem hn)
  obtain ⟨y, hy, e⟩ := List.mem_map.1 hm
  have hx : toE x ∈ l := hp.mem_iff.2 (by simp)
  have h1 := ho.least _ hx
  rw [← e] at h1 ⊢
  have h2 : leH x y := by
    rcases List.mem_cons.1 hy with rfl | hy
    · unfold leH; omega
    · exact (List.pairwise_cons.1 hr).1 y hy
  unfold leE toE at h1
  unfold leH at h2
  simp only at h1
  have e0 : x.f0 = y.f0 := by omega
  have e1 : x.f1 = y.f1 := by omega
  unfold toE
  rw [e0, e1]
theorem rest_hits {l l' : List Ent} {x : S31} {hs : List S31} (hp : l.Perm ((x :: hs).map toE)) (hf : gt l 0 = toE x) (hq : (gt l 0 :: l').Perm l) : l'.Perm (hs.map toE) := by
  rw [hf] at hq
  have := hq.trans hp
  rw [List.map_cons] at this
  exact List.Perm.cons_inv this
end Go.Proofs.Ytncbnejldlfbdaa.PCur
