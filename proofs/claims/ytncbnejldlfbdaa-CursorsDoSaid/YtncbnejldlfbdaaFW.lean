/- A walk in memory, and what New of it leaves, of fewer than 2^41 entries. -/
import Derived.Test.YtncbnejldlfbdaaHQ
namespace Go.Proofs.Ytncbnejldlfbdaa.PHeap
open Go.RowKit Go.Proofs.YtncbnejldlfbdaaW.PrintWords Go.Proofs.YtncbnejldlfbdaaW.PrintLast Go.Proofs.YtncbnejldlfbdaaW.PrintMore
set_option linter.unusedVariables false
set_option linter.unusedSimpArgs false
/-- a slice reads as entries -/
def Ents (w : World) (A : Option Addr) (es : List Ent) : Prop := ∀ i, i < es.length → ∃ ad, A = some ad ∧ w.cell? (ad.add (i * 3)) = some (.int .i64 (gt es i).1) ∧ w.cell? (ad.add (i * 3 + 1)) = some (.int .i64 (gt es i).2.1) ∧ w.cell? (ad.add (i * 3 + 2)) = some (.int .u64 (gt es i).2.2)
theorem Ents.below {w w1 : World} {A : Option Addr} {es : List Ent} (h : Ents w A es) (hb : Below w.heap.size w w1) : Ents w1 A es := fun i hi => by
  obtain ⟨ad, e, h0, h1, h2⟩ := h i hi
  exact ⟨ad, e, pw_cell_below hb h0, pw_cell_below hb h1, pw_cell_below hb h2⟩
theorem Ents.kept {w w1 : World} {A : Option Addr} {es : List Ent} {S : Nat → Prop} (h : Ents w A es) (hk : Kept w w1 S) (hne : ∀ ad, A = some ad → ¬ S ad.block) : Ents w1 A es := fun i hi => by
  obtain ⟨ad, e, h0, h1, h2⟩ := h i hi
  have hn : ∀ j, ¬ S (ad.add j).block := fun j => by
    have : (ad.add j).block = ad.block := by unfold Addr.add; split <;> rfl
    rw [this]; exact hne ad e
  exact ⟨ad, e, cell_kept h0 hk (hn _), cell_kept h1 hk (hn _), cell_kept h2 hk (hn _)⟩
/-- A WALK at gW, all of whose blocks are told by S: how it opens, its entries, how many nodes were opened -/
def Wk (w : World) (base gW : Nat) (fv : Value) (l : List Ent) (n : Int) (S : Nat → Prop) : Prop :=
  ∃ gH, w.heap[gW]? = some (.cells #[fv, .pointer (some ⟨gH, 0, none⟩), .int .i64 n] 106 (0, 0)) ∧ base ≤ gW ∧ S gW ∧ Hp w base gH l S ∧ Heaped l ∧ gW ≠ gH
theorem Hp.ne {w : World} {base g gW : Nat} {l : List Ent} {S : Nat → Prop} {cs : Array Value} (h : Hp w base g l S) (hg : w.heap[gW]? = some (.cells cs 106 (0, 0))) : gW ≠ g := by
  obtain ⟨vL, hg2, _⟩ := h
  exact blk_ne hg hg2 (by decide)
theorem Hp.off {w : World} {base g gW : Nat} {l : List Ent} {S : Nat → Prop} {cs : Array Value} (h : Hp w base g l S) (hg : w.heap[gW]? = some (.cells cs 106 (0, 0))) : Hp w base g l (fun k => S k ∧ k ≠ gW) := by
  have hne := h.ne hg
  obtain ⟨vL, hg2, hb, hL, h1, h2⟩ := h
  exact ⟨vL, hg2, hb, hL, ⟨h1, fun e => hne e.symm⟩, fun k hk => ⟨h2 k hk, hL.ne hg (by decide) k hk⟩⟩
section
variable {w w1 : World} {base base' gW : Nat} {fv : Value} {l : List Ent} {n : Int} {S S' : Nat → Prop}
theorem Hp.weaken {g : Nat} (h : Hp w base g l S) (hb : base' ≤ base) : Hp w base' g l S := by
  obtain ⟨vL, hg, hb1, hL, h1, h2⟩ := h
  exact ⟨vL, hg, Nat.le_trans hb hb1, Row.of_own (own_weaken hL.own hb), h1, h2⟩
theorem Wk.weaken (h : Wk w base gW fv l n S) (hb : base' ≤ base) : Wk w base' gW fv l n S := by
  obtain ⟨gH, hg, hb1, s, hh, ho, hne⟩ := h
  exact ⟨gH, hg, Nat.le_trans hb hb1, s, hh.weaken hb, ho, hne⟩
theorem Wk.mono (h : Wk w base gW fv l n S) (hs : ∀ k, S k → S' k) : Wk w base gW fv l n S' := by
  obtain ⟨gH, hg, hb, s, hh, ho, hne⟩ := h
  exact ⟨gH, hg, hb, hs _ s, hh.mono hs, ho, hne⟩
theorem Wk.bound (h : Wk w base gW fv l n S) : Wk w base gW fv l n (fun k => S k ∧ k < w.heap.size) := by
  obtain ⟨gH, hg, hb, s, hh, ho, hne⟩ := h
  exact ⟨gH, hg, hb, ⟨s, blk_lt hg⟩, hh.bound, ho, hne⟩
theorem Wk.move (h : Wk w base gW fv l n S) (hm : ∀ k, S k → k < w.heap.size → w1.heap[k]? = w.heap[k]?) : Wk w1 base gW fv l n S := by
  obtain ⟨gH, hg, hb, s, hh, ho, hne⟩ := h
  exact ⟨gH, (hm gW s (blk_lt hg)).trans hg, hb, s, hh.move hm, ho, hne⟩
theorem Wk.below (h : Wk w base gW fv l n S) (hb : Below w.heap.size w w1) : Wk w1 base gW fv l n S := h.move (fun k _ hk => hb.block k hk)
theorem Wk.lt (h : Wk w base gW fv l n S) : gW < w.heap.size := by
  obtain ⟨gH, hg, _⟩ := h
  exact blk_lt hg
end
theorem take_snoc {l : List Ent} {n : Nat} (h : n < l.length) : l.take (n + 1) = l.take n ++ [gt l n] := by
  rw [List.take_succ_eq_append_getElem h, gt_eq h]
theorem hnew_calls (w : World) : Calls Try.prog 53 #[.func (.func 54) #[] #[]] w fun e w' => e = .returned (.pointer (some ⟨w.heap.size, 0, none⟩)) ∧ w' = w.alloc (.cells #[.func (.func 54) #[] #[], .slice none 0 0] 119) := by
  have hu119 := Try.underlying119
  go_enter Try.func53, Try.ntmps53
  go_wp2
  go_ret
  exact ⟨rfl, rfl⟩
set_option maxHeartbeats 8000000 in
set_option maxRecDepth 1000000 in
theorem new_nil (A : Option Addr) (es : List Ent) (c : Nat) (w : World) (hA : Ents w A es) (hc : es.length ≤ c) (hn : es.length < 2199023255552) :
    Calls Try.prog 40 #[.nilFunc, .slice A es.length c] w fun e w' => ∃ gW l, e = .returned (.pointer (some ⟨gW, 0, none⟩)) ∧ Aside0 (Wk w' w.heap.size gW .nilFunc l 0 (fun k => w.heap.size ≤ k)) ∧ Aside0 (l.Perm es) ∧ Aside0 (Below w.heap.size w w') := by
  have hu98 := Try.underlying98
  have hu106 := Try.underlying106
  have hu119 := Try.underlying119
  have HA := Aside0.mk hA
  have HN := Aside0.mk hn
  have hcb : (es.length : Int) ≤ 2199023255552 := by omega
  have h1 := blk_new w (.cells #[.func (.func 54) #[] #[], .slice none 0 0] 119)
  have HB0 := Aside0.mk (below_alloc (below_alloc (Below.refl w.heap.size w) (.cells #[.func (.func 54) #[] #[], .slice none 0 0] 119)) (.cells #[.nilFunc, .pointer (some ⟨w.heap.size, 0, none⟩), .int .i64 0] 106))
  have HW0 : Aside0 (Wk ((w.alloc (.cells #[.func (.func 54) #[] #[], .slice none 0 0] 119)).alloc (.cells #[.nilFunc, .pointer (some ⟨w.heap.size, 0, none⟩), .int .i64 0] 106)) w.heap.size (w.heap.size + 1) .nilFunc [] 0 (fun k => w.heap.size ≤ k)) := ⟨by
    refine ⟨w.heap.size, by simpa using blk_new (w.alloc (.cells #[.func (.func 54) #[] #[], .slice none 0 0] 119)) (.cells #[.nilFunc, .pointer (some ⟨w.heap.size, 0, none⟩), .int .i64 0] 106), by omega, by omega, ⟨.slice none 0 0, blk_alloc h1 _, Nat.le_refl _, Row.nil _ _ _ _, Nat.le_refl _, fun k hk => by simp [Value.ownBlock] at hk⟩, fun j h0 hj => by simp at hj, by omega⟩⟩
  clear hA hn hc h1
  go_enter Try.func40, Try.ntmps40
  go_wp2_with ((go_at_call 53; (with_reducible refine (hnew_calls _).mono ?_); rintro e w' ⟨rfl, rfl⟩))


  go_loopw [14] (fun v14 wr => ∃ (n : Nat) (l' : List Ent), v14 = .int .i64 (n : Int) ∧ Aside0 (n ≤ es.length) ∧ Aside0 (Wk wr w.heap.size (w.heap.size + 1) .nilFunc l' 0 (fun k => w.heap.size ≤ k)) ∧ Aside0 (l'.Perm (es.take n)) ∧ Aside0 (Below w.heap.size w wr)) (fun v _ => es.length - (intOf v).toNat)
  case atStart => exact ⟨0, [], rfl, ⟨Nat.zero_le _⟩, HW0, ⟨by simp⟩, HB0⟩
  case round =>
    clear HW0 HB0
    obtain ⟨n, l', rfl, HL, HW, HP, HB⟩ := hrel
    by_cases hlt : n < es.length
    · obtain ⟨ad, rfl, x0, x1, x2⟩ := (HA.out.below HB.out) n hlt
      rw [add_field _ _ 1 (by omega)] at x1
      rw [add_field _ _ 2 (by omega)] at x2
      obtain ⟨gH, hg, hbW, s, hh, ho, hne⟩ := HW.out
      have HX1 := blk_alloc hg (.cells #[.int .i64 (gt es n).1, .int .i64 (gt es n).2.1, .int .u64 (gt es n).2.2] 98)
      have hc1 : (wr.alloc (.cells #[.int .i64 (gt es n).1, .int .i64 (gt es n).2.1, .int .u64 (gt es n).2.2] 98)).cell? ⟨w.heap.size + 1, 1, none⟩ = some (.pointer (some ⟨gH, 0, none⟩)) := (blk_cell HX1 1).trans rfl
      have HX2 := blk_new wr (.cells #[.int .i64 (gt es n).1, .int .i64 (gt es n).2.1, .int .u64 (gt es n).2.2] 98)
      have hy0 : (wr.alloc (.cells #[.int .i64 (gt es n).1, .int .i64 (gt es n).2.1, .int .u64 (gt es n).2.2] 98)).cell? ⟨wr.heap.size, 0, none⟩ = some (.int .i64 (gt es n).1) := (blk_cell HX2 0).trans rfl
      have hy1 : (wr.alloc (.cells #[.int .i64 (gt es n).1, .int .i64 (gt es n).2.1, .int .u64 (gt es n).2.2] 98)).cell? ⟨wr.heap.size, 1, none⟩ = some (.int .i64 (gt es n).2.1) := (blk_cell HX2 1).trans rfl
      have hy2 : (wr.alloc (.cells #[.int .i64 (gt es n).1, .int .i64 (gt es n).2.1, .int .u64 (gt es n).2.2] 98)).cell? ⟨wr.heap.size, 2, none⟩ = some (.int .u64 (gt es n).2.2) := (blk_cell HX2 2).trans rfl
      have hbA := below_alloc (Below.refl wr.heap.size wr) (.cells #[.int .i64 (gt es n).1, .int .i64 (gt es n).2.1, .int .u64 (gt es n).2.2] 98)
      have HG := Aside0.mk HX1
      have HH := Aside0.mk ((hh.off hg).below hbA)
      have HO := Aside0.mk ho
      have HNE := Aside0.mk hne
      have HS : Aside0 (w.heap.size ≤ wr.heap.size) := ⟨HB.out.size⟩
      have BA := Aside0.mk (HB.out.alloc HS.out (.cells #[.int .i64 (gt es n).1, .int .i64 (gt es n).2.1, .int .u64 (gt es n).2.2] 98))
      have BS : Aside0 (w.heap.size ≤ (wr.alloc (.cells #[.int .i64 (gt es n).1, .int .i64 (gt es n).2.1, .int .u64 (gt es n).2.2] 98)).drew.heap.size) := ⟨by simp; have := HS.out; omega⟩
      have HLN : Aside0 (l'.length < 4398046511104) := ⟨by have := HP.out.length_eq; rw [List.length_take] at this; have := HN.out; omega⟩
      have hnb : (n : Int) < 2199023255552 := by have := HN.out; omega
      have c1 : decide (n < es.length) = true := decide_eq_true hlt
      have HT := Aside0.mk (take_snoc hlt)
      clear HX1 HX2 hh ho hne hbA s hg hbW
      have HWS : Aside0 (wr.heap.size ≤ (wr.alloc (.cells #[.int .i64 (gt es n).1, .int .i64 (gt es n).2.1, .int .u64 (gt es n).2.2] 98)).heap.size) := ⟨by simp⟩
      go_wp2
      generalize (wr.alloc (.cells #[.int .i64 (gt es n).1, .int .i64 (gt es n).2.1, .int .u64 (gt es n).2.2] 98)) = W at *
      go_still_tail 5, (by kernel_rfl)
      go_wp2_with ((go_at_call 55; (with_reducible refine (push_calls gH w.heap.size l' (fun k => w.heap.size ≤ k ∧ k ≠ w.heap.size + 1) (gt es n) w _ HH.out.drew BA.out.drew BS.out HO.out HLN.out).mono ?_); rintro e w2 ⟨rfl, l2, h1, h2, h3, h4, h5⟩))
      go_roundw
      case rel => exact ⟨n + 1, l2, by go_num, ⟨by omega⟩, ⟨⟨gH, blk_kept HG.out h5.out (fun h => h.2 rfl), by omega, by omega, h1.out.mono (fun k hk => hk.elim (fun h => h.1) (fun h => Nat.le_trans HS.out (Nat.le_trans HWS.out h))), h2.out, HNE.out⟩⟩, ⟨by rw [HT.out]; exact h3.out.trans ((HP.out.cons _).trans (List.perm_append_comm (l₁ := [gt es n])))⟩, ⟨h4.out⟩⟩
      case measure => simp [intOf]; omega
    · have hl := HL.out
      obtain rfl : n = es.length := by omega
      have HP2 : Aside0 (l'.Perm es) := ⟨by have := HP.out; rwa [List.take_length] at this⟩
      go_wp2
      go_ret
      exact ⟨_, l', rfl, HW, HP2, HB⟩
set_option maxHeartbeats 8000000 in
set_option maxRecDepth 1000000 in
theorem new_fn (gG : Nat) (A : Option Addr) (es : List Ent) (c : Nat) (w : World) (hA : Ents w A es) (hc : es.length ≤ c) (hn : es.length < 2199023255552) :
    Calls Try.prog 40 #[.func (.func 41) #[] #[.pointer (some ⟨gG, 0, none⟩)], .slice A es.length c] w fun e w' => ∃ gW l, e = .returned (.pointer (some ⟨gW, 0, none⟩)) ∧ Aside0 (Wk w' w.heap.size gW (.func (.func 41) #[] #[.pointer (some ⟨gG, 0, none⟩)]) l 0 (fun k => w.heap.size ≤ k)) ∧ Aside0 (l.Perm es) ∧ Aside0 (Below w.heap.size w w') := by
  have hu98 := Try.underlying98
  have hu106 := Try.underlying106
  have hu119 := Try.underlying119
  have HA := Aside0.mk hA
  have HN := Aside0.mk hn
  have hcb : (es.length : Int) ≤ 2199023255552 := by omega
  have h1 := blk_new w (.cells #[.func (.func 54) #[] #[], .slice none 0 0] 119)
  have HB0 := Aside0.mk (below_alloc (below_alloc (Below.refl w.heap.size w) (.cells #[.func (.func 54) #[] #[], .slice none 0 0] 119)) (.cells #[.func (.func 41) #[] #[.pointer (some ⟨gG, 0, none⟩)], .pointer (some ⟨w.heap.size, 0, none⟩), .int .i64 0] 106))
  have HW0 : Aside0 (Wk ((w.alloc (.cells #[.func (.func 54) #[] #[], .slice none 0 0] 119)).alloc (.cells #[.func (.func 41) #[] #[.pointer (some ⟨gG, 0, none⟩)], .pointer (some ⟨w.heap.size, 0, none⟩), .int .i64 0] 106)) w.heap.size (w.heap.size + 1) (.func (.func 41) #[] #[.pointer (some ⟨gG, 0, none⟩)]) [] 0 (fun k => w.heap.size ≤ k)) := ⟨by
    refine ⟨w.heap.size, by simpa using blk_new (w.alloc (.cells #[.func (.func 54) #[] #[], .slice none 0 0] 119)) (.cells #[.func (.func 41) #[] #[.pointer (some ⟨gG, 0, none⟩)], .pointer (some ⟨w.heap.size, 0, none⟩), .int .i64 0] 106), by omega, by omega, ⟨.slice none 0 0, blk_alloc h1 _, Nat.le_refl _, Row.nil _ _ _ _, Nat.le_refl _, fun k hk => by simp [Value.ownBlock] at hk⟩, fun j h0 hj => by simp at hj, by omega⟩⟩
  clear hA hn hc h1
  go_enter Try.func40, Try.ntmps40
  go_wp2_with ((go_at_call 53; (with_reducible refine (hnew_calls _).mono ?_); rintro e w' ⟨rfl, rfl⟩))


  go_loopw [14] (fun v14 wr => ∃ (n : Nat) (l' : List Ent), v14 = .int .i64 (n : Int) ∧ Aside0 (n ≤ es.length) ∧ Aside0 (Wk wr w.heap.size (w.heap.size + 1) (.func (.func 41) #[] #[.pointer (some ⟨gG, 0, none⟩)]) l' 0 (fun k => w.heap.size ≤ k)) ∧ Aside0 (l'.Perm (es.take n)) ∧ Aside0 (Below w.heap.size w wr)) (fun v _ => es.length - (intOf v).toNat)
  case atStart => exact ⟨0, [], rfl, ⟨Nat.zero_le _⟩, HW0, ⟨by simp⟩, HB0⟩
  case round =>
    clear HW0 HB0
    obtain ⟨n, l', rfl, HL, HW, HP, HB⟩ := hrel
    by_cases hlt : n < es.length
    · obtain ⟨ad, rfl, x0, x1, x2⟩ := (HA.out.below HB.out) n hlt
      rw [add_field _ _ 1 (by omega)] at x1
      rw [add_field _ _ 2 (by omega)] at x2
      obtain ⟨gH, hg, hbW, s, hh, ho, hne⟩ := HW.out
      have HX1 := blk_alloc hg (.cells #[.int .i64 (gt es n).1, .int .i64 (gt es n).2.1, .int .u64 (gt es n).2.2] 98)
      have hc1 : (wr.alloc (.cells #[.int .i64 (gt es n).1, .int .i64 (gt es n).2.1, .int .u64 (gt es n).2.2] 98)).cell? ⟨w.heap.size + 1, 1, none⟩ = some (.pointer (some ⟨gH, 0, none⟩)) := (blk_cell HX1 1).trans rfl
      have HX2 := blk_new wr (.cells #[.int .i64 (gt es n).1, .int .i64 (gt es n).2.1, .int .u64 (gt es n).2.2] 98)
      have hy0 : (wr.alloc (.cells #[.int .i64 (gt es n).1, .int .i64 (gt es n).2.1, .int .u64 (gt es n).2.2] 98)).cell? ⟨wr.heap.size, 0, none⟩ = some (.int .i64 (gt es n).1) := (blk_cell HX2 0).trans rfl
      have hy1 : (wr.alloc (.cells #[.int .i64 (gt es n).1, .int .i64 (gt es n).2.1, .int .u64 (gt es n).2.2] 98)).cell? ⟨wr.heap.size, 1, none⟩ = some (.int .i64 (gt es n).2.1) := (blk_cell HX2 1).trans rfl
      have hy2 : (wr.alloc (.cells #[.int .i64 (gt es n).1, .int .i64 (gt es n).2.1, .int .u64 (gt es n).2.2] 98)).cell? ⟨wr.heap.size, 2, none⟩ = some (.int .u64 (gt es n).2.2) := (blk_cell HX2 2).trans rfl
      have hbA := below_alloc (Below.refl wr.heap.size wr) (.cells #[.int .i64 (gt es n).1, .int .i64 (gt es n).2.1, .int .u64 (gt es n).2.2] 98)
      have HG := Aside0.mk HX1
      have HH := Aside0.mk ((hh.off hg).below hbA)
      have HO := Aside0.mk ho
      have HNE := Aside0.mk hne
      have HS : Aside0 (w.heap.size ≤ wr.heap.size) := ⟨HB.out.size⟩
      have BA := Aside0.mk (HB.out.alloc HS.out (.cells #[.int .i64 (gt es n).1, .int .i64 (gt es n).2.1, .int .u64 (gt es n).2.2] 98))
      have BS : Aside0 (w.heap.size ≤ (wr.alloc (.cells #[.int .i64 (gt es n).1, .int .i64 (gt es n).2.1, .int .u64 (gt es n).2.2] 98)).drew.heap.size) := ⟨by simp; have := HS.out; omega⟩
      have HLN : Aside0 (l'.length < 4398046511104) := ⟨by have := HP.out.length_eq; rw [List.length_take] at this; have := HN.out; omega⟩
      have hnb : (n : Int) < 2199023255552 := by have := HN.out; omega
      have c1 : decide (n < es.length) = true := decide_eq_true hlt
      have HT := Aside0.mk (take_snoc hlt)
      clear HX1 HX2 hh ho hne hbA s hg hbW
      have HWS : Aside0 (wr.heap.size ≤ (wr.alloc (.cells #[.int .i64 (gt es n).1, .int .i64 (gt es n).2.1, .int .u64 (gt es n).2.2] 98)).heap.size) := ⟨by simp⟩
      go_wp2
      generalize (wr.alloc (.cells #[.int .i64 (gt es n).1, .int .i64 (gt es n).2.1, .int .u64 (gt es n).2.2] 98)) = W at *
      go_still_tail 5, (by kernel_rfl)
      go_wp2_with ((go_at_call 55; (with_reducible refine (push_calls gH w.heap.size l' (fun k => w.heap.size ≤ k ∧ k ≠ w.heap.size + 1) (gt es n) w _ HH.out.drew BA.out.drew BS.out HO.out HLN.out).mono ?_); rintro e w2 ⟨rfl, l2, h1, h2, h3, h4, h5⟩))
      go_roundw
      case rel => exact ⟨n + 1, l2, by go_num, ⟨by omega⟩, ⟨⟨gH, blk_kept HG.out h5.out (fun h => h.2 rfl), by omega, by omega, h1.out.mono (fun k hk => hk.elim (fun h => h.1) (fun h => Nat.le_trans HS.out (Nat.le_trans HWS.out h))), h2.out, HNE.out⟩⟩, ⟨by rw [HT.out]; exact h3.out.trans ((HP.out.cons _).trans (List.perm_append_comm (l₁ := [gt es n])))⟩, ⟨h4.out⟩⟩
      case measure => simp [intOf]; omega
    · have hl := HL.out
      obtain rfl : n = es.length := by omega
      have HP2 : Aside0 (l'.Perm es) := ⟨by have := HP.out; rwa [List.take_length] at this⟩
      go_wp2
      go_ret
      exact ⟨_, l', rfl, HW, HP2, HB⟩
end Go.Proofs.Ytncbnejldlfbdaa.PHeap
