/- What Put, Cut and Set of an arena leave, and that nothing but the arena's own blocks turns, where slots are fewer than 2^43. -/
import Derived.Test.YtlhoikcdjpnnfaaAG
namespace Go.Proofs.Ytlhoikcdjpnnfaa.PArena
open Go.RowKit Go.Proofs.YtlhoikcdjpnnfaaW.PrintWords Go.Proofs.YtlhoikcdjpnnfaaW.PrintLast Go.Proofs.YtlhoikcdjpnnfaaW.PrintMore
set_option linter.unusedVariables false
set_option linter.unusedSimpArgs false
/-- an arena, all of whose blocks are told by S -/
def ArS (w : World) (base g : Nat) (sl : List Slot) (fr : List Int) (S : Nat → Prop) : Prop :=
  ∃ vL vF, w.heap[g]? = some (.cells #[vL, vF] 59 (0, 0)) ∧ base ≤ g ∧ Row w base 61 2 vL sl.length (cells2 sl) ∧ Row w base 3 1 vF fr.length (nums .i64 fr) ∧ S g ∧ (∀ k, vL.ownBlock = some k → S k) ∧ (∀ k, vF.ownBlock = some k → S k)
section
variable {w w1 : World} {base g : Nat} {sl : List Slot} {fr : List Int} {S S' : Nat → Prop}
theorem ArS.ar (h : ArS w base g sl fr S) : Ar w base g sl fr := by
  obtain ⟨vL, vF, hg, hb, hL, hF, _⟩ := h
  exact ⟨vL, vF, hg, hb, hL, hF⟩
theorem ArS.mono (h : ArS w base g sl fr S) (hs : ∀ k, S k → S' k) : ArS w base g sl fr S' := by
  obtain ⟨vL, vF, hg, hb, hL, hF, h1, h2, h3⟩ := h
  exact ⟨vL, vF, hg, hb, hL, hF, hs _ h1, fun k hk => hs _ (h2 k hk), fun k hk => hs _ (h3 k hk)⟩
theorem ArS.bound (h : ArS w base g sl fr S) : ArS w base g sl fr (fun k => S k ∧ k < w.heap.size) := by
  obtain ⟨vL, vF, hg, hb, hL, hF, h1, h2, h3⟩ := h
  exact ⟨vL, vF, hg, hb, hL, hF, ⟨h1, blk_lt hg⟩, fun k hk => ⟨h2 k hk, hL.lt k hk⟩, fun k hk => ⟨h3 k hk, hF.lt k hk⟩⟩
theorem ArS.move (h : ArS w base g sl fr S) (hm : ∀ k, S k → k < w.heap.size → w1.heap[k]? = w.heap[k]?) : ArS w1 base g sl fr S := by
  obtain ⟨vL, vF, hg, hb, hL, hF, h1, h2, h3⟩ := h
  exact ⟨vL, vF, (hm g h1 (blk_lt hg)).trans hg, hb, hL.move (fun k hk => hm k (h2 k hk) (hL.lt k hk)), hF.move (fun k hk => hm k (h3 k hk) (hF.lt k hk)), h1, h2, h3⟩
theorem ArS.below (h : ArS w base g sl fr S) (hb : Below w.heap.size w w1) : ArS w1 base g sl fr S := h.move (fun k _ hk => hb.block k hk)
theorem ArS.drew (h : ArS w base g sl fr S) : ArS w.drew base g sl fr S := h
theorem ArS.drewN (h : ArS w base g sl fr S) (m : Nat) : ArS (w.drewN m) base g sl fr S := h
theorem ArS.alloc (h : ArS w base g sl fr S) (o : Obj) : ArS (w.alloc o) base g sl fr S := h.below (below_alloc (Below.refl _ _) o)
theorem ArS.far (h : ArS w base g sl fr S) {p : Addr} (hp : ¬ S p.block) (u : Value) : ArS (w.setCell p u) base g sl fr S := h.move (fun k hk _ => Below.heap_setCell w p u k (fun e => hp (e ▸ hk)))
theorem ArS.lt (h : ArS w base g sl fr S) : g < w.heap.size := by
  obtain ⟨vL, vF, hg, _⟩ := h
  exact blk_lt hg
theorem ArS.setF {vL vF v' : Value} {fr' : List Int} (hg : w.heap[g]? = some (.cells #[vL, vF] 59 (0, 0))) (hbase : base ≤ g)
    (hL : Row w base 61 2 vL sl.length (cells2 sl)) (hF : Row w base 3 1 v' fr'.length (nums .i64 fr')) (h1 : S g) (h2 : ∀ k, vL.ownBlock = some k → S k) (h3 : ∀ k, v'.ownBlock = some k → S k) : ArS (w.setCell ⟨g, 1, none⟩ v') base g sl fr' S :=
  ⟨vL, v', by simpa using blk_set hg 1 v', hbase, hL.far (fun k hk => hL.ne hg (by decide) k hk) _, hF.far (fun k hk => hF.ne hg (by decide) k hk) _, h1, h2, h3⟩
theorem ArS.setL {vL vF v' : Value} {sl' : List Slot} (hg : w.heap[g]? = some (.cells #[vL, vF] 59 (0, 0))) (hbase : base ≤ g)
    (hL : Row w base 61 2 v' sl'.length (cells2 sl')) (hF : Row w base 3 1 vF fr.length (nums .i64 fr)) (h1 : S g) (h2 : ∀ k, v'.ownBlock = some k → S k) (h3 : ∀ k, vF.ownBlock = some k → S k) : ArS (w.setCell ⟨g, 0, none⟩ v') base g sl' fr S :=
  ⟨v', vF, by simpa using blk_set hg 0 v', hbase, hL.far (fun k hk => hL.ne hg (by decide) k hk) _, hF.far (fun k hk => hF.ne hg (by decide) k hk) _, h1, h2, h3⟩
end
theorem newS_calls (w : World) : Calls Try.prog 15 #[] w fun e w' => ∃ g, e = .returned (.pointer (some ⟨g, 0, none⟩)) ∧ ArS w' w.heap.size g [] [] (fun k => w.heap.size ≤ k ∧ k < w'.heap.size) ∧ Below w.heap.size w w' := by
  have hu59 := Try.underlying59
  have hb := below_alloc (Below.refl w.heap.size w) (.cells #[.slice none 0 0, .slice none 0 0] 59)
  have HN : Aside0 (ArS (w.alloc (.cells #[.slice none 0 0, .slice none 0 0] 59)) w.heap.size w.heap.size [] [] (fun k => w.heap.size ≤ k ∧ k < (w.alloc (.cells #[.slice none 0 0, .slice none 0 0] 59)).heap.size)) :=
    ⟨_, _, heap_alloc_new w _, Nat.le_refl _, Row.nil _ _ _ _, Row.nil _ _ _ _, ⟨Nat.le_refl _, by simp⟩, fun k hk => by simp [Value.ownBlock] at hk, fun k hk => by simp [Value.ownBlock] at hk⟩
  have HB := Aside0.mk hb
  clear hb
  go_enter Try.func15, Try.ntmps15
  go_wp2
  go_ret
  exact ⟨_, rfl, HN.out, HB.out⟩
set_option maxHeartbeats 4000000 in
theorem setS_calls (g base : Nat) (sl : List Slot) (fr : List Int) (S : Nat → Prop) (i x : Int) (w0 w : World) (h : ArS w base g sl fr S) (hB : Below base w0 w) :
    Calls Try.prog 18 #[.pointer (some ⟨g, 0, none⟩), .int .i64 i, .int .i64 x] w fun e w' => e = .returned (.bool (hasB sl i)) ∧ ArS w' base g (setB sl i x) fr S ∧ Below base w0 w' ∧ Kept w w' S := by
  have HA := Aside0.mk h.ar
  have HS := Aside0.mk h
  have HB0 := Aside0.mk hB
  have HC := Aside0.mk (fun (W : World) (hW : Ar W base g sl fr) => has_calls g base sl fr i W hW)
  obtain ⟨vL, vF, hg, hbase, hL, hF, s1, s2, s3⟩ := h
  have hc0 : w.cell? ⟨g, 0, none⟩ = some vL := blk_cell hg 0
  cases hb : hasB sl i with
  | true =>
    obtain ⟨n, y, rfl, hp⟩ := hasB_yes hb
    have h2 : n < sl.length := get_of hp
    obtain ⟨gL, cap, cur, rfl, hbL, hgL, hcell, hfr⟩ := hL.at_ (by omega)
    have hx : w.cell? ⟨gL, n * 2 + 1, none⟩ = some (.int .i64 y) := (hcell _ (by omega)).trans (cells2_at sl n _ hp).2
    have hz : w.frozen? ⟨gL, n * 2 + 1, none⟩ = false := hfr _
    have sL : S gL := s2 gL rfl
    have HA' : Aside0 (ArS (w.setCell ⟨gL, n * 2 + 1, none⟩ (.int .i64 x)) base g (setB sl (n : Int) x) fr S) := by
      refine ⟨_, vF, blk_far hg (blk_ne hg hgL (by decide)) _, hbase, ?_, hF.far (fun k hk => hF.ne hgL (by decide) k hk) _, s1, s2, s3⟩
      have e1 : setB sl (n : Int) x = sl.set n (true, x) := by simp [setB, hb]
      have e2 : cells2 (sl.set n (true, x)) = (cells2 sl).set (n * 2 + 1) (.int .i64 x) := by
        rw [cells2_set, set_same (cells2_at sl n _ hp).1]
      rw [e1, e2, List.length_set]
      exact hL.put _ _
    have HB' : Aside0 (Below base w0 (w.setCell ⟨gL, n * 2 + 1, none⟩ (.int .i64 x))) := ⟨hB.setCell hbL _⟩
    have HK : Aside0 (Kept w (w.setCell ⟨gL, n * 2 + 1, none⟩ (.int .i64 x)) S) := ⟨(Kept.refl w S).setCell (.inl sL) _⟩
    have HB := Aside0.mk hb
    clear hcell hg hgL hL hF hp hfr hbL hb hB s1 s2 s3 sL
    go_enter Try.func18, Try.ntmps18
    go_wp2_with ((go_at_call 30; (with_reducible refine (HC.out _ HA.out).mono ?_); rintro e w' ⟨rfl, rfl⟩; rw [HB.out]))
    go_ret
    exact ⟨rfl, HA'.out, HB'.out, HK.out⟩
  | false =>
    have hr : Aside0 (setB sl i x = sl) := ⟨by simp [setB, hb]⟩
    have HB := Aside0.mk hb
    clear hg hL hF hb hB s1 s2 s3
    rw [hr.out]
    clear hr
    go_enter Try.func18, Try.ntmps18
    go_wp2_with ((go_at_call 30; (with_reducible refine (HC.out _ HA.out).mono ?_); rintro e w' ⟨rfl, rfl⟩; rw [HB.out]))
    go_ret
    exact ⟨rfl, HS.out, HB0.out, Kept.refl _ _⟩
set_option maxHeartbeats 4000000 in
theorem cutS_calls (g base : Nat) (sl : List Slot) (fr : List Int) (S : Nat → Prop) (i : Int) (w0 w : World) (h : ArS w base g sl fr S) (hB : Below base w0 w) (hbw : base ≤ w.heap.size) (hf : fr.length < 17592186044416) :
    Calls Try.prog 17 #[.pointer (some ⟨g, 0, none⟩), .int .i64 i] w fun e w' => e = .returned (.bool (hasB sl i)) ∧ ArS w' base g (cutS sl i) (cutF sl fr i) (fun k => S k ∨ w.heap.size ≤ k) ∧ Below base w0 w' ∧ Kept w w' S := by
  have HA := Aside0.mk h.ar
  have HS := Aside0.mk h
  have HB0 := Aside0.mk hB
  have HC := Aside0.mk (fun (W : World) (hW : Ar W base g sl fr) => has_calls g base sl fr i W hW)
  obtain ⟨vL, vF, hg, hbase, hL, hF, s1, s2, s3⟩ := h
  have hc0 : w.cell? ⟨g, 0, none⟩ = some vL := blk_cell hg 0
  have hc1 : w.cell? ⟨g, 1, none⟩ = some vF := blk_cell hg 1
  cases hb : hasB sl i with
  | true =>
    obtain ⟨n, y, rfl, hp⟩ := hasB_yes hb
    have h2 : n < sl.length := get_of hp
    obtain ⟨gL, cap, cur, rfl, hbL, hgL, hcell, hfr⟩ := hL.at_ (by omega)
    have hx0 : w.cell? ⟨gL, n * 2, none⟩ = some (.bool true) := (hcell _ (by omega)).trans (cells2_at sl n _ hp).1
    have hx : w.cell? ⟨gL, n * 2 + 1, none⟩ = some (.int .i64 y) := (hcell _ (by omega)).trans (cells2_at sl n _ hp).2
    have hz0 : w.frozen? ⟨gL, n * 2, none⟩ = false := hfr _
    have hz : w.frozen? ⟨gL, n * 2 + 1, none⟩ = false := hfr _
    have hne : g ≠ gL := blk_ne hg hgL (by decide)
    have sL : S gL := s2 gL rfl
    obtain ⟨A, c, rfl, hnc⟩ := hF.form
    have e1 : cutS sl (n : Int) = sl.set n (false, 0) := by simp [cutS, hb]
    have e2 : cutF sl fr (n : Int) = fr ++ [(n : Int)] := by simp [cutF, hb]
    have hsz : ((w.setCell ⟨gL, n * 2, none⟩ (.bool false)).setCell ⟨gL, n * 2 + 1, none⟩ (.int .i64 0)).heap.size = w.heap.size := by simp [World.setCell]
    have G2 := Aside0.mk (blk_alloc (blk_far (blk_far hg (p := ⟨gL, n * 2, none⟩) hne (.bool false)) (p := ⟨gL, n * 2 + 1, none⟩) hne (.int .i64 0)) (.cells #[.int .i64 (n : Int)] 3))
    have L2 := Aside0.mk ((hL.two n (false, 0)).below (below_alloc (Below.refl _ _) (.cells #[.int .i64 (n : Int)] 3)))
    have F2 := Aside0.mk (((hF.far (p := ⟨gL, n * 2, none⟩) (fun k hk => hF.ne hgL (by decide) k hk) (.bool false)).far (p := ⟨gL, n * 2 + 1, none⟩) (fun k hk => hF.ne hgL (by decide) k hk) (.int .i64 0)).below (below_alloc (Below.refl _ _) (.cells #[.int .i64 (n : Int)] 3)))
    have B2 := Aside0.mk (((hB.setCell (p := ⟨gL, n * 2, none⟩) hbL (.bool false)).setCell (p := ⟨gL, n * 2 + 1, none⟩) hbL (.int .i64 0)).alloc (by rw [hsz]; exact hbw) (.cells #[.int .i64 (n : Int)] 3))
    have K2 := Aside0.mk ((((Kept.refl w S).setCell (p := ⟨gL, n * 2, none⟩) (.inl sL) (.bool false)).setCell (p := ⟨gL, n * 2 + 1, none⟩) (.inl sL) (.int .i64 0)).alloc (.cells #[.int .i64 (n : Int)] 3))
    have N2 : Aside0 (∀ j u, [Value.int .i64 (n : Int)][j]? = some u → (((w.setCell ⟨gL, n * 2, none⟩ (.bool false)).setCell ⟨gL, n * 2 + 1, none⟩ (.int .i64 0)).alloc (.cells #[.int .i64 (n : Int)] 3)).cell? ((⟨w.heap.size, 0, none⟩ : Addr).add j) = some u) := ⟨fun j u hj => by
      rw [add_plain, ← hsz]
      refine (blk_cell (blk_new _ _) j).trans ?_
      rw [← hj]; simp⟩
    have S2 : Aside0 (base ≤ (((w.setCell ⟨gL, n * 2, none⟩ (.bool false)).setCell ⟨gL, n * 2 + 1, none⟩ (.int .i64 0)).alloc (.cells #[.int .i64 (n : Int)] 3)).heap.size) := ⟨by simp [World.setCell]; omega⟩
    have Z2 : Aside0 (w.heap.size ≤ (((w.setCell ⟨gL, n * 2, none⟩ (.bool false)).setCell ⟨gL, n * 2 + 1, none⟩ (.int .i64 0)).alloc (.cells #[.int .i64 (n : Int)] 3)).heap.size) := ⟨by simp [World.setCell]⟩
    have HB := Aside0.mk hb
    have HM := Aside0.mk hf
    have HG := Aside0.mk hbase
    have E1 := Aside0.mk e1
    have E2 := Aside0.mk e2
    have T1 := Aside0.mk s1
    have T2 := Aside0.mk s2
    have T3 := Aside0.mk s3
    clear hcell hg hgL hL hF hp hfr hbL hB hb hsz e1 e2 hf hbase hbw s1 s2 s3 sL
    go_enter Try.func17, Try.ntmps17
    go_wp2_with (first | (go_at_call 30; (with_reducible refine (HC.out _ HA.out).mono ?_); rintro e w' ⟨rfl, rfl⟩; rw [HB.out]) | ((with_reducible refine gate_builtin (b := .append) (xs := #[.tmp 20, .tmp 22]) rfl ?_); refine Row.append base rfl (.tmp 20) (.tmp 22) 22 3 (.int .i64 0) 1 8 rfl Try.underlying22 info3' rfl (by decide) (.slice A fr.length c) fr.length (nums .i64 fr) ⟨w.heap.size, 0, none⟩ 1 [.int .i64 (n : Int)] rfl rfl rfl N2.out (by simp [Value.oneCell']) F2.out B2.out S2.out (by have := HM.out; simp only [maxLen]; omega) (by have := HM.out; omega) ?_; intro v' w' hr hb1 hgr hat; obtain ⟨A', c', rfl, hnc'⟩ := hr.form; clear hnc'; have hG := blk_grown G2.out hgr (fun e_ => F2.out.ne G2.out (by decide) _ e_.symm rfl); have hL' := L2.out.grown hgr (fun k hk e_ => (F2.out.ne (L2.out.typed k hk).2.choose_spec (by decide) k e_.symm) rfl); have hcg := blk_cell hG 1; have hfz := blk_frozen hG 1; have R3 := Aside0.mk hr; have B3 := Aside0.mk hb1; have G3 := Aside0.mk hG; have L3 := Aside0.mk hL'; have K3 := Aside0.mk (Kept.of_grown hgr K2.out (fun k hk => .inl (T3.out k hk))); have T4 : Aside0 (∀ k, (Value.slice A' (fr.length + 1) c').ownBlock = some k → S k ∨ w.heap.size ≤ k) := ⟨fun k hk => hat.elim (fun e_ => .inl (T3.out k (e_.symm.trans hk))) (fun ⟨b, e_, hb_⟩ => .inr (Nat.le_trans Z2.out (by have := Option.some.inj (e_.symm.trans hk); omega)))⟩; clear hr hb1 hgr hat hG hL'))
    go_ret
    refine ⟨rfl, ?_, B3.out.setCell HG.out _, K3.out.setCell (.inl T1.out) _⟩
    rw [E1.out, E2.out]
    refine ArS.setF G3.out HG.out ?_ ?_ (.inl T1.out) (fun k hk => .inl (T2.out k hk)) T4.out
    · rw [List.length_set]; exact L3.out
    · rw [List.length_append, nums_append]; exact R3.out
  | false =>
    have e1 : Aside0 (cutS sl i = sl) := ⟨by simp [cutS, hb]⟩
    have e2 : Aside0 (cutF sl fr i = fr) := ⟨by simp [cutF, hb]⟩
    have HB := Aside0.mk hb
    clear hg hL hF hb hB s1 s2 s3
    rw [e1.out, e2.out]
    clear e1 e2
    go_enter Try.func17, Try.ntmps17
    go_wp2_with ((go_at_call 30; (with_reducible refine (HC.out _ HA.out).mono ?_); rintro e w' ⟨rfl, rfl⟩; rw [HB.out]))
    go_ret
    exact ⟨rfl, HS.out.mono (fun k hk => .inl hk), HB0.out, Kept.refl _ _⟩
set_option maxHeartbeats 4000000 in
/-- nothing is free: a new slot -/
theorem putS_new (g base : Nat) (sl : List Slot) (S : Nat → Prop) (x : Int) (w0 w : World) (h : ArS w base g sl [] S) (hB : Below base w0 w) (hbw : base ≤ w.heap.size) (hs : sl.length < 8796093022208) :
    Calls Try.prog 16 #[.pointer (some ⟨g, 0, none⟩), .int .i64 x] w fun e w' => e = .returned (.int .i64 (sl.length : Int)) ∧ ArS w' base g (sl ++ [(true, x)]) [] (fun k => S k ∨ w.heap.size ≤ k) ∧ Below base w0 w' ∧ Kept w w' S := by
  obtain ⟨vL, vF, hg, hbase, hL, hF, s1, s2, s3⟩ := h
  have hc0 : w.cell? ⟨g, 0, none⟩ = some vL := blk_cell hg 0
  have hc1 : w.cell? ⟨g, 1, none⟩ = some vF := blk_cell hg 1
  obtain ⟨A, c, rfl, hnc⟩ := hL.form
  obtain ⟨A1, c1, rfl, hnc1⟩ := hF.form
  have G2 := Aside0.mk (blk_alloc hg (.cells #[.bool true, .int .i64 x] 61))
  have L2 := Aside0.mk (hL.below (below_alloc (Below.refl _ _) (.cells #[.bool true, .int .i64 x] 61)))
  have F2 := Aside0.mk (hF.below (below_alloc (Below.refl _ _) (.cells #[.bool true, .int .i64 x] 61)))
  have B2 := Aside0.mk (hB.alloc hbw (.cells #[.bool true, .int .i64 x] 61))
  have K2 := Aside0.mk ((Kept.refl w S).alloc (.cells #[.bool true, .int .i64 x] 61))
  have N2 : Aside0 (∀ j u, [Value.bool true, .int .i64 x][j]? = some u → (w.alloc (.cells #[.bool true, .int .i64 x] 61)).cell? ((⟨w.heap.size, 0, none⟩ : Addr).add j) = some u) := ⟨fun j u hj => by
    rw [add_plain]
    refine (blk_cell (blk_new _ _) j).trans ?_
    rw [← hj]; simp⟩
  have S2 : Aside0 (base ≤ (w.alloc (.cells #[.bool true, .int .i64 x] 61)).heap.size) := ⟨by simp; omega⟩
  have Z2 : Aside0 (w.heap.size ≤ (w.alloc (.cells #[.bool true, .int .i64 x] 61)).heap.size) := ⟨by simp⟩
  have HM := Aside0.mk hs
  have HG := Aside0.mk hbase
  have T1 := Aside0.mk s1
  have T2 := Aside0.mk s2
  have T3 := Aside0.mk s3
  have hb62 : ((sl.length : Int) + 1) ≤ 8796093022208 := by omega
  clear hg hL hF hB hbw hs hbase hnc1 s1 s2 s3
  go_enter Try.func16, Try.ntmps16
  go_wp2_with ((with_reducible refine gate_builtin (b := .append) (xs := #[.tmp 21, .tmp 24]) rfl ?_); refine Row.append base rfl (.tmp 21) (.tmp 24) 57 61 (.agg #[.bool false, .int .i64 0]) 2 16 rfl Try.underlying57 info61' rfl (by decide) (.slice A sl.length c) sl.length (cells2 sl) ⟨w.heap.size, 0, none⟩ 1 [.bool true, .int .i64 x] rfl rfl rfl N2.out (by simp [Value.oneCell']) L2.out B2.out S2.out (by have := HM.out; simp only [maxLen]; omega) (by have := HM.out; omega) ?_; intro v' w' hr hb1 hgr hat; obtain ⟨A', c', rfl, hnc'⟩ := hr.form; clear hnc'; have hG := blk_grown G2.out hgr (fun e_ => L2.out.ne G2.out (by decide) _ e_.symm rfl); have hF' := F2.out.grown hgr (fun k hk e_ => (F2.out.ne (L2.out.typed k e_.symm).2.choose_spec (by decide) k hk) rfl); have hcg := blk_cell hG 0; have hfz := blk_frozen hG 0; have R3 := Aside0.mk hr; have B3 := Aside0.mk hb1; have G3 := Aside0.mk hG; have F3 := Aside0.mk hF'; have K3 := Aside0.mk (Kept.of_grown hgr K2.out (fun k hk => .inl (T2.out k hk))); have T4 : Aside0 (∀ k, (Value.slice A' (sl.length + 1) c').ownBlock = some k → S k ∨ w.heap.size ≤ k) := ⟨fun k hk => hat.elim (fun e_ => .inl (T2.out k (e_.symm.trans hk))) (fun ⟨b, e_, hb_⟩ => .inr (Nat.le_trans Z2.out (by have := Option.some.inj (e_.symm.trans hk); omega)))⟩; clear hr hb1 hgr hat hG hF')
  go_ret
  refine ⟨?_, ArS.setL G3.out HG.out ?_ F3.out (.inl T1.out) T4.out (fun k hk => .inl (T3.out k hk)), B3.out.setCell HG.out _, K3.out.setCell (.inl T1.out) _⟩
  · first | rfl | (congr 2; omega) | (simp; done)
  · rw [List.length_append, cells2_append]; exact R3.out
end Go.Proofs.Ytlhoikcdjpnnfaa.PArena
