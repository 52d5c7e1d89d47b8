/- What down, Top and Pop of a heap answer and leave, of fewer than 2^42 entries. -/
import Derived.Test.YtncbnejldlfbdaaHF
import Derived.Test.YtncbnejldlfbdaaHP
namespace Go.Proofs.Ytncbnejldlfbdaa.PHeap
open Go.RowKit Go.Proofs.YtncbnejldlfbdaaW.PrintWords Go.Proofs.YtncbnejldlfbdaaW.PrintLast Go.Proofs.YtncbnejldlfbdaaW.PrintMore
set_option linter.unusedVariables false
set_option linter.unusedSimpArgs false
set_option maxHeartbeats 8000000 in
set_option maxRecDepth 1000000 in
theorem down_calls (g base : Nat) (l : List Ent) (S : Nat → Prop) (i : Nat) (w0 w : World) (h : Hp w base g l S) (hB : Below base w0 w) (hbw : base ≤ w.heap.size) (hi : i < l.length) (hu : DownBut l i) (hlen : l.length < 35184372088832) :
    Calls Try.prog 59 #[.pointer (some ⟨g, 0, none⟩), .int .i64 i] w fun e w' => e = .returned (.tuple #[]) ∧ ∃ l', Aside0 (Hp w' base g l' S) ∧ Aside0 (Heaped l') ∧ Aside0 (l'.Perm l) ∧ Aside0 (Below base w0 w') ∧ Aside0 (Kept w w' S) := by
  have H0 := Aside0.mk h
  have B0 := Aside0.mk hB
  have W0 := Aside0.mk hbw
  have U0 := Aside0.mk hu
  have N0 := Aside0.mk hi
  have M0 := Aside0.mk hlen
  clear h hB hbw hi hu hlen
  go_enter Try.func59, Try.ntmps59
  go_wp2_with ((go_at_call 67; (with_reducible refine (first_calls g base l S i _ H0.out N0.out M0.out).mono ?_); rintro e w1 ⟨rfl, hb⟩; have HX := Aside0.mk hb; clear hb))
  go_loopw [1, 4] (fun v1 v4 wr => ∃ (n k : Nat) (l' : List Ent), v1 = .int .i64 (n : Int) ∧ v4 = .int .i64 (k : Int) ∧ Aside0 (k = firstL l' n) ∧ Aside0 (n < l'.length) ∧ Aside0 (l'.length = l.length) ∧ Aside0 (Hp wr base g l' S) ∧ Aside0 (DownBut l' n) ∧ Aside0 (l'.Perm l) ∧ Aside0 (Below base w0 wr) ∧ Aside0 (Kept w wr S)) (fun v1 _ _ => l.length - (intOf v1).toNat)
  case atStart => exact ⟨i, _, l, rfl, rfl, ⟨rfl⟩, N0, ⟨rfl⟩, ⟨H0.out.below HX.out⟩, U0, ⟨List.Perm.refl _⟩, ⟨below_then B0.out W0.out HX.out⟩, ⟨(Kept.refl w S).below HX.out⟩⟩
  case round =>
    clear HX
    obtain ⟨n, k, l', rfl, rfl, HK1, HN, HL, HH, HU, HP, HB, HK⟩ := hrel
    have HC := firstL_cases l' n HN.out
    rw [← HK1.out] at HC
    by_cases hkn : k = n
    · have HE : Aside0 (Heaped l') := ⟨by
        rcases HC with ⟨_, h1, h2⟩ | ⟨h0, _⟩
        · exact HU.out.done h1 h2
        · exact absurd hkn h0⟩
      clear HC HK1
      subst hkn
      go_wp2
      go_returns
      exact ⟨rfl, l', HH, HE, HP, HB, HK⟩
    · obtain ⟨h0, h1, h2, h3, h4, h5, h6⟩ := HC.resolve_left (fun h => hkn h.1)
      have HE : Aside0 (DownBut (swapL l' n k) k) := ⟨HU.out.step h2 h4 h3 h5 h6⟩
      have HK2 := Aside0.mk h2
      have HK3 := Aside0.mk h1
      have HL2 : Aside0 ((swapL l' n k).length = l.length) := ⟨(swapL_length _ _ _).trans HL.out⟩
      have HP2 : Aside0 ((swapL l' n k).Perm l) := ⟨(swapL_perm HN.out h2).trans HP.out⟩
      have HN2 : Aside0 (k < (swapL l' n k).length) := ⟨by rw [swapL_length]; exact h2⟩
      have HM2 : Aside0 ((swapL l' n k).length < 35184372088832) := ⟨by rw [HL2.out]; exact M0.out⟩
      have d1 : ((k : Int) != (n : Int)) = true := by simp; omega
      have d2 : ((k : Int) == (n : Int)) = false := by simp; omega
      clear HC h0 h1 h2 h3 h4 h5 h6
      go_wp2_with (first | (go_at_call 58; (with_reducible refine (swap_at g base l' S n k w0 _ HH.out HB.out HN.out HK2.out).mono ?_); rintro e w2 ⟨rfl, hh, hb, hk⟩; have X1 := Aside0.mk hh; have X2 := Aside0.mk hb; have X3 := Aside0.mk (HK.out.then_ hk (fun _ h => .inl h)); clear hh hb hk) | (go_at_call 67; (with_reducible refine (first_calls g base (swapL l' n k) S k _ X1.out HN2.out HM2.out).mono ?_); rintro e w3 ⟨rfl, hb⟩; have HX := Aside0.mk hb; clear hb))
      go_roundw
      case rel => exact ⟨k, _, swapL l' n k, rfl, rfl, ⟨rfl⟩, HN2, HL2, ⟨X1.out.below HX.out⟩, HE, HP2, ⟨below_then X2.out (Nat.le_trans W0.out (kept_size X3.out)) HX.out⟩, ⟨X3.out.below HX.out⟩⟩
      case measure => simp [intOf]; have := HK3.out; have := HK2.out; have := HL.out; omega
set_option maxHeartbeats 8000000 in
set_option maxRecDepth 1000000 in
theorem top_yes (g base : Nat) (l : List Ent) (S : Nat → Prop) (w : World) (h : Hp w base g l S) (hn : 0 < l.length) :
    Calls Try.prog 45 #[.pointer (some ⟨g, 0, none⟩)] w fun e w' => e = .returned (.tuple #[.agg #[.int .i64 (gt l 0).1, .int .i64 (gt l 0).2.1, .int .u64 (gt l 0).2.2], .bool true]) ∧ Below w.heap.size w w' := by
  have hu98 := Try.underlying98
  have hu119 := Try.underlying119
  have hb := below_alloc (Below.refl w.heap.size w) (.cells #[.int .i64 0, .int .i64 0, .int .u64 0] 98)
  obtain ⟨gL, cap, hg, hbg, hbL, s1, s2, hne, hrow, hcells⟩ := (h.below hb).at_ hn
  obtain ⟨x0, x1, x2⟩ := hcells 0 hn
  simp only [Nat.zero_mul, Nat.zero_add] at x0 x1 x2
  have hc1 := blk_cell hg 1
  have e1 : ((l.length : Int) == 0) = false := by simp; intro e; rw [e] at hn; simp at hn
  have e2 : (l.length == 0) = false := by simp; intro e; rw [e] at hn; simp at hn
  have e3 : decide (l = []) = false := by simp; intro e; rw [e] at hn; simp at hn
  have e4 : ¬ l = [] := by intro e; rw [e] at hn; simp at hn
  have HB := Aside0.mk (below_alloc (Below.refl w.heap.size w) (.cells #[.int .i64 (gt l 0).1, .int .i64 (gt l 0).2.1, .int .u64 (gt l 0).2.2] 98))
  clear hcells hrow hg h hb
  go_enter Try.func45, Try.ntmps45
  go_wp2
  go_returns
  exact ⟨rfl, HB.out⟩
set_option maxRecDepth 1000000 in
theorem top_no (g base : Nat) (S : Nat → Prop) (w : World) (h : Hp w base g [] S) :
    Calls Try.prog 45 #[.pointer (some ⟨g, 0, none⟩)] w fun e w' => e = .returned (.tuple #[.agg #[.int .i64 0, .int .i64 0, .int .u64 0], .bool false]) ∧ Below w.heap.size w w' := by
  have hu98 := Try.underlying98
  have hu119 := Try.underlying119
  have hb := below_alloc (Below.refl w.heap.size w) (.cells #[.int .i64 0, .int .i64 0, .int .u64 0] 98)
  have HB2 := Aside0.mk (below_alloc hb (.cells #[.int .i64 0, .int .i64 0, .int .u64 0] 98))
  obtain ⟨vL, hg, hbase, hL, s1, s2⟩ := h.below hb
  obtain ⟨A, c, rfl, hnc⟩ := hL.form
  have hc1 := blk_cell hg 1
  clear hL hg s1 s2 h hb
  go_enter Try.func45, Try.ntmps45
  go_wp2
  go_returns
  exact ⟨rfl, HB2.out⟩
theorem swap_0 (g base : Nat) (l : List Ent) (S : Nat → Prop) (k : Nat) (w0 w : World) (h : Hp w base g l S) (hB : Below base w0 w) (hk : k < l.length) :
    Calls Try.prog 58 #[.pointer (some ⟨g, 0, none⟩), .int .i64 0, .int .i64 k] w fun e w' => e = .returned (.tuple #[]) ∧ Hp w' base g (swapL l 0 k) S ∧ Below base w0 w' ∧ Kept w w' S :=
  swap_at g base l S 0 k w0 w h hB (by omega) hk
theorem down_0 (g base : Nat) (l : List Ent) (S : Nat → Prop) (w0 w : World) (h : Hp w base g l S) (hB : Below base w0 w) (hbw : base ≤ w.heap.size) (hi : 0 < l.length) (hu : DownBut l 0) (hlen : l.length < 35184372088832) :
    Calls Try.prog 59 #[.pointer (some ⟨g, 0, none⟩), .int .i64 0] w fun e w' => e = .returned (.tuple #[]) ∧ ∃ l', Aside0 (Hp w' base g l' S) ∧ Aside0 (Heaped l') ∧ Aside0 (l'.Perm l) ∧ Aside0 (Below base w0 w') ∧ Aside0 (Kept w w' S) :=
  down_calls g base l S 0 w0 w h hB hbw hi hu hlen
end Go.Proofs.Ytncbnejldlfbdaa.PHeap
