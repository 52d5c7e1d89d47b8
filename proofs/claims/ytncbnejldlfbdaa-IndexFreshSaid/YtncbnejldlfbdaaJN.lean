/- What index.ById leaves of items that came in; of fewer than 2 513 169 434 844 of them. -/
import Derived.Test.YtncbnejldlfbdaaJM
namespace Go.Proofs.Ytncbnejldlfbdaa.PIdx
open Go.RowKit Go.Proofs.YtncbnejldlfbdaaW.PrintWords Go.Proofs.YtncbnejldlfbdaaW.PrintLast Go.Proofs.YtncbnejldlfbdaaW.PrintMore
open Go.Proofs.Ytncbnejldlfbdaa.PIndexFresh
open Go.Proofs.Ytncbnejldlfbdaa.PHeap (Row)
set_option linter.unusedVariables false
set_option linter.unusedSimpArgs false
set_option maxHeartbeats 4000000 in
set_option maxRecDepth 1000000 in
theorem insert_nil (w : World) : Calls Try.prog 69 #[.slice none 0 0, .int .i64 0, .int .i64 0, FV] w fun e w' => e = .returned (.tuple #[]) ∧ w' = w := by
  go_enter Try.func69, Try.ntmps69
  go_wp2
  go_loopw [8] (fun v8 wq => v8 = .int .i64 1 ∧ wq = w) (fun _ _ => 0)
  case atStart => exact ⟨rfl, rfl⟩
  case round =>
    obtain ⟨rfl, rfl⟩ := hrel
    go_wp2
    go_returns
    exact ⟨rfl, rfl⟩
set_option maxHeartbeats 4000000 in
set_option maxRecDepth 1000000 in
theorem stable_nil (w : World) : Calls Try.prog 61 #[.slice none 0 0, .int .i64 0, FV] w fun e w' => e = .returned (.tuple #[]) ∧ w' = w := by
  go_enter Try.func61, Try.ntmps61
  go_wp2
  go_loopw [7, 8] (fun v7 v8 wq => v7 = .int .i64 0 ∧ v8 = .int .i64 20 ∧ wq = w) (fun _ _ _ => 0)
  case atStart => exact ⟨rfl, rfl, rfl⟩
  case round =>
    obtain ⟨rfl, rfl, rfl⟩ := hrel
    go_wp2_with ((go_at_call 69; (with_reducible refine (insert_nil _).mono ?_); rintro e w1 ⟨rfl, rfl⟩))
    go_loopw [6] (fun v6 wq => v6 = .int .i64 20 ∧ wq = w1) (fun _ _ => 0)
    case atStart => exact ⟨rfl, rfl⟩
    case round =>
      obtain ⟨rfl, rfl⟩ := hrel
      go_wp2
      go_returns
      exact ⟨rfl, rfl⟩
set_option maxHeartbeats 4000000 in
set_option maxRecDepth 1000000 in
/-- a row of the call's own, sorted -/
theorem sort_calls (base : Nat) (v : Value) (T : List It) (w : World) (h : Row w base 65 4 v T.length (cells4 T)) (hbig : T.length < 1152921504606846976) :
    Calls Try.prog 48 #[v, FV] w fun e w' => e = .returned (.tuple #[]) ∧ ∃ Y, Aside0 (Row w' base 65 4 v T.length (cells4 Y)) ∧ Aside0 (Y.Pairwise leI ∧ Stb T Y ∧ Y.length = T.length) ∧ Aside0 (Below base w w') := by
  have hu54 := Try.underlying54
  rcases h.2 with ⟨rfl, h0⟩ | ⟨g, cap, cur, rfl, hb, hg, _⟩
  · obtain rfl : T = [] := List.eq_nil_of_length_eq_zero h0
    have HR := Aside0.mk h
    clear h hbig
    go_enter Try.func48, Try.ntmps48
    go_wp2_with ((go_at_call 61; (with_reducible refine (stable_nil _).mono ?_); rintro e w1 ⟨rfl, rfl⟩))
    go_returns
    exact ⟨rfl, [], HR, ⟨List.Pairwise.nil, Stb.refl _, rfl⟩, ⟨Below.refl _ _⟩⟩
  · have HR : Aside0 (RowAt w w base g cap T) := ⟨⟨h, hb, grown_of_below (Below.refl _ w) _⟩⟩
    have HB := Aside0.mk hbig
    have HBS : Aside0 (base ≤ w.heap.size) := ⟨Nat.le_trans hb (Nat.le_of_lt (blk_lt hg))⟩
    clear h hbig hb hg
    go_enter Try.func48, Try.ntmps48
    go_wp2_with ((go_at_call 61; (with_reducible refine (stable_calls base g cap T T.length _ HR.out rfl HB.out).mono ?_); rintro e w1 ⟨rfl, Y, h1, h2⟩; have R1 := h1; have T1 := h2; clear h1 h2))
    go_returns
    exact ⟨rfl, Y, ⟨by have := R1.out.row; rwa [T1.out.2.2] at this⟩, T1, ⟨(Below.refl base w).grown R1.out.hK HBS.out (fun k hk => by cases hk; exact R1.out.hb)⟩⟩
theorem eq_nils (A : Option Addr) (n c : Nat) (w : World) : (binOp .eql 54 (.slice A n c) (.slice none 0 0)).run Try.prog w = .ok (.bool A.isNone) w := by
  cases A <;> kernel_rfl
set_option maxHeartbeats 4000000 in
set_option maxRecDepth 1000000 in
theorem clone_calls (A : Option Addr) (n c : Nat) (T : List It) (w : World) (hT : Lie w A T) (hn : T.length = n) (hnil : A = none → n = 0) (hbig : n ≤ 2513169434843) :
    Calls Try.prog 47 #[.slice A n c] w fun e w' => ∃ v, e = .returned v ∧ Aside0 (Row w' w.heap.size 65 4 v T.length (cells4 T)) ∧ Aside0 (Below w.heap.size w w') := by
  have hu54 := Try.underlying54
  have hu65 := Try.underlying65
  rcases A with _ | ad
  · have h0 := hnil rfl
    subst h0
    obtain rfl : T = [] := List.eq_nil_of_length_eq_zero hn
    have hq := eq_nils none 0 c
    simp only [Option.isNone] at hq
    go_enter Try.func47, Try.ntmps47
    go_wp2
    go_returns
    exact ⟨_, rfl, ⟨Row.nil _ _ _ _⟩, ⟨Below.refl _ _⟩⟩
  · have HT := Aside0.mk hT
    have HN : Aside0 (T.length = n ∧ n ≤ 2513169434843) := ⟨hn, hbig⟩
    clear hT hn hnil hbig
    have hq := eq_nils (some ad) n c
    simp only [Option.isNone] at hq
    have R0 : Aside0 (Row (w.alloc (.cells #[] 65)) w.heap.size 65 4 (.slice (some ⟨w.heap.size, 0, none⟩) ([] : List It).length 0) ([] : List It).length (cells4 [])) := ⟨⟨rfl, .inr ⟨w.heap.size, 0, #[], rfl, Nat.le_refl _, blk_new w _, Nat.le_refl _, by decide, rfl, rfl⟩⟩⟩
    have HZ : Aside0 (w.heap.size ≤ (w.alloc (.cells #[] 65)).heap.size) := ⟨by simp⟩
    have HT1 : Aside0 (Lie (w.alloc (.cells #[] 65)) (some ad) T) := ⟨HT.out.below (below_alloc (Below.refl _ _) _)⟩
    go_enter Try.func47, Try.ntmps47
    go_wp2_with (((with_reducible refine gate_builtin (b := .append) (xs := #[.tmp 5, .tmp 6]) rfl ?_); refine append_items rfl (.tmp 5) (.tmp 6) rfl w.heap.size _ [] rfl R0.out HZ.out (some ad) n c T rfl HN.out.1 (by intro h; cases h) HT1.out (by have := HN.out; simp; omega) ?_; intro v' w1 hr hg hnl hat; have R1 := Aside0.mk hr; have G1 := Aside0.mk hg; clear hr hg hnl hat))
    go_returns
    exact ⟨_, rfl, ⟨by have := R1.out; rw [HN.out.1]; simpa using this⟩, ⟨(below_alloc (Below.refl _ _) (.cells #[] 65)).grown G1.out HZ.out (fun k hk => by have e : some w.heap.size = some k := hk; cases e; exact Nat.le_refl _)⟩⟩
set_option maxHeartbeats 4000000 in
set_option maxRecDepth 1000000 in
/-- items by rising numbers -/
theorem byid_spec (A : Option Addr) (n c : Nat) (T : List It) (w : World) (hT : Lie w A T) (hn : T.length = n) (hnil : A = none → n = 0) (hbig : n ≤ 2513169434843) :
    Calls Try.prog 29 #[.slice A n c] w fun e w' => ∃ v Y, e = .returned v ∧ Aside0 (Row w' w.heap.size 65 4 v T.length (cells4 Y)) ∧ Aside0 (Y.Pairwise leI ∧ Stb T Y ∧ Y.length = T.length) ∧ Aside0 (Below w.heap.size w w') := by
  have HT := Aside0.mk hT
  have HN : Aside0 (T.length = n ∧ n ≤ 2513169434843) := ⟨hn, hbig⟩
  have HNL := Aside0.mk hnil
  clear hT hn hnil hbig
  go_enter Try.func29, Try.ntmps29
  go_wp2_with (first | (go_at_call 47; (with_reducible refine (clone_calls A n c T _ HT.out HN.out.1 HNL.out HN.out.2).mono ?_); rintro e w1 ⟨v, rfl, R1, B1⟩) | (go_at_call 48; (with_reducible refine (sort_calls w.heap.size v T _ R1.out (by have := HN.out; omega)).mono ?_); rintro e w2 ⟨rfl, Y, R2, T2, B2⟩))
  go_returns
  exact ⟨v, Y, rfl, R2, T2, ⟨B1.out.trans B2.out⟩⟩
end Go.Proofs.Ytncbnejldlfbdaa.PIdx
