/- What the reference's Open and Close answer and leave, told as the document tells it; of fewer than 2^40 cursors. -/
import Derived.Test.YtncbnejldlfbdaaKK
namespace Go.Proofs.Ytncbnejldlfbdaa.PCur
open Go.RowKit Go.Proofs.YtncbnejldlfbdaaW.PrintWords Go.Proofs.YtncbnejldlfbdaaW.PrintLast Go.Proofs.YtncbnejldlfbdaaW.PrintMore
open Go.Proofs.Ytncbnejldlfbdaa.PCursorsDo
set_option linter.unusedVariables false
set_option linter.unusedSimpArgs false
theorem vbase {α : Type} {d : Kd α} {e base base' : Nat} {W : World} {ok : Nat → Prop} {v : Value} {xs : List α} (h : Kd.V d e W base ok v xs) : Kd.V d e W base' ok v xs := h
def RetRO (most : Int) (last : Nat) (cs : List S86) (ver : Int) (hs : List S31) (okL okH : Nat → Prop) (w : World) (e : Ending) (w' : World) : Prop :=
  ∃ (A2 : Option Addr) (n2 c2 : Nat) (nn er : Int) (last' : Nat) (cs' : List S86), e = .returned (.tuple #[.agg #[.int .i64 most, .int .u64 (last' : Int), .slice A2 n2 c2], .int .u64 nn, .int .i64 er]) ∧ Aside0 (OpenRel most last cs ver hs nn er last' cs') ∧
    Aside0 (Kd.V k86 86 w' w.heap.size (fun k => okL k ∨ okH k ∨ w.heap.size ≤ k) (.slice A2 n2 c2) cs') ∧ Aside0 (Below w.heap.size w w')
theorem ropen_calls (most : Int) (last : Nat) (ver : Int) (cs : List S86) (hs : List S31) (okL okH : Nat → Prop) (A B : Option Addr) (m c d : Nat) (w : World) (base : Nat)
    (hL : Kd.V k86 86 w base okL (.slice A m c) cs) (hH : Kd.V k31 31 w base okH (.slice B hs.length d) hs) (hl : last < 3300000000000) (hn : cs.length < 3300000000000) :
    Calls Try.prog 34 #[.agg #[.int .i64 most, .int .u64 (last : Int), .slice A m c], .int .i64 ver, .slice B hs.length d] w (RetRO most last cs ver hs okL okH w) := by
  obtain rfl := (Kd.V_at hL).1
  by_cases hf : most ≤ (cs.length : Int)
  · refine (refopen_full most (last : Int) ver A cs.length c (.slice B hs.length d) w hf).mono fun e w' ⟨he, hb⟩ => ?_
    exact ⟨A, cs.length, c, 0, 6, last, cs, he, ⟨.inl ⟨hf, rfl, rfl, rfl, rfl⟩⟩, ⟨Kd.V_mono (Kd.V_below (vbase hL) hb) (fun k hk => .inl hk)⟩, ⟨hb⟩⟩
  · refine (refopen_calls most (last : Int) ver cs hs okL okH A B c d w (vbase hL) (vbase hH) (by omega) (by omega) (by omega) hn).mono fun e w' ⟨v2, he, hv, hb⟩ => ?_
    obtain ⟨A2, c2, rfl⟩ := Kd.V_slice hv.out
    exact ⟨A2, _, c2, _, 0, last + 1, _, by rw [he]; rfl, ⟨.inr ⟨by omega, rfl, rfl, rfl, rfl⟩⟩, hv, hb⟩
def RetRC (most : Int) (last : Nat) (cs : List S86) (h : Int) (okL : Nat → Prop) (w : World) (e : Ending) (w' : World) : Prop :=
  ∃ (A2 : Option Addr) (n2 c2 : Nat) (er : Int) (cs' : List S86), e = .returned (.tuple #[.agg #[.int .i64 most, .int .u64 (last : Int), .slice A2 n2 c2], .int .i64 er]) ∧ Aside0 (CloseRel cs h er cs') ∧
    Aside0 (Kd.V k86 86 w' w.heap.size (fun k => okL k ∨ w.heap.size ≤ k) (.slice A2 n2 c2) cs') ∧ Aside0 (Below w.heap.size w w')
theorem rclose_calls (most : Int) (last : Nat) (h : Int) (cs : List S86) (okL : Nat → Prop) (A : Option Addr) (m c : Nat) (w : World) (base : Nat) (hL : Kd.V k86 86 w base okL (.slice A m c) cs) (hn : cs.length < 3300000000000) :
    Calls Try.prog 37 #[.agg #[.int .i64 most, .int .u64 (last : Int), .slice A m c], .int .u64 h] w (RetRC most last cs h okL w) := by
  obtain rfl := (Kd.V_at hL).1
  have hf := close_f h cs most (last : Int) hn
  by_cases e : (cs.filter (fun c => decide (c.f0 ≠ h))).length = cs.length
  · rw [if_pos e] at hf
    refine (waywiserref29_Close.calls _ most (last : Int) okL A c cs h _ _ _ _ w (vbase hL) hf).mono fun e_ w' ⟨v2, he, hv, hb⟩ => ?_
    obtain ⟨A2, c2, rfl⟩ := Kd.V_slice hv
    exact ⟨A2, _, c2, 7, cs, he, ⟨.inl ⟨e, rfl, rfl⟩⟩, ⟨hv⟩, ⟨hb⟩⟩
  · rw [if_neg e] at hf
    refine (waywiserref29_Close.calls _ most (last : Int) okL A c cs h _ _ _ _ w (vbase hL) hf).mono fun e_ w' ⟨v2, he, hv, hb⟩ => ?_
    obtain ⟨A2, c2, rfl⟩ := Kd.V_slice hv
    exact ⟨A2, _, c2, 0, _, he, ⟨.inr ⟨e, rfl, rfl⟩⟩, ⟨hv⟩, ⟨hb⟩⟩
def RetRN (most : Int) (last : Nat) (cs : List S86) (h ver : Int) (okL : Nat → Prop) (w : World) (e : Ending) (w' : World) : Prop :=
  ∃ (A2 : Option Addr) (n2 c2 : Nat) (k : S31) (er : Int) (cs' : List S86), e = .returned (.tuple #[.agg #[.int .i64 most, .int .u64 (last : Int), .slice A2 n2 c2], .agg #[.int .u64 k.f0, .int .i64 k.f1], .int .i64 er]) ∧ Aside0 (NextR cs h ver cs' k er) ∧
    Aside0 (Kd.V k86 86 w' w.heap.size (fun k => okL k ∨ w.heap.size ≤ k) (.slice A2 n2 c2) cs') ∧ Aside0 (Below w.heap.size w w')
theorem rnext_calls (most : Int) (last : Nat) (h ver : Int) (cs : List S86) (okL : Nat → Prop) (A : Option Addr) (m c : Nat) (w : World) (base : Nat) (hL : Kd.V k86 86 w base okL (.slice A m c) cs) (hn : cs.length < 3300000000000) :
    Calls Try.prog 36 #[.agg #[.int .i64 most, .int .u64 (last : Int), .slice A m c], .int .u64 h, .int .i64 ver] w (RetRN most last cs h ver okL w) := by
  obtain rfl := (Kd.V_at hL).1
  refine (refnext_calls most (last : Int) h ver cs okL A c w (vbase hL) hn).mono fun e w' ⟨v2, cs', k, er, he, h1, h2, h3⟩ => ?_
  obtain ⟨A2, c2, rfl⟩ := Kd.V_slice h2.out
  exact ⟨A2, _, c2, k, er, cs', he, h1, h2, h3⟩
end Go.Proofs.Ytncbnejldlfbdaa.PCur
