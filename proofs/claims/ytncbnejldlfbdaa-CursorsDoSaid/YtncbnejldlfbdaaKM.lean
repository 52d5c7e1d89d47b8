/- The state of the law CursorsDo behind a store into the reference's table, and the two small laws at a deed's end; of fewer than 2^40 handles. -/
import Derived.Test.YtncbnejldlfbdaaKL
namespace Go.Proofs.Ytncbnejldlfbdaa.PCur
open Go.RowKit Go.Proofs.YtncbnejldlfbdaaW.PrintWords Go.Proofs.YtncbnejldlfbdaaW.PrintLast Go.Proofs.YtncbnejldlfbdaaW.PrintMore
open Go.Proofs.Ytncbnejldlfbdaa.PCursorsDo
open Go.Proofs.Ytncbnejldlfbdaa.PHeap (kept_size)
set_option linter.unusedVariables false
set_option linter.unusedSimpArgs false
theorem St.write {w0 w : World} {g b r n base : Nat} {most : Int} {last : Nat} {cs : List Cur} {T ok : Nat → Prop} {A2 : Option Addr} {n2 c2 : Nat} {a0 b0 c0 : Value}
    (ts : TS w w0.heap.size g b n most last cs T) (hr : w.heap[r]? = some (.cells #[a0, b0, c0] 75 (0, 0))) (vV : Kd.V k86 86 w base ok (.slice A2 n2 c2) (cs.map curR)) (off : ∀ k, ok k → ¬ T k ∧ k ≠ r) (rT : ¬ T r) (rb : w0.heap.size ≤ r)
    (tb : ∀ k, T k → w0.heap.size ≤ k) (hB : Below w0.heap.size w0 w) :
    St w0 (((w.setCell ⟨r, 0, none⟩ (.int .i64 most)).setCell ⟨r, 1, none⟩ (.int .u64 (last : Int))).setCell ⟨r, 2, none⟩ (.slice A2 n2 c2)) g b r n most last cs T ok (.slice A2 n2 c2) := by
  have hne : ∀ k, ok k → k ≠ r := fun k hk => (off k hk).2
  refine ⟨ts.move (by simp [World.setCell]) (fun k hk => ?_), stored75 hr _ _ _, vbase (Kd.V_far (p := ⟨r, 2, none⟩) (Kd.V_far (p := ⟨r, 1, none⟩) (Kd.V_far (p := ⟨r, 0, none⟩) vV hne _) hne _) hne _), off, rT, rb, tb, ((hB.setCell (p := ⟨r, 0, none⟩) rb _).setCell (p := ⟨r, 1, none⟩) rb _).setCell (p := ⟨r, 2, none⟩) rb _⟩
  have hkr : k ≠ r := fun e => rT (e ▸ hk)
  rw [Below.heap_setCell _ ⟨r, 2, none⟩ _ k hkr, Below.heap_setCell _ ⟨r, 1, none⟩ _ k hkr, Below.heap_setCell _ ⟨r, 0, none⟩ _ k hkr]
theorem blk3 {w : World} {q r t : Nat} {cs : Array Value} (h : w.heap[q]? = some (.cells cs t (0, 0))) (hq : q ≠ r) (x y z : Value) : (((w.setCell ⟨r, 0, none⟩ x).setCell ⟨r, 1, none⟩ y).setCell ⟨r, 2, none⟩ z).heap[q]? = some (.cells cs t (0, 0)) :=
  blk_far (p := ⟨r, 2, none⟩) (blk_far (p := ⟨r, 1, none⟩) (blk_far (p := ⟨r, 0, none⟩) h hq _) hq _) hq _
theorem blk2 {w : World} {q r t : Nat} {cs : Array Value} (h : w.heap[q]? = some (.cells cs t (0, 0))) (hq : q ≠ r) (x y : Value) : ((w.setCell ⟨r, 0, none⟩ x).setCell ⟨r, 1, none⟩ y).heap[q]? = some (.cells cs t (0, 0)) :=
  blk_far (p := ⟨r, 1, none⟩) (blk_far (p := ⟨r, 0, none⟩) h hq _) hq _
theorem St.far2 {w0 w : World} {g b r n q : Nat} {most : Int} {last : Nat} {cs : List Cur} {T okR : Nat → Prop} {vL : Value} (h : St w0 w g b r n most last cs T okR vL) (hT : ¬ T q) (hR : ¬ okR q) (hr : q ≠ r) (hb : w0.heap.size ≤ q) (x y : Value) : St w0 ((w.setCell ⟨q, 0, none⟩ x).setCell ⟨q, 1, none⟩ y) g b r n most last cs T okR vL :=
  (h.far (p := ⟨q, 0, none⟩) hT hR hr hb x).far (p := ⟨q, 1, none⟩) hT hR hr hb y
theorem TS.few {w : World} {base g b n : Nat} {most : Int} {last : Nat} {cs : List Cur} {T : Nat → Prop} (h : TS w base g b n most last cs T) : cs.length ≤ last := by
  have h2 := h.rise
  have h3 := h.inr
  clear h
  suffices ∀ (m : Nat) (cs : List Cur), cs.Pairwise (fun a b => a.h < b.h) → (∀ c ∈ cs, (m : Int) < c.h ∧ c.h ≤ last) → m ≤ last → cs.length + m ≤ last by
    have := this 0 cs h2 (fun c hc => by have := h3 c hc; omega) (Nat.zero_le _)
    omega
  intro m cs
  induction cs generalizing m with
  | nil => intro _ _ h; simpa using h
  | cons c cs ih =>
    intro hp hb hm
    obtain ⟨p1, p2⟩ := List.pairwise_cons.1 hp
    have hc := hb c (by simp)
    have := ih (m + 1) p2 (fun x hx => ⟨by have := p1 x hx; omega, (hb x (by simp [hx])).2⟩) (by omega)
    rw [List.length_cons]
    omega
theorem same_loop (l : List Int) (hl : l.length < 3300000000000) : ∀ (d i k : Nat), i + d = l.length → d < k → waywiserref14_Same.l0 k l l (i : Int) = some true := by
  intro d
  induction d with
  | zero =>
    intro i k hi hk
    obtain ⟨k, rfl⟩ : ∃ m, k = m + 1 := ⟨k - 1, by omega⟩
    simp only [waywiserref14_Same.l0]
    rw [if_neg (by omega)]
  | succ d ih =>
    intro i k hi hk
    obtain ⟨k, rfl⟩ : ∃ m, k = m + 1 := ⟨k - 1, by omega⟩
    simp only [waywiserref14_Same.l0]
    rw [if_pos (by omega), if_pos (by omega), if_pos (by omega), if_pos trivial, wrap_succ (by omega), ih (i + 1) k (by omega) (by omega)]
theorem same_f (l : List Int) (hl : l.length < 3300000000000) : waywiserref14_Same.f (l.length + 1) l l = some true := by
  unfold waywiserref14_Same.f
  rw [if_pos rfl]
  have := same_loop l hl l.length 0 (l.length + 1) (by omega) (by omega)
  simpa using this
/-- the table's length, and its handles, as the cursors tell them -/
theorem plen_calls (base g b n : Nat) (most : Int) (last : Nat) (cs : List Cur) (T : Nat → Prop) (w : World) (h : TS w base g b n most last cs T) : Calls Try.prog 11 #[.pointer (some ⟨g, 0, none⟩)] w fun e w' => e = .returned (.int .i64 (cs.length : Int)) ∧ w = w' := by
  obtain ⟨D, hD⟩ := h.tab
  have := len_calls base g b n most (last : Int) D w hD.tab
  rwa [hD.size] at this
theorem phandles_calls (base g b n : Nat) (most : Int) (last : Nat) (cs : List Cur) (T : Nat → Prop) (w : World) (h : TS w base g b n most last cs T) (hl : last < 3300000000000) :
    Calls Try.prog 12 #[.pointer (some ⟨g, 0, none⟩)] w fun e w' => ∃ A c, e = .returned (.slice A cs.length c) ∧ Aside0 (w'.ownsRow w.heap.size 22 1 (.slice A cs.length c) cs.length (nums .u64 (cs.map (·.h)))) ∧ Aside0 (Below w.heap.size w w') := by
  obtain ⟨D, hD⟩ := h.tab
  have h1 := handles_calls base g b n most last D w hD.tab hl
  rw [h.ids hD hl, List.length_map] at h1
  exact h1
theorem row_C {w : World} {base : Nat} {A : Option Addr} {c : Nat} {xs : List Int} (h : w.ownsRow base 22 1 (.slice A xs.length c) xs.length (nums .u64 xs)) : Kd.C (Kd.int .u64) w A xs.length xs ∧ xs.length ≤ c := by
  obtain ⟨A', c', e, hr⟩ := own_reads h
  injection e with e1 e2 e3
  subst e1
  refine ⟨Kd.C_of_reads (d := (0 : Int)) (h1 := fun _ => rfl) hr, ?_⟩
  rcases h.2 with ⟨hv, _⟩ | ⟨g, cap, cur, hv, _, _, hn, _⟩
  · injection hv with _ h2 h3; omega
  · injection hv with _ _ h3; omega
theorem psame_calls (A B : Option Addr) (c d : Nat) (xs : List Int) (w : World) (hl : xs.length < 3300000000000) (ha : Kd.C (Kd.int .u64) w A xs.length xs ∧ xs.length ≤ c) (hb : Kd.C (Kd.int .u64) w B xs.length xs ∧ xs.length ≤ d) :
    Calls Try.prog 26 #[.slice A xs.length c, .slice B xs.length d] w fun e w' => e = .returned (.bool true) ∧ Below w.heap.size w w' :=
  (waywiserref14_Same.calls _ A c xs B d xs true w ha.1 ha.2 hb.1 hb.2 (same_f xs hl)).mono fun e w' ⟨he, hb⟩ => ⟨he, hb.below⟩
end Go.Proofs.Ytncbnejldlfbdaa.PCur
