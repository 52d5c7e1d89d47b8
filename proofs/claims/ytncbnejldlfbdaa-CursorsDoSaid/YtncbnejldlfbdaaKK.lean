/- What the table's Open, Next and Close answer and leave, each told as the reference tells it; of fewer than 2^40 cursors. -/
import Derived.Test.YtncbnejldlfbdaaKI
namespace Go.Proofs.Ytncbnejldlfbdaa.PCur
open Go.RowKit Go.Proofs.YtncbnejldlfbdaaW.PrintWords Go.Proofs.YtncbnejldlfbdaaW.PrintLast Go.Proofs.YtncbnejldlfbdaaW.PrintMore
open Go.Proofs.Ytncbnejldlfbdaa.PCursorsDo
open Go.Proofs.Ytncbnejldlfbdaa.PHeap (Wk Ent kept_size gt Heaped gt_eq gt_some leE)
set_option linter.unusedVariables false
set_option linter.unusedSimpArgs false
/-- OPEN as the document tells it -/
def OpenRel (most : Int) (last : Nat) (cs : List S86) (ver : Int) (hs : List S31) (nn er : Int) (last' : Nat) (cs' : List S86) : Prop :=
  (most ≤ (cs.length : Int) ∧ nn = 0 ∧ er = 6 ∧ last' = last ∧ cs' = cs) ∨ ((cs.length : Int) < most ∧ nn = (last : Int) + 1 ∧ er = 0 ∧ last' = last + 1 ∧ cs' = cs ++ [⟨(last : Int) + 1, ver, hs⟩])
theorem OpenRel.det {most : Int} {last : Nat} {cs : List S86} {ver : Int} {hs : List S31} {nn er nn2 er2 : Int} {l1 l2 : Nat} {c1 c2 : List S86} (h : OpenRel most last cs ver hs nn er l1 c1) (k : OpenRel most last cs ver hs nn2 er2 l2 c2) : nn = nn2 ∧ er = er2 ∧ l1 = l2 ∧ c1 = c2 := by
  rcases h with ⟨a, rfl, rfl, rfl, rfl⟩ | ⟨a, rfl, rfl, rfl, rfl⟩ <;> rcases k with ⟨b, rfl, rfl, rfl, rfl⟩ | ⟨b, rfl, rfl, rfl, rfl⟩
  · exact ⟨rfl, rfl, rfl, rfl⟩
  · omega
  · omega
  · exact ⟨rfl, rfl, rfl, rfl⟩
def RetPO (w0 w : World) (base g b n : Nat) (most : Int) (last : Nat) (cs : List Cur) (T : Nat → Prop) (c : Cur) (e : Ending) (w' : World) : Prop :=
  ∃ (nn er : Int) (n' last' : Nat) (cs' : List Cur) (T' : Nat → Prop), e = .returned (.tuple #[.int .u64 nn, .int .i64 er]) ∧ Aside0 (OpenRel most last (cs.map curR) c.ver c.hs nn er last' (cs'.map curR)) ∧ Aside0 (n' ≤ n + 1 ∧ last' ≤ last + 1) ∧
    Aside0 (TS w' base g b n' most last' cs' T') ∧ Aside0 (∀ k, T' k → T k ∨ c.S k) ∧ Aside0 (Below base w0 w') ∧ Aside0 (Kept w w' T)
theorem kept_two {w w1 : World} {g b : Nat} {T : Nat → Prop} (h : Two2 w w1 g b) (tg : T g) (tb : T b) : Kept w w1 T :=
  ⟨h.1, fun k hk hT => h.2 k hk (fun e => hT (e ▸ tg)) (fun e => hT (e ▸ tb))⟩
theorem popen_calls (base g b n : Nat) (most : Int) (last : Nat) (cs : List Cur) (T : Nat → Prop) (c : Cur) (w0 w : World) (h : TS w base g b n most last cs T) (hB : Below base w0 w) (hbw : base ≤ w.heap.size) (hl : last < 3300000000000) (hn : n < 3300000000000)
    (hc : c.h = (last : Int) + 1) (hcur : CurAt w base g b (fun k => T k ∨ c.S k) c) (hoff : ∀ k, c.S k → ¬ T k) (hlt : ∀ k, c.S k → k < w.heap.size) :
    Calls Try.prog 8 #[.pointer (some ⟨g, 0, none⟩), .int .i64 c.ver, .pointer (some ⟨c.gW, 0, none⟩)] w (RetPO w0 w base g b n most last cs T c) := by
  obtain ⟨D, hD⟩ := h.tab
  by_cases hf : most ≤ (cs.length : Int)
  · refine (open_full base g b n most last D c.ver (some ⟨c.gW, 0, none⟩) w hD.tab (by rw [hD.size]; exact hf)).mono fun e w' ⟨he, hb⟩ => ?_
    exact ⟨0, 6, n, last, cs, T, he, ⟨.inl ⟨by simpa using hf, rfl, rfl, rfl, rfl⟩⟩, ⟨by omega, by omega⟩, ⟨h.below hb⟩, ⟨fun k hk => .inl hk⟩, ⟨below_then hB hbw hb⟩, ⟨Kept.of_below hb _⟩⟩
  · refine (open_calls base g b n most last D c.ver (some ⟨c.gW, 0, none⟩) w0 w hD.tab hB (by rw [hD.size]; omega) (by omega) (by omega) (by simp only [maxLen]; omega)).mono fun e w' ⟨he, ht, hb, h2⟩ => ?_
    refine ⟨(last : Int) + 1, 0, n + 1, last + 1, cs ++ [c], _, he, ⟨.inr ⟨by simp; omega, rfl, rfl, rfl, ?_⟩⟩, ⟨by omega, by omega⟩, ⟨h.opened hD hl hc ht h2 hcur hoff hlt⟩, ⟨fun k hk => hk⟩, ⟨hb⟩, ⟨kept_two h2 h.tg h.tb⟩⟩
    rw [List.map_append, List.map_singleton, ← hc]
    rfl
theorem NextR.det {cs : List S86} {h ver : Int} {c1 c2 : List S86} {k1 k2 : S31} {e1 e2 : Int} (a : NextR cs h ver c1 k1 e1) (d : NextR cs h ver c2 k2 e2) : c1 = c2 ∧ k1 = k2 ∧ e1 = e2 := by
  rcases a with ⟨rfl, rfl, rfl, a1⟩ | ⟨i, hi, a1, a2, a3⟩ <;> rcases d with ⟨rfl, rfl, rfl, d1⟩ | ⟨j, hj, d1, d2, d3⟩
  · exact ⟨rfl, rfl, rfl⟩
  · exact absurd d2 (a1 j hj)
  · exact absurd a2 (d1 i hi)
  · have hij : i = j := by
      rcases Nat.lt_trichotomy i j with h | h | h
      · exact absurd a2 (d1 i h)
      · exact h
      · exact absurd d2 (a1 j h)
    subst hij
    rcases a3 with ⟨p1, rfl, rfl, rfl⟩ | ⟨p1, p2, rfl, rfl, rfl⟩ | ⟨p1, l, p2, rfl, rfl⟩ <;> rcases d3 with ⟨q1, rfl, rfl, rfl⟩ | ⟨q1, q2, rfl, rfl, rfl⟩ | ⟨q1, l2, q2, rfl, rfl⟩
    · exact ⟨rfl, rfl, rfl⟩
    · exact absurd q1 p1
    · exact absurd q1 p1
    · exact absurd p1 q1
    · exact ⟨rfl, rfl, rfl⟩
    · rw [p2] at q2; cases q2
    · exact absurd p1 q1
    · rw [p2] at q2; cases q2
    · rw [p2] at q2
      injection q2 with q3 q4
      subst q3; subst q4
      exact ⟨rfl, rfl, rfl⟩
def RetPN (w0 w : World) (base g b n : Nat) (most : Int) (last : Nat) (cs : List Cur) (T : Nat → Prop) (h ver : Int) (e : Ending) (w' : World) : Prop :=
  ∃ (k : S31) (er : Int) (cs' : List Cur), e = .returned (.tuple #[.agg #[.int .u64 k.f0, .int .i64 k.f1], .int .i64 er]) ∧ Aside0 (NextR (cs.map curR) h ver (cs'.map curR) k er) ∧ Aside0 (TS w' base g b n most last cs' T) ∧ Aside0 (Below base w0 w') ∧ Aside0 (Kept w w' T)
theorem gc_map {cs : List Cur} {i : Nat} (h : i < cs.length) : gc (cs.map curR) i = curR cs[i] := by
  rw [gc_eq (by simpa using h)]
  simp
theorem pnext_calls (base g b n : Nat) (most : Int) (last : Nat) (cs : List Cur) (T : Nat → Prop) (hh ver : Int) (hw : (Lit.int .u64 hh).wf = true) (w0 w : World) (h : TS w base g b n most last cs T) (hB : Below base w0 w) (hbw : base ≤ w.heap.size) :
    Calls Try.prog 9 #[.pointer (some ⟨g, 0, none⟩), .int .u64 hh, .int .i64 ver] w (RetPN w0 w base g b n most last cs T hh ver) := by
  obtain ⟨D, hD⟩ := h.tab
  cases hhas : Maps.has D (.int .u64 hh) with
  | false =>
    refine (cnext_no base g b n most last D hh ver hw w hD.tab hhas).mono fun e w' ⟨he, hb⟩ => ?_
    refine ⟨z31, 7, cs, he, ⟨.inl ⟨rfl, rfl, rfl, fun j hj e2 => ?_⟩⟩, ⟨h.below hb⟩, ⟨below_then hB hbw hb⟩, ⟨Kept.of_below hb _⟩⟩
    have hj2 : j < cs.length := by simpa using hj
    rw [gc_map hj2] at e2
    have := (hD.has hh hw).2 ⟨cs[j], List.getElem_mem hj2, e2⟩
    rw [hhas] at this
    cases this
  | true =>
    obtain ⟨c, hc, hch⟩ := (hD.has hh hw).1 hhas
    obtain ⟨i, hi, hci⟩ := List.mem_iff_getElem.1 hc
    have hat := hD.at_ c hc
    rw [hch] at hat
    have hca := h.cur c hc
    have hne : ∀ j, j < i → (gc (cs.map curR) j).f0 ≠ hh := fun j hj e2 => by
      have hj2 : j < cs.length := by omega
      rw [gc_map hj2] at e2
      have h5 := List.pairwise_iff_getElem.1 h.rise j i hj2 hi hj
      rw [hci, hch] at h5
      have e3 : cs[j].h = hh := e2
      omega
    have hgi : gc (cs.map curR) i = ⟨c.h, c.ver, c.hs⟩ := by rw [gc_map hi, hci]; rfl
    have hil : i < (cs.map curR).length := by simpa using hi
    by_cases hv : c.ver = ver
    · cases hhs : c.hs with
      | nil =>
        have hl : c.l = [] := by
          have := hca.perm.length_eq
          rw [hhs] at this
          exact List.eq_nil_of_length_eq_zero (by simpa using this)
        have hwk := hca.wk
        rw [hl] at hwk
        rw [hv] at hat
        refine (cnext_done base g b n most last D hh ver c.gW c.S hw w hD.tab hhas hat hwk).mono fun e w' ⟨he, hb⟩ => ?_
        exact ⟨z31, 9, cs, he, ⟨.inr ⟨i, hil, hne, by rw [hgi]; exact hch, .inr (.inl ⟨by rw [hgi]; exact hv, by rw [hgi]; exact hhs, rfl, rfl, rfl⟩)⟩⟩, ⟨h.below hb⟩, ⟨below_then hB hbw hb⟩, ⟨Kept.of_below hb _⟩⟩
      | cons x hs =>
        have hp := hca.perm
        have hr := hca.rise
        rw [hhs] at hp hr
        obtain ⟨_, _, _, _, _, ho, _⟩ := hca.wk
        obtain ⟨hln, hg0⟩ := first_hit hp ho hr
        have hbx := hca.bd x (by rw [hhs]; simp)
        have hll : c.l.length < 4398046511104 := by
          have h6 := hp.length_eq
          have h7 := hca.few
          rw [hhs] at h7
          rw [List.length_map] at h6
          omega
        rw [hv] at hat
        refine (cnext_hit base g b n most last D hh ver c.gW c.l c.S hw w0 w hD.tab hhas hat hca.wk hB hbw hln (by rw [hg0]; show (-1 : Int) < 0; decide) (by rw [hg0]; unfold toE; simp only; omega) hll).mono fun e w' ⟨he, l', h1, h2, h3, h4⟩ => ?_
        rw [hg0] at he
        refine ⟨x, 0, cs.set i { c with hs := hs, l := l' }, he, ⟨.inr ⟨i, hil, hne, by rw [hgi]; exact hch, .inr (.inr ⟨by rw [hgi]; exact hv, hs, by rw [hgi]; exact hhs, rfl, ?_⟩)⟩⟩, ⟨?_⟩, h3, ⟨h4.out.mono (fun k hk => (hca.sub k hk).1)⟩⟩
        · rw [List.map_set, hgi, ← hch]; rfl
        · refine h.told (c := c) (by rw [List.getElem?_eq_getElem hi, hci]) rfl rfl rfl rfl h4.out ⟨h1.out, fun k hk => hca.sub k hk, rest_hits hp hg0 h2.out, (List.pairwise_cons.1 hr).2, fun y hy => hca.bd y (by rw [hhs]; simp [hy]), ?_⟩
          have h7 := hca.few
          rw [hhs] at h7
          simp at h7 ⊢
          omega
    · refine (cnext_stale base g b n most last D hh ver c.ver c.gW hw w hD.tab hhas hat hv).mono fun e w' ⟨he, hb⟩ => ?_
      exact ⟨z31, 8, cs, he, ⟨.inr ⟨i, hil, hne, by rw [hgi]; exact hch, .inl ⟨by rw [hgi]; exact hv, rfl, rfl, rfl⟩⟩⟩, ⟨h.below hb⟩, ⟨below_then hB hbw hb⟩, ⟨Kept.of_below hb _⟩⟩
/-- CLOSE as the document tells it -/
def CloseRel (cs : List S86) (h er : Int) (cs' : List S86) : Prop :=
  ((cs.filter (fun c => decide (c.f0 ≠ h))).length = cs.length ∧ er = 7 ∧ cs' = cs) ∨ ((cs.filter (fun c => decide (c.f0 ≠ h))).length ≠ cs.length ∧ er = 0 ∧ cs' = cs.filter (fun c => decide (c.f0 ≠ h)))
theorem CloseRel.det {cs : List S86} {h e1 e2 : Int} {c1 c2 : List S86} (a : CloseRel cs h e1 c1) (d : CloseRel cs h e2 c2) : e1 = e2 ∧ c1 = c2 := by
  rcases a with ⟨a, rfl, rfl⟩ | ⟨a, rfl, rfl⟩ <;> rcases d with ⟨d, rfl, rfl⟩ | ⟨d, rfl, rfl⟩
  · exact ⟨rfl, rfl⟩
  · exact absurd a d
  · exact absurd d a
  · exact ⟨rfl, rfl⟩
def RetPC (w0 w : World) (base g b n : Nat) (most : Int) (last : Nat) (cs : List Cur) (T : Nat → Prop) (h : Int) (e : Ending) (w' : World) : Prop :=
  ∃ (er : Int) (cs' : List Cur), e = .returned (.int .i64 er) ∧ Aside0 (CloseRel (cs.map curR) h er (cs'.map curR)) ∧ Aside0 (TS w' base g b n most last cs' T) ∧ Aside0 (Below base w0 w') ∧ Aside0 (Kept w w' T)
theorem map_filter_R (cs : List Cur) (h : Int) : (cs.map curR).filter (fun c => decide (c.f0 ≠ h)) = (cs.filter (fun c => decide (c.h ≠ h))).map curR := by
  induction cs with
  | nil => rfl
  | cons x cs ih =>
    rw [List.map_cons, List.filter_cons, List.filter_cons, ih]
    show (if decide (x.h ≠ h) = true then _ else _) = _
    split <;> rfl
theorem pclose_calls (base g b n : Nat) (most : Int) (last : Nat) (cs : List Cur) (T : Nat → Prop) (hh : Int) (hw : (Lit.int .u64 hh).wf = true) (w0 w : World) (h : TS w base g b n most last cs T) (hB : Below base w0 w) (hbw : base ≤ w.heap.size) :
    Calls Try.prog 10 #[.pointer (some ⟨g, 0, none⟩), .int .u64 hh] w (RetPC w0 w base g b n most last cs T hh) := by
  obtain ⟨D, hD⟩ := h.tab
  cases hhas : Maps.has D (.int .u64 hh) with
  | false =>
    refine (close_no base g b n most last D hh hw w hD.tab hhas).mono fun e w' ⟨he, hb⟩ => ?_
    refine ⟨7, cs, he, ⟨.inl ⟨?_, rfl, rfl⟩⟩, ⟨h.below hb⟩, ⟨below_then hB hbw hb⟩, ⟨Kept.of_below hb _⟩⟩
    rw [map_filter_R, List.filter_eq_self.2]
    intro c hc
    have : c.h ≠ hh := fun e2 => by
      have := (hD.has hh hw).2 ⟨c, hc, e2⟩
      rw [hhas] at this
      cases this
    simpa using this
  | true =>
    obtain ⟨c, hc, hch⟩ := (hD.has hh hw).1 hhas
    refine (close_calls base g b n most last D hh hw w0 w hD.tab hB hbw hhas).mono fun e w' ⟨he, ht, hb, h2⟩ => ?_
    refine ⟨0, cs.filter (fun c => decide (c.h ≠ hh)), he, ⟨.inr ⟨?_, rfl, (map_filter_R cs hh).symm⟩⟩, ⟨h.closed hD hw ht h2 hhas⟩, ⟨hb⟩, ⟨kept_two h2 h.tg h.tb⟩⟩
    rw [map_filter_R]
    have := filter_one h.rise hc
    rw [hch] at this
    rw [List.length_map, List.length_map]
    omega
end Go.Proofs.Ytncbnejldlfbdaa.PCur
