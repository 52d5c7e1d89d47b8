/- A table of cursors in memory with the walks that it holds: what Open, Close and Next leave of it; no condition. -/
import Derived.Test.YtncbnejldlfbdaaKF
namespace Go.Proofs.Ytncbnejldlfbdaa.PCur
open Go.RowKit Go.Proofs.YtncbnejldlfbdaaW.PrintWords Go.Proofs.YtncbnejldlfbdaaW.PrintLast Go.Proofs.YtncbnejldlfbdaaW.PrintMore
open Go.Proofs.Ytncbnejldlfbdaa.PCursorsDo
open Go.Proofs.Ytncbnejldlfbdaa.PHeap (Wk Ent kept_size gt Heaped gt_eq leE)
set_option linter.unusedVariables false
set_option linter.unusedSimpArgs false
/-- AN OPEN CURSOR: its handle, version, the hits still to be told; where its walk lies, its entries, its blocks -/
structure Cur where
  h : Int
  ver : Int
  hs : List S31
  gW : Nat
  l : List Ent
  S : Nat → Prop
def curR (c : Cur) : S86 := ⟨c.h, c.ver, c.hs⟩
structure CurAt (w : World) (base g b : Nat) (T : Nat → Prop) (c : Cur) : Prop where
  wk : Wk w base c.gW .nilFunc c.l 0 c.S
  sub : ∀ k, c.S k → T k ∧ k ≠ g ∧ k ≠ b
  perm : c.l.Perm (c.hs.map toE)
  rise : c.hs.Pairwise leH
  bd : ∀ x ∈ c.hs, x.f1 ≤ 1125899906842624
  few : c.hs.length ≤ 40
/-- a map's datum that tells the cursors -/
structure DOk (w : World) (base g b n : Nat) (most : Int) (last : Nat) (cs : List Cur) (D : DataW Value) : Prop where
  tab : Tab w base g b n most (last : Int) D
  tidy : Maps.Tidy D
  size : Maps.size D = cs.length
  has : ∀ i : Int, (Lit.int .u64 i).wf = true → (Maps.has D (.int .u64 i) = true ↔ ∃ c ∈ cs, c.h = i)
  at_ : ∀ c ∈ cs, D.atKey (.int .u64 c.h) (.held (curV 0 none)) = .held (curV c.ver (some ⟨c.gW, 0, none⟩))
structure TS (w : World) (base g b n : Nat) (most : Int) (last : Nat) (cs : List Cur) (T : Nat → Prop) : Prop where
  tab : ∃ D, DOk w base g b n most last cs D
  tg : T g
  tb : T b
  tlt : ∀ k, T k → k < w.heap.size
  cur : ∀ c ∈ cs, CurAt w base g b T c
  apart : cs.Pairwise (fun a b => ∀ k, a.S k → ¬ b.S k)
  rise : cs.Pairwise (fun a b => a.h < b.h)
  inr : ∀ c ∈ cs, 1 ≤ c.h ∧ c.h ≤ last
theorem filter_one {cs : List Cur} (hr : cs.Pairwise (fun a b => a.h < b.h)) {x : Cur} (hx : x ∈ cs) : (cs.filter (fun c => decide (c.h ≠ x.h))).length + 1 = cs.length := by
  induction cs with
  | nil => simp at hx
  | cons y cs ih =>
    obtain ⟨h1, h2⟩ := List.pairwise_cons.1 hr
    rcases List.mem_cons.1 hx with rfl | hx
    · have : (cs.filter (fun c => decide (c.h ≠ x.h))) = cs := by
        rw [List.filter_eq_self]
        intro c hc
        have := h1 c hc
        simp; omega
      rw [List.filter_cons_of_neg (by simp), this, List.length_cons]
    · have hy : y.h ≠ x.h := by have := h1 x hx; omega
      have := ih h2 hx
      simp [hy] at this ⊢
      omega
theorem filter_succ {L : List Int} (hr : L.Pairwise (fun a b => a < b)) {m : Int} : L.filter (fun x => decide (x ≤ m + 1)) = L.filter (fun x => decide (x ≤ m)) ++ (if (m + 1) ∈ L then [m + 1] else []) := by
  induction L with
  | nil => simp
  | cons y L ih =>
    obtain ⟨h1, h2⟩ := List.pairwise_cons.1 hr
    by_cases hy : y ≤ m
    · have hy2 : y ≤ m + 1 := by omega
      have hne : ¬ m + 1 = y := by omega
      rw [List.filter_cons_of_pos (by simpa using hy2), List.filter_cons_of_pos (by simpa using hy), ih h2]
      simp [hne]
    · have hall : ∀ x ∈ L, ¬ x ≤ m + 1 := fun x hx => by have := h1 x hx; omega
      have e1 : L.filter (fun x => decide (x ≤ m + 1)) = [] := by rw [List.filter_eq_nil_iff]; intro x hx; simpa using hall x hx
      have e2 : L.filter (fun x => decide (x ≤ m)) = [] := by rw [List.filter_eq_nil_iff]; intro x hx; have := hall x hx; simp; omega
      have hnm : (m + 1) ∉ L := fun h => hall _ h (Int.le_refl _)
      by_cases hy2 : y = m + 1
      · subst hy2
        rw [List.filter_cons_of_pos (by simp), List.filter_cons_of_neg (by simpa using hy), e1, e2]
        simp
      · rw [List.filter_cons_of_neg (by simp; omega), List.filter_cons_of_neg (by simpa using hy), e1, e2]
        have : ¬ m + 1 = y := fun e => hy2 e.symm
        simp [this, hnm]
section
variable {w w1 : World} {base g b n : Nat} {most : Int} {last : Nat} {cs : List Cur} {T : Nat → Prop}
theorem Tab.glt {D : DataW Value} {lst : Int} (h : Tab w base g b n most lst D) : g < w.heap.size ∧ b < w.heap.size := ⟨blk_lt h.1, h.2.2.2.lt⟩
theorem Tab.same {D : DataW Value} {lst : Int} (h : Tab w base g b n most lst D) (hg : w1.heap[g]? = w.heap[g]?) (hb : w1.heap[b]? = w.heap[b]?) : Tab w1 base g b n most lst D :=
  ⟨hg.trans h.1, h.2.1, h.2.2.1, ownsMap_move h.2.2.2 hb⟩
theorem CurAt.move {c : Cur} {T1 : Nat → Prop} (h : CurAt w base g b T c) (hm : ∀ k, c.S k → k < w.heap.size → w1.heap[k]? = w.heap[k]?) (hT : ∀ k, T k → T1 k) : CurAt w1 base g b T1 c :=
  ⟨h.wk.move hm, fun k hk => ⟨hT k (h.sub k hk).1, (h.sub k hk).2⟩, h.perm, h.rise, h.bd, h.few⟩
/-- the world has turned, but in no block of the table's -/
theorem TS.move (h : TS w base g b n most last cs T) (hs : w.heap.size ≤ w1.heap.size) (hm : ∀ k, T k → w1.heap[k]? = w.heap[k]?) : TS w1 base g b n most last cs T := by
  obtain ⟨D, hd⟩ := h.tab
  exact ⟨⟨D, hd.tab.same (hm g h.tg) (hm b h.tb), hd.tidy, hd.size, hd.has, hd.at_⟩, h.tg, h.tb, fun k hk => Nat.lt_of_lt_of_le (h.tlt k hk) hs, fun c hc => (h.cur c hc).move (fun k hk _ => hm k ((h.cur c hc).sub k hk).1) (fun _ hk => hk), h.apart, h.rise, h.inr⟩
theorem TS.below (h : TS w base g b n most last cs T) (hb : Below w.heap.size w w1) : TS w1 base g b n most last cs T := h.move hb.size (fun k hk => hb.block k (h.tlt k hk))
theorem TS.keptOff {S : Nat → Prop} (h : TS w base g b n most last cs T) (hk : Kept w w1 S) (hne : ∀ k, T k → ¬ S k) : TS w1 base g b n most last cs T := h.move (kept_size hk) (fun k hT => hk.2 k (h.tlt k hT) (hne k hT))
theorem wf_u64 {i : Int} (h0 : 0 ≤ i) (h1 : i < 18446744073709551616) : (Lit.int .u64 i).wf = true := Go.WalkArith.wf_u64 ⟨h0, by omega⟩
theorem TS.new {w : World} (h : Tab w1 w.heap.size g b 0 most 0 (.map [])) : TS w1 w.heap.size g b 0 most 0 [] (fun k => k = g ∨ k = b) :=
  ⟨⟨.map [], h, Maps.tidy_empty, rfl, fun i _ => ⟨(fun e => by simp [Maps.has] at e), (fun ⟨c, hc, _⟩ => by simp at hc)⟩, fun c hc => by simp at hc⟩, .inl rfl, .inr rfl,
    fun k hk => hk.elim (fun e => e ▸ h.glt.1) (fun e => e ▸ h.glt.2), fun c hc => by simp at hc, List.Pairwise.nil, List.Pairwise.nil, fun c hc => by simp at hc⟩
theorem lit_ne {i j : Int} (h : i ≠ j) : (Lit.int .u64 i) ≠ (Lit.int .u64 j) := fun e => by injection e with _ e; exact h e
theorem isKey (i : Int) : WideAt.IsKeyLit (.int .u64 i) := trivial
/-- OPENED: one cursor more -/
theorem TS.opened {D : DataW Value} {c : Cur} (h : TS w base g b n most last cs T) (hD : DOk w base g b n most last cs D) (hl : last < 3300000000000)
    (hc : c.h = (last : Int) + 1) (ht : Tab w1 base g b (n + 1) most ((last : Int) + 1) (D.put (.int .u64 ((last : Int) + 1)) (.held (curV c.ver (some ⟨c.gW, 0, none⟩))))) (h2 : Two2 w w1 g b)
    (hcur : CurAt w base g b (fun k => T k ∨ c.S k) c) (hoff : ∀ k, c.S k → ¬ T k) (hlt : ∀ k, c.S k → k < w.heap.size) : TS w1 base g b (n + 1) most (last + 1) (cs ++ [c]) (fun k => T k ∨ c.S k) := by
  obtain ⟨hd, htd, hsz, hhas, hat⟩ := hD
  have hnot : ¬ ∃ x ∈ cs, x.h = (last : Int) + 1 := fun ⟨x, hx, e⟩ => by have := (h.inr x hx).2; omega
  have hwf : (Lit.int .u64 ((last : Int) + 1)).wf = true := wf_u64 (by omega) (by omega)
  have hno : Maps.has D (.int .u64 ((last : Int) + 1)) = false := by
    cases e : Maps.has D (.int .u64 ((last : Int) + 1)) with
    | false => rfl
    | true => exact absurd ((hhas _ hwf).1 e) hnot
  refine ⟨⟨D.put (.int .u64 ((last : Int) + 1)) (.held (curV c.ver (some ⟨c.gW, 0, none⟩))), ?_, htd.put (isKey _) _, ?_, fun i hi => ?_, fun x hx => ?_⟩, .inl h.tg, .inl h.tb, fun k hk => ?_, fun x hx => ?_, ?_, ?_, fun x hx => ?_⟩
  · rw [show ((last + 1 : Nat) : Int) = (last : Int) + 1 from by omega]
    exact ht
  · rw [Maps.size_put htd, hno]
    simp [hsz]
  · by_cases e : i = (last : Int) + 1
    · subst e
      rw [Maps.has_put_same htd.isMap (isKey _)]
      exact ⟨fun _ => ⟨c, by simp, hc⟩, fun _ => rfl⟩
    · rw [Maps.has_put_other (lit_ne e), hhas i hi]
      constructor
      · rintro ⟨x, hx, e2⟩
        exact ⟨x, by simp [hx], e2⟩
      · rintro ⟨x, hx, e2⟩
        rcases List.mem_append.1 hx with hx | hx
        · exact ⟨x, hx, e2⟩
        · simp only [List.mem_singleton] at hx
          subst hx
          exact absurd (e2.symm.trans hc) e
  · rcases List.mem_append.1 hx with hx | hx
    · have : x.h ≠ (last : Int) + 1 := fun e => hnot ⟨x, hx, e⟩
      rw [Maps.atKey_put_other (lit_ne this)]
      exact hat x hx
    · simp only [List.mem_singleton] at hx
      subst hx
      rw [hc, Maps.atKey_put_same htd.isMap (isKey _)]
  · exact Nat.lt_of_lt_of_le (hk.elim (h.tlt k) (hlt k)) h2.1
  · rcases List.mem_append.1 hx with hx | hx
    · have hx2 := h.cur x hx
      exact hx2.move (fun k hk hlt => h2.2 k hlt (hx2.sub k hk).2.1 (hx2.sub k hk).2.2) (fun k hk => .inl hk)
    · simp only [List.mem_singleton] at hx
      subst hx
      exact hcur.move (fun k hk hlt => h2.2 k hlt (hcur.sub k hk).2.1 (hcur.sub k hk).2.2) (fun k hk => hk)
  · rw [List.pairwise_append]
    refine ⟨h.apart, List.pairwise_singleton _ _, fun x hx y hy k hk hk2 => ?_⟩
    simp only [List.mem_singleton] at hy
    subst hy
    exact hoff k hk2 ((h.cur x hx).sub k hk).1
  · rw [List.pairwise_append]
    refine ⟨h.rise, List.pairwise_singleton _ _, fun x hx y hy => ?_⟩
    simp only [List.mem_singleton] at hy
    subst hy
    have := (h.inr x hx).2
    omega
  · rcases List.mem_append.1 hx with hx | hx
    · have := h.inr x hx
      omega
    · simp only [List.mem_singleton] at hx
      subst hx
      omega
/-- CLOSED: without one -/
theorem TS.closed {D : DataW Value} {i : Int} (h : TS w base g b n most last cs T) (hD : DOk w base g b n most last cs D) (hi : (Lit.int .u64 i).wf = true) (ht : Tab w1 base g b n most (last : Int) (D.del (.int .u64 i))) (h2 : Two2 w w1 g b) (hin : Maps.has D (.int .u64 i) = true) :
    TS w1 base g b n most last (cs.filter (fun c => decide (c.h ≠ i))) T := by
  obtain ⟨hd, htd, hsz, hhas, hat⟩ := hD
  have hsub : ∀ c ∈ cs.filter (fun c => decide (c.h ≠ i)), c ∈ cs ∧ c.h ≠ i := fun c hc => by simpa using List.mem_filter.1 hc
  obtain ⟨x0, hx0, hxi⟩ := (hhas i hi).1 hin
  refine ⟨⟨D.del (.int .u64 i), ht, htd.del _, ?_, fun j hj => ?_, fun x hx => ?_⟩, h.tg, h.tb, fun k hk => Nat.lt_of_lt_of_le (h.tlt k hk) h2.1, fun x hx => ?_, h.apart.filter _, h.rise.filter _, fun x hx => h.inr x (hsub x hx).1⟩
  · have h5 := Maps.size_del htd (k := .int .u64 i)
    rw [hin, hsz] at h5
    simp only [if_true] at h5
    have h6 := filter_one h.rise hx0
    rw [hxi] at h6
    omega
  · by_cases e : j = i
    · subst e
      rw [Maps.has_del_same]
      exact ⟨(fun e => by cases e), fun ⟨x, hx, e⟩ => absurd e (hsub x hx).2⟩
    · rw [Maps.has_del_other (lit_ne e), hhas j hj]
      constructor
      · rintro ⟨x, hx, e2⟩
        exact ⟨x, List.mem_filter.2 ⟨hx, by simp; rw [e2]; exact e⟩, e2⟩
      · rintro ⟨x, hx, e2⟩
        exact ⟨x, (hsub x hx).1, e2⟩
  · rw [Maps.atKey_del_other (lit_ne (hsub x hx).2)]
    exact hat x (hsub x hx).1
  · have hx2 := h.cur x (hsub x hx).1
    exact hx2.move (fun k hk hlt => h2.2 k hlt (hx2.sub k hk).2.1 (hx2.sub k hk).2.2) (fun k hk => hk)
/-- A HIT IS TOLD: one walk has one entry less -/
theorem TS.told {i : Nat} {c c1 : Cur} (h : TS w base g b n most last cs T) (hi : cs[i]? = some c) (hh : c1.h = c.h) (hv : c1.ver = c.ver) (hg : c1.gW = c.gW) (hS : c1.S = c.S) (hk : Kept w w1 c.S) (hcur : CurAt w1 base g b T c1) : TS w1 base g b n most last (cs.set i c1) T := by
  obtain ⟨D, hd⟩ := h.tab
  have hil : i < cs.length := (List.getElem?_eq_some_iff.1 hi).1
  have hci : cs[i] = c := by rw [List.getElem?_eq_getElem hil] at hi; exact Option.some.inj hi
  have hcm : c ∈ cs := hci ▸ List.getElem_mem hil
  have hsub := (h.cur c hcm).sub
  have hmem : ∀ x ∈ cs.set i c1, x = c1 ∨ ∃ j, j ≠ i ∧ cs[j]? = some x := fun x hx => by
    obtain ⟨j, hj, e⟩ := List.mem_iff_getElem.1 hx
    by_cases hji : j = i
    · subst hji; simp at e; exact .inl e.symm
    · rw [List.getElem_set_ne (fun e => hji e.symm)] at e
      exact .inr ⟨j, hji, by rw [← e]; exact List.getElem?_eq_getElem (by simpa using hj)⟩
  have hin : c1 ∈ cs.set i c1 := List.mem_iff_getElem.2 ⟨i, by simpa using hil, by simp⟩
  have hmap : (cs.set i c1).map (·.h) = cs.map (·.h) := by
    rw [List.map_set, hh]
    apply List.ext_getElem? 
    intro j
    by_cases hji : i = j
    · subst hji
      rw [List.getElem?_set_self (by simpa using hil), List.getElem?_map, hi]; rfl
    · rw [List.getElem?_set_ne hji]
  have hall : ∀ P : Cur → Prop, (∀ x ∈ cs, P x) → P c1 → ∀ x ∈ cs.set i c1, P x := fun P h1 h2 x hx => by
    rcases hmem x hx with rfl | ⟨j, _, hj⟩
    · exact h2
    · exact h1 x (List.mem_of_getElem? hj)
  have hap : ∀ j x, j ≠ i → cs[j]? = some x → ∀ k, x.S k → ¬ c.S k := fun j x hji hj k hk hk2 => by
    have hjl : j < cs.length := (List.getElem?_eq_some_iff.1 hj).1
    have hje : cs[j] = x := by rw [List.getElem?_eq_getElem hjl] at hj; exact Option.some.inj hj
    rcases Nat.lt_or_gt_of_ne hji with hlt | hlt
    · exact List.pairwise_iff_getElem.1 h.apart j i hjl hil hlt k (hje ▸ hk) (hci ▸ hk2)
    · exact List.pairwise_iff_getElem.1 h.apart i j hil hjl hlt k (hci ▸ hk2) (hje ▸ hk)
  refine ⟨⟨D, hd.tab.same (hk.2 g hd.tab.glt.1 (fun e => (hsub g e).2.1 rfl)) (hk.2 b hd.tab.glt.2 (fun e => (hsub b e).2.2 rfl)), hd.tidy, by simpa using hd.size, fun j hj => ?_, hall _ hd.at_ (by rw [hh, hv, hg]; exact hd.at_ c hcm)⟩, h.tg, h.tb, fun k hT => Nat.lt_of_lt_of_le (h.tlt k hT) (kept_size hk), fun x hx => ?_, ?_, ?_, hall _ h.inr (by rw [hh]; exact h.inr c hcm)⟩
  · rw [hd.has j hj]
    have : (∃ x ∈ cs, x.h = j) ↔ j ∈ cs.map (·.h) := by simp
    have h2 : (∃ x ∈ cs.set i c1, x.h = j) ↔ j ∈ (cs.set i c1).map (·.h) := by simp only [List.mem_map]
    rw [this, h2, hmap]
  · rcases hmem x hx with rfl | ⟨j, hji, hj⟩
    · exact hcur
    · have hx2 := h.cur x (List.mem_of_getElem? hj)
      exact hx2.move (fun k hS2 hlt => hk.2 k hlt (hap j x hji hj k hS2)) (fun k hk => hk)
  · have h1 : (cs.map (·.S)).Pairwise (fun a b => ∀ k, a k → ¬ b k) := List.pairwise_map.2 h.apart
    have h2 : (cs.set i c1).map (·.S) = cs.map (·.S) := by
      rw [List.map_set, hS]
      apply List.ext_getElem?
      intro j
      by_cases hji : i = j
      · subst hji
        rw [List.getElem?_set_self (by simpa using hil), List.getElem?_map, hi]; rfl
      · rw [List.getElem?_set_ne hji]
    rw [← h2] at h1
    exact List.pairwise_map.1 h1
  · have h1 : (cs.map (·.h)).Pairwise (fun a b => a < b) := List.pairwise_map.2 h.rise
    rw [← hmap] at h1
    exact List.pairwise_map.1 h1
/-- the handles of the cursors, as the program lists them -/
theorem idsTo_eq {D : DataW Value} (hr : cs.Pairwise (fun a b => a.h < b.h)) (hin : ∀ c ∈ cs, 1 ≤ c.h) (hlb : last < 3300000000000) (hhas : ∀ i : Int, (Lit.int .u64 i).wf = true → (Maps.has D (.int .u64 i) = true ↔ ∃ c ∈ cs, c.h = i)) :
    ∀ m, m ≤ last → idsTo D m = (cs.map (·.h)).filter (fun x => decide (x ≤ (m : Int))) := by
  intro m
  induction m with
  | zero =>
    intro _
    symm
    rw [idsTo, List.filter_eq_nil_iff]
    intro x hx
    obtain ⟨c, hc, rfl⟩ := List.mem_map.1 hx
    have := hin c hc
    simp; omega
  | succ m ih =>
    intro hm
    rw [idsTo, ih (by omega)]
    have hr2 : (cs.map (·.h)).Pairwise (fun a b => a < b) := List.pairwise_map.2 hr
    rw [show ((m + 1 : Nat) : Int) = (m : Int) + 1 from by omega, filter_succ hr2]
    have h3 := hhas ((m : Int) + 1) (wf_u64 (by omega) (by omega))
    have h4 : (∃ c ∈ cs, c.h = (m : Int) + 1) ↔ ((m : Int) + 1) ∈ cs.map (·.h) := by simp
    rw [h4] at h3
    by_cases hmem : ((m : Int) + 1) ∈ cs.map (·.h)
    · rw [if_pos (h3.2 hmem), if_pos hmem]
    · rw [if_neg (fun e => hmem (h3.1 e)), if_neg hmem, List.append_nil]
theorem TS.ids {D : DataW Value} (h : TS w base g b n most last cs T) (hD : DOk w base g b n most last cs D) (hl : last < 3300000000000) : idsTo D last = cs.map (·.h) := by
  rw [idsTo_eq h.rise (fun c hc => (h.inr c hc).1) hl hD.has last (Nat.le_refl _)]
  rw [List.filter_eq_self]
  intro x hx
  obtain ⟨c, hc, rfl⟩ := List.mem_map.1 hx
  simpa using (h.inr c hc).2
end
end Go.Proofs.Ytncbnejldlfbdaa.PCur
