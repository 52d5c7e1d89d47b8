/- That the laws' lives of a walk holds, and what the law FrontNone answers; no condition. -/
import Derived.Test.YtncbnejldlfbdaaFX
namespace Go.Proofs.Ytncbnejldlfbdaa.PHeap
open Go.RowKit Go.Proofs.YtncbnejldlfbdaaW.PrintWords Go.Proofs.YtncbnejldlfbdaaW.PrintLast Go.Proofs.YtncbnejldlfbdaaW.PrintMore
set_option linter.unusedVariables false
set_option linter.unusedSimpArgs false
def two : List Ent := [(3, -1, 7), (3, -1, 2)]
theorem two_first {l : List Ent} (hp : l.Perm two) (ho : Heaped l) : 0 < l.length ∧ l.length = 2 ∧ gt l 0 = (3, -1, 2) := by
  have hl : l.length = 2 := hp.length_eq
  have hn : 0 < l.length := by omega
  refine ⟨hn, hl, ?_⟩
  have hm : gt l 0 ∈ two := hp.mem_iff.1 (by rw [gt_eq hn]; exact List.getElem_mem hn)
  have h2 : ((3, -1, 2) : Ent) ∈ l := hp.mem_iff.2 (by simp [two])
  have hle := ho.least _ h2
  simp only [two, List.mem_cons, List.not_mem_nil, or_false] at hm
  rcases hm with hm | hm
  · rw [hm] at hle
    simp [leE] at hle
  · exact hm
theorem two_rest {l l' : List Ent} (hp : l.Perm two) (hf : gt l 0 = (3, -1, 2)) (hq : (gt l 0 :: l').Perm l) : 0 < l'.length ∧ gt l' 0 = (3, -1, 7) := by
  have h1 : (((3, -1, 2) : Ent) :: l').Perm [(3, -1, 2), (3, -1, 7)] := by
    have h := (hq.trans hp).trans (List.Perm.swap ((3, -1, 2) : Ent) (3, -1, 7) [])
    rwa [hf] at h
  have h2 := List.perm_singleton.1 (List.Perm.cons_inv h1)
  subst h2
  exact ⟨by decide, rfl⟩
abbrev twoO : Obj := .cells #[.int .i64 3, .int .i64 (-1), .int .u64 7, .int .i64 3, .int .i64 (-1), .int .u64 2] 98
theorem two_ents (w : World) : Ents (w.alloc twoO) (some ⟨w.heap.size, 0, none⟩) two := fun i hi => by
  have hb := blk_new w twoO
  refine ⟨_, rfl, ?_⟩
  rw [add_plain, add_plain, add_plain, blk_cell hb, blk_cell hb, blk_cell hb]
  have : i = 0 ∨ i = 1 := by simp only [two, List.length_cons, List.length_nil] at hi; omega
  rcases this with rfl | rfl
  · exact ⟨rfl, rfl, rfl⟩
  · exact ⟨rfl, rfl, rfl⟩
theorem new_two (w : World) : Calls Try.prog 40 #[.nilFunc, .slice (some ⟨w.heap.size, 0, none⟩) 2 2] (w.alloc twoO) fun e w' => ∃ gW l, e = .returned (.pointer (some ⟨gW, 0, none⟩)) ∧ Aside0 (Wk w' w.heap.size gW .nilFunc l 0 (fun k => w.heap.size ≤ k)) ∧ Aside0 (l.Perm two) ∧ Aside0 (Heaped l) ∧ Aside0 (Below w.heap.size w w') :=
  (new_nil (some ⟨w.heap.size, 0, none⟩) two 2 (w.alloc twoO) (two_ents w) (by decide) (by decide)).mono fun e w' ⟨gW, l, he, hw, hp, hb⟩ =>
    have hs : w.heap.size ≤ (w.alloc twoO).heap.size := by simp
    ⟨gW, l, he, ⟨(hw.out.weaken hs).mono (fun k hk => Nat.le_trans hs hk)⟩, hp, ⟨by obtain ⟨_, _, _, _, _, ho, _⟩ := hw.out; exact ho⟩, ⟨below_step (below_alloc (Below.refl w.heap.size w) twoO) hb.out⟩⟩
set_option maxHeartbeats 4000000 in
set_option maxRecDepth 1000000 in
theorem lives_calls (w : World) : Calls Try.prog 15 #[] w fun e w' => e = .returned (.bool true) ∧ Below w.heap.size w w' := by
  have hu98 := Try.underlying98
  have hu31 := Try.underlying31
  go_enter Try.func15, Try.ntmps15
  go_wp2_with (first | (go_at_call 40; (with_reducible refine (new_two w).mono ?_); rintro e w1 ⟨gW, l, rfl, h1, h2, h3, h4⟩; have H1 := h1; have H3 := Aside0.mk (two_first h2.out h3.out); have H2 := h2; have H4 := h4; clear h1 h2 h3 h4) | (go_at_call 18; (with_reducible refine (next_yes gW w.heap.size .nilFunc l 0 _ w _ H1.out H4.out H4.out.size H3.out.1 (by rw [H3.out.2.2]; decide) (by rw [H3.out.2.2]; decide) (by rw [H3.out.2.1]; decide)).mono ?_); rintro e w2 ⟨rfl, l1, h1, h2, h3, h4⟩; rw [H3.out.2.2]; have K1 := Aside0.mk (h1.out.below (below_alloc (Below.refl _ _) (.cells #[.int .u64 2, .int .i64 3] 31))); have K2 := Aside0.mk (two_rest H2.out H3.out.2.2 h2.out); have K3 := Aside0.mk (h3.out.alloc (Nat.le_trans H4.out.size (kept_size h4.out)) (.cells #[.int .u64 2, .int .i64 3] 31)); clear h1 h2 h3 h4) | (go_at_call 19; (with_reducible refine (low_yes gW w.heap.size .nilFunc l1 0 _ _ K1.out K2.out.1).mono ?_); rintro e w3 ⟨rfl, hb⟩; rw [K2.out.2]; have M := Aside0.mk (K3.out.trans (hb.mono (by simpa using K3.out.size))); clear hb))
  go_ret
  exact ⟨rfl, M.out⟩
set_option maxHeartbeats 4000000 in
set_option maxRecDepth 1000000 in
theorem none_calls (k r : Int) (w : World) : Calls Try.prog 5 #[.int .i64 k, .int .i64 r] w fun e w' => e = .returned (.bool true) ∧ Below w.heap.size w w' := by
  have hu31 := Try.underlying31
  go_enter Try.func5, Try.ntmps5
  go_wp2_with (first | (go_at_call 18; (with_reducible refine (next_nil _).mono ?_); rintro e w1 ⟨rfl, hb⟩; have HX := Aside0.mk (below_alloc hb (.cells #[.int .u64 0, .int .i64 0] 31)); clear hb) | (go_at_call 19; (with_reducible refine (low_nil _).mono ?_); rintro e w_ ⟨rfl, rfl⟩) | (go_at_call 20; (with_reducible refine (opened_nil _).mono ?_); rintro e w_ ⟨rfl, rfl⟩) | (go_at_call 17; (with_reducible refine (take_nil _ _).mono ?_); rintro e w2 ⟨rfl, hb⟩; have HY := Aside0.mk (below_step HX.out hb); clear hb) | (go_at_call 21; (with_reducible refine (upto_nil _ _).mono ?_); rintro e w_ ⟨rfl, rfl⟩) | (go_at_call 15; (with_reducible refine (lives_calls _).mono ?_); rintro e w3 ⟨rfl, hb⟩; have HZ := Aside0.mk (below_step HY.out hb); clear hb))
  go_ret
  exact ⟨rfl, HZ.out⟩
end Go.Proofs.Ytncbnejldlfbdaa.PHeap
