/- What may of the law's package tells of a graph; of rows that are no longer than a slice can be. -/
import Derived.Test.YtncbnejldlfbdaaGG
import Derived.Maps.AppendAt
namespace Go.Proofs.Ytncbnejldlfbdaa.PHeap
open Go.RowKit Go.Proofs.YtncbnejldlfbdaaW.PrintWords Go.Proofs.YtncbnejldlfbdaaW.PrintLast Go.Proofs.YtncbnejldlfbdaaW.PrintMore
set_option linter.unusedVariables false
set_option linter.unusedSimpArgs false
theorem info40 : (Try.prog.info? 40).map (fun i => (i.zero, i.size, i.bytes)) = some (some (.slice none 0 0), 1, 24) := by kernel_rfl
theorem own_one (W : World) (v0 : Value) : (W.alloc (.cells #[v0] 40)).ownsRow W.heap.size 40 1 (.slice (some ⟨W.heap.size, 0, none⟩) 1 1) 1 [v0] :=
  ⟨rfl, .inr ⟨W.heap.size, 1, #[v0], rfl, Nat.le_refl _, blk_new W _, Nat.le_refl _, by decide, rfl, rfl⟩⟩
/-- a row of one slice, appended to by what came in: what it then holds -/
theorem append_rows {W : World} {ops : Array Oper} {rest : List Oper} {o : Oper} {a : Act} {Q : Exit → Act → World → Prop} (hgd : o.guard = none) (s x : Operand)
    (ho : o.op = .call { callee := .builtin .append, args := #[s, x], argTypes := #[41, 41] }) (v0 : Value) (A : Option Addr) (m c : Nat) (news : List Value)
    (hs : a.eval s = .slice (some ⟨W.heap.size, 0, none⟩) 1 1) (hx : a.eval x = .slice A m c) (hn : news.length = m) (hnil : A = none → m = 0)
    (hc : ∀ ad j u, A = some ad → news[j]? = some u → (W.alloc (.cells #[v0] 40)).cell? (ad.add j) = some u) (h1 : ∀ u ∈ news, u.oneCell' = true) (hm : m ≤ 8)
    (h : ∀ v' w', w'.ownsRow W.heap.size 40 1 v' (1 + m) (v0 :: news) → Below W.heap.size W w' → wpList Try.prog ops Q rest (a.put o.dst v') w') :
    wpList Try.prog ops Q (o :: rest) a (W.alloc (.cells #[v0] 40)) := by
  obtain ⟨i0, hi, hzz⟩ := Option.map_eq_some_iff.1 info40
  simp only [Prod.mk.injEq] at hzz
  obtain ⟨hz0, hz1, hz2⟩ := hzz
  have hB := below_alloc (Below.refl W.heap.size W) (.cells #[v0] 40)
  rcases A with _ | ad
  · have hm0 := hnil rfl
    subst hm0
    obtain rfl : news = [] := List.eq_nil_of_length_eq_zero hn
    refine wpList_plain hgd fun _ hK => ?_
    unfold Oper.wp execOp
    have hrun : (Builtin.append_ #[41, 41] o.type #[.slice (some ⟨W.heap.size, 0, none⟩) 1 1, .slice none 0 c]).run Try.prog (W.alloc (.cells #[v0] 40)) = .ok (.slice (some ⟨W.heap.size, 0, none⟩) 1 1) (W.alloc (.cells #[v0] 40)) := by
      simp [Builtin.append_, run_underlying Try.underlying41, sizeOf, typeInfo, hi, Builtin.lenOf, Builtin.firstCells, storeCells]
    simp only [ho, resolve, invoke, builtin, Sem.run_bind, Sem.run_pure, Result.andThen_ok, List.map_toArray, List.map_cons, List.map_nil, hs, hx, hrun]
    exact hK _ _ (h _ _ (own_one W v0) hB)
  · refine wpList_append_own_at (W.alloc (.cells #[v0] 40)) hgd s x 41 ho W.heap.size 40 i0 (.slice none 0 0) 1 24 Try.underlying41 hi hz0 hz1 hz2 rfl (by decide) (.slice (some ⟨W.heap.size, 0, none⟩) 1 1) 1 [v0] hs (own_one W v0) ad m c news hx (by rw [hn]; omega) (fun j u hj => hc ad j u rfl hj) h1 (by simp only [maxLen]; omega) (by omega) (by simp) ?_
    intro v1 w1 hown hg _ hat
    exact h v1 w1 hown (hB.grown hg (by simp) (fun k hk => by simp [Value.ownBlock] at hk; omega))
theorem gb_cons (es : List Ent) (bs : List (List Ent)) (j : Nat) : gb (es :: bs) (j + 1) = gb bs j := rfl
theorem gb_zero (es : List Ent) (bs : List (List Ent)) : gb (es :: bs) 0 = es := rfl
theorem behind_vals {w : World} {A : Option Addr} {bs : List (List Ent)} (h : Behind w A bs) : ∃ vs : List Value, vs.length = bs.length ∧ (∀ ad j u, A = some ad → vs[j]? = some u → w.cell? (ad.add j) = some u) ∧
    (∀ j, j < bs.length → ∃ B c, vs[j]? = some (.slice B (gb bs j).length c) ∧ Ents w B (gb bs j) ∧ (gb bs j).length ≤ c ∧ c ≤ maxLen) ∧ ∀ u ∈ vs, u.oneCell' = true := by
  have h2 : ∀ j, ∃ u : Value, j < bs.length → (∀ ad, A = some ad → w.cell? (ad.add j) = some u) ∧ ∃ B c, u = .slice B (gb bs j).length c ∧ Ents w B (gb bs j) ∧ (gb bs j).length ≤ c ∧ c ≤ maxLen := by
    intro j
    by_cases hj : j < bs.length
    · obtain ⟨ad, B, c, hA, hc, he, hl, hm⟩ := h j hj
      refine ⟨_, fun _ => ⟨fun ad' e => ?_, B, c, rfl, he, hl, hm⟩⟩
      rw [hA] at e
      cases e
      exact hc
    · exact ⟨undef, fun e => absurd e hj⟩
  refine ⟨(List.range bs.length).map (fun j => Classical.choose (h2 j)), by simp, fun ad j u hA hu => ?_, fun j hj => ?_, fun u hu => ?_⟩
  · have hj : j < bs.length := by have := (List.getElem?_eq_some_iff.1 hu).1; simpa using this
    have e : ((List.range bs.length).map (fun j => Classical.choose (h2 j)))[j]? = some (Classical.choose (h2 j)) := by simp [hj]
    rw [e] at hu
    cases hu
    exact (Classical.choose_spec (h2 j) hj).1 ad hA
  · obtain ⟨B, c, e, r⟩ := (Classical.choose_spec (h2 j) hj).2
    refine ⟨B, c, ?_, r⟩
    rw [← e]
    simp [hj]
  · obtain ⟨j, hj, rfl⟩ := List.mem_map.1 hu
    obtain ⟨B, c, e, r⟩ := (Classical.choose_spec (h2 j) (by simpa using hj)).2
    rw [e]
    rfl
theorem behind_own {w w' : World} {base : Nat} {v' : Value} {A0 : Option Addr} {es : List Ent} {c0 : Nat} {bs : List (List Ent)} {vs : List Value} (hown : w'.ownsRow base 40 1 v' (1 + bs.length) (.slice A0 es.length c0 :: vs)) (he : Ents w A0 es) (hc0 : es.length ≤ c0) (hm0 : c0 ≤ maxLen)
    (hvs : ∀ j, j < bs.length → ∃ B c, vs[j]? = some (.slice B (gb bs j).length c) ∧ Ents w B (gb bs j) ∧ (gb bs j).length ≤ c ∧ c ≤ maxLen) (hb : Below w.heap.size w w') : ∃ A cap, v' = .slice A (es :: bs).length cap ∧ Behind w' A (es :: bs) := by
  obtain ⟨g, cap, cur, rfl, hbL, hg, hcell, hfr⟩ := (Row.of_own hown).at_ (by omega)
  refine ⟨some ⟨g, 0, none⟩, cap, by rw [List.length_cons, Nat.add_comm], fun j hj => ?_⟩
  have hj2 : j < 1 + bs.length := by simpa [Nat.add_comm] using hj
  have h3 := hcell j (by omega)
  cases j with
  | zero => exact ⟨_, A0, c0, rfl, by rw [add_plain]; exact h3, he.below hb, hc0, hm0⟩
  | succ j =>
    obtain ⟨B, c, e, h4, h5⟩ := hvs j (by omega)
    exact ⟨_, B, c, rfl, by rw [add_plain, h3, List.getElem?_cons_succ]; exact e, h4.below hb, h5⟩
def RetM (P : Bool → Prop) (w : World) (e : Ending) (w' : World) : Prop := ∃ b : Bool, e = .returned (.bool b) ∧ Aside0 (P b) ∧ Aside0 (Below w.heap.size w w')
/-- what is known of a graph that may be walked -/
def MayP (es : List Ent) (bs : List (List Ent)) (b : Bool) : Prop := b = true → AllForw true bs ∧ bs.length ≤ 8 ∧ ∀ j, j < (es :: bs).length → (gb (es :: bs) j).length ≤ 4
set_option maxHeartbeats 8000000 in
set_option maxRecDepth 1000000 in
theorem may_calls (A0 A1 : Option Addr) (es : List Ent) (bs : List (List Ent)) (c0 c1 : Nat) (w : World) (hE : Ents w A0 es) (hBs : Behind w A1 bs) (hc : es.length ≤ c0) (hm : c0 ≤ maxLen) (hl : bs.length ≤ 9223372036854775807) :
    Calls Try.prog 14 #[.agg #[.slice A0 es.length c0, .slice A1 bs.length c1]] w (RetM (MayP es bs) w) := by
  have hu43 := Try.underlying43
  have hu98 := Try.underlying98
  have HBB := Aside0.mk (below_alloc (Below.refl w.heap.size w) (.cells #[.slice A0 es.length c0, .slice A1 bs.length c1] 43))
  have HE := Aside0.mk (hE.below HBB.out)
  have HBS := Aside0.mk (hBs.below HBB.out)
  have HC := Aside0.mk hc
  have HM := Aside0.mk hm
  have HL := Aside0.mk hl
  have HX := Aside0.mk (blk_new w (.cells #[.slice A0 es.length c0, .slice A1 bs.length c1] 43))
  clear hE hBs hc hm hl
  by_cases hb8 : 8 < bs.length
  · have h8 : (8 : Int) < (bs.length : Int) := by omega
    go_enter Try.func14, Try.ntmps14
    go_wp2
    go_ret
    exact ⟨false, rfl, ⟨fun h => by cases h⟩, HBB⟩
  · have h8 : ¬ (8 : Int) < (bs.length : Int) := by omega
    have HB8 : Aside0 (bs.length ≤ 8) := ⟨by omega⟩
    clear hb8
    by_cases he8 : 8 < es.length
    · have h9 : (8 : Int) < (es.length : Int) := by omega
      clear he8
      go_enter Try.func14, Try.ntmps14
      go_wp2
      go_ret
      exact ⟨false, rfl, ⟨fun h => by cases h⟩, HBB⟩
    · have h9 : ¬ (8 : Int) < (es.length : Int) := by omega
      clear he8
      go_enter Try.func14, Try.ntmps14
      go_upto_if 21 with ((go_at_call 39; (with_reducible refine (forward_calls A1 c1 bs _ HBS.out HL.out).mono ?_); rintro e w' ⟨b, rfl, h1, rfl⟩; have HF := h1; clear h1))
      generalize hW : (w.alloc (.cells #[.slice A0 es.length c0, .slice A1 bs.length c1] 43)) = W at *
      have hx0 : W.cell? ⟨w.heap.size, 0, none⟩ = some (.slice A0 es.length c0) := (blk_cell HX.out 0).trans rfl
      have hx1 : W.cell? ⟨w.heap.size, 1, none⟩ = some (.slice A1 bs.length c1) := (blk_cell HX.out 1).trans rfl
      have HW := Aside0.mk hW
      clear hW
      cases b with
      | false =>
        go_wp2
        go_ret
        exact ⟨false, rfl, ⟨fun h => by cases h⟩, HBB⟩
      | true =>
        obtain ⟨vs, hv1, hv2, hv3, hv4⟩ := behind_vals HBS.out
        have hbA := below_alloc (Below.refl W.heap.size W) (.cells #[.slice A0 es.length c0] 40)
        have V1 := Aside0.mk hv1
        have V2 : Aside0 (∀ ad j u, A1 = some ad → vs[j]? = some u → (W.alloc (.cells #[.slice A0 es.length c0] 40)).cell? (ad.add j) = some u) := ⟨fun ad j u e hu => pw_cell_below hbA (hv2 ad j u e hu)⟩
        have V3 := Aside0.mk hv3
        have V4 := Aside0.mk hv4
        have V5 : Aside0 (A1 = none → bs.length = 0) := ⟨fun e => Classical.byContradiction fun h0 => by obtain ⟨ad, _, _, e2, _⟩ := HBS.out 0 (by omega); rw [e] at e2; cases e2⟩
        have hx2 : (W.alloc (.cells #[.slice A0 es.length c0] 40)).cell? ⟨w.heap.size, 1, none⟩ = some (.slice A1 bs.length c1) := (blk_cell (blk_alloc HX.out _) 1).trans rfl
        clear hv1 hv2 hv3 hv4 hbA
        go_wp2_with (((with_reducible refine gate_builtin (b := .append) (xs := #[.tmp 24, .tmp 26]) rfl ?_); refine append_rows rfl (.tmp 24) (.tmp 26) rfl (.slice A0 es.length c0) A1 bs.length c1 vs rfl rfl V1.out V5.out V2.out V4.out HB8.out ?_; intro v' w1 hown hb1; obtain ⟨AA, cap, rfl, hbeh⟩ := behind_own hown HE.out HC.out HM.out V3.out hb1; have Z1 := Aside0.mk hbeh; have Z2 := Aside0.mk hb1; clear hown hb1 hbeh))
        have HF2 : Aside0 (AllForw true bs) := HF
        clear hx0 hx1 hx2 V1 V2 V3 V4 V5
        have hn9 : (bs.length : Int) ≤ 8 := by have := HB8.out; omega
        go_loop [4] (fun v4 => ∃ i : Nat, v4 = .int .i64 (i : Int) ∧ Aside0 (i ≤ bs.length + 1) ∧ Aside0 (∀ j, j < i → (gb (es :: bs) j).length ≤ 4)) (fun v4 => (bs.length + 1) - (intOf v4).toNat)
        case atStart => exact ⟨0, rfl, ⟨Nat.zero_le _⟩, ⟨fun j hj => absurd hj (by omega)⟩⟩
        case round =>
          obtain ⟨i, rfl, HI, HA⟩ := hrel
          have hib : (i : Int) ≤ 9 := by have := HI.out; omega
          by_cases hi : i < bs.length + 1
          · obtain ⟨ad, B, c, rfl, hc, he, hlc, hcm⟩ := Z1.out i (by simpa using hi)
            have d1 : decide (i < bs.length + 1) = true := decide_eq_true hi
            have d1' : decide ((i : Int) < (bs.length : Int) + 1) = true := decide_eq_true (by omega)
            obtain ⟨fs, hfs⟩ : ∃ fs, gb (es :: bs) i = fs := ⟨_, rfl⟩
            rw [hfs] at hc he
            have HEF := Aside0.mk he
            have HFS := Aside0.mk hfs
            clear he hfs hcm hlc
            by_cases hl4 : 4 < fs.length
            · have h4 : (4 : Int) < (fs.length : Int) := by omega
              clear hl4
              go_wp2
              go_ret
              exact ⟨false, rfl, ⟨fun h => by cases h⟩, ⟨below_step HBB.out Z2.out⟩⟩
            · have h4 : ¬ (4 : Int) < (fs.length : Int) := by omega
              have HL4 : Aside0 (fs.length ≤ 4) := ⟨by omega⟩
              clear hl4
              go_wp2
              go_loop [5] (fun v5 => ∃ k : Nat, v5 = .int .i64 (k : Int) ∧ Aside0 (k ≤ fs.length)) (fun v5 => fs.length - (intOf v5).toNat)
              case atStart => exact ⟨0, rfl, ⟨Nat.zero_le _⟩⟩
              case round =>
                obtain ⟨k, rfl, HK⟩ := hrel
                have hkb : (k : Int) ≤ 4 := by have := HK.out; have := HL4.out; omega
                by_cases hk : k < fs.length
                · obtain ⟨bd, rfl, x0, x1, x2⟩ := HEF.out k hk
                  have d2 : decide (k < fs.length) = true := decide_eq_true hk
                  clear x1 x2
                  by_cases hmx : 1125899906842624 < (gt fs k).1
                  · go_wp2
                    go_ret
                    exact ⟨false, rfl, ⟨fun h => by cases h⟩, ⟨below_step HBB.out Z2.out⟩⟩
                  · go_wp2
                    go_round
                    case rel => exact ⟨k + 1, by go_num, ⟨by omega⟩⟩
                    case measure => simp [intOf]; omega
                · have d2 : decide (k < fs.length) = false := decide_eq_false hk
                  go_wp2
                  go_round
                  case rel => exact ⟨i + 1, by go_num, ⟨by omega⟩, ⟨fun j hj => by
                    by_cases e : j = i
                    · subst e; rw [HFS.out]; exact HL4.out
                    · exact HA.out j (by omega)⟩⟩
                  case measure => simp [intOf]; omega
          · have hi2 := HI.out
            have d1 : decide (i < bs.length + 1) = false := decide_eq_false hi
            have d1' : decide ((i : Int) < (bs.length : Int) + 1) = false := decide_eq_false (by omega)
            go_wp2
            go_ret
            exact ⟨true, rfl, ⟨fun _ => ⟨HF2.out, HB8.out, fun j hj => HA.out j (by simp at hj; omega)⟩⟩, ⟨below_step HBB.out Z2.out⟩⟩
end Go.Proofs.Ytncbnejldlfbdaa.PHeap
