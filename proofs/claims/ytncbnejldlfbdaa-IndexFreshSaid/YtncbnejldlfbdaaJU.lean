/- Of any items and any numbers the law IndexFresh answers true; of fewer than 2 513 169 434 844 items. -/
import Derived.Test.YtncbnejldlfbdaaJT
import Derived.Test.YtncbnejldlfbdaaJV
import Derived.Deep.RegionHeld3
import Derived.Deep.DeepCutAuto
import Derived.BigRegion
namespace Go.Proofs.Ytncbnejldlfbdaa.PIdx
open Go.RowKit Go.Proofs.YtncbnejldlfbdaaW.PrintWords Go.Proofs.YtncbnejldlfbdaaW.PrintLast Go.Proofs.YtncbnejldlfbdaaW.PrintMore
open Go.Proofs.Ytncbnejldlfbdaa.PIndexFresh
open Go.Proofs.Ytncbnejldlfbdaa.PHeap (Row)
open Go.Maps (Keyed int_keyed keyOf_int_mk)
open Go.ChangeMaps Go.MapKept
set_option linter.unusedVariables false
set_option linter.unusedSimpArgs false
/-- the argument there has been boxed -/
def Ok (w W : World) (At : Option Addr) (Z : List Int) (ct : Nat) : Prop := Below w.heap.size w W ∧ W.heap[w.heap.size]? = some (.cells #[.slice At Z.length ct] 36 (0, 0))
theorem Ok.below {w W W1 : World} {At : Option Addr} {Z : List Int} {ct : Nat} (h : Ok w W At Z ct) (hb : Below W.heap.size W W1) : Ok w W1 At Z ct := ⟨below_step h.1 hb, blk_below h.2 hb⟩
theorem own_ne36 {w : World} {base g n : Nat} {v : Value} {xs : List Value} {cs : Array Value} (h : Row w base 22 1 v n xs) (hg : w.heap[g]? = some (.cells cs 36 (0, 0))) : v.ownBlock ≠ some g := fun e => h.ne hg (by decide) g e rfl
theorem Ok.cell {w W : World} {At : Option Addr} {Z : List Int} {ct : Nat} (h : Ok w W At Z ct) : W.cell? ⟨w.heap.size, 0, none⟩ = some (.slice At Z.length ct) := (blk_cell h.2 0).trans rfl
set_option maxHeartbeats 40000000 in
set_option maxRecDepth 1000000 in
theorem law_calls (A : Option Addr) (c : Nat) (T : List It) (n : Nat) (At : Option Addr) (ct : Nat) (Z : List Int) (w : World) (hT : ItemsIn w A T) (hn : T.length = n) (hc : n ≤ c) (hbig : n ≤ 2513169434843) (hZ : (Kd.int .u64).C w At Z.length Z) (hct : Z.length ≤ ct) (hZl : Z.length < 9223372036854775807) :
    Calls Try.prog 6 #[.slice A n c, .slice At Z.length ct] w fun e w' => e = .returned (.bool true) ∧ Below w.heap.size w w' := by
  have hu54 := Try.underlying54
  have hu65 := Try.underlying65
  have hu36 := Try.underlying36
  have HN : Aside0 (T.length = n ∧ n ≤ 2513169434843) := ⟨hn, hbig⟩
  have hnil : A = none → n = 0 := fun e => by
    by_cases h0 : n = 0
    · exact h0
    · obtain ⟨_, e2, _⟩ := hT.1 (by omega)
      rw [e] at e2; cases e2
  have HT := Aside0.mk hT
  have HP : Aside0 (∀ W, Ok w W At Z ct → ∀ (id : Int) (W1 : World), Below W.heap.size W W1 → Calls Try.prog 22 #[.int .u64 id, .pointer (some ⟨w.heap.size, 0, none⟩)] W1 fun e w' => e = .returned (.bool (decide (id ∈ Z))) ∧ Below W1.heap.size W1 w') := ⟨fun W hW id W1 hb => has_calls w.heap.size Z At ct W1 id (hW.below hb).cell (Kd.C_below hZ (below_step hW.1 hb)) hct hZl⟩
  have C24 : Aside0 (∀ W, Ok w W At Z ct → Calls Try.prog 24 #[.slice A n c, .func (.func 22) #[] #[.pointer (some ⟨w.heap.size, 0, none⟩)]] W fun e w' => ∃ m f, e = .returned (.tuple #[.int .i64 m, .int .i64 f]) ∧ FreshAt T (fun id => decide (id ∈ Z)) m f ∧ Ok w w' At Z ct) := ⟨fun W hW => (fresh_calls w.heap.size A n c T (fun id => decide (id ∈ Z)) W (hT.1.below hW.1) hn (by omega) hT.2.2 (HP.out W hW)).mono fun e w' ⟨m, f, h1, h2, h3⟩ => ⟨m, f, h1, h2.out, hW.below h3.out⟩⟩
  have C25 : Aside0 (∀ W m f, Ok w W At Z ct → FreshAt T (fun id => decide (id ∈ Z)) m f → Calls Try.prog 25 #[.slice A n c, .slice At Z.length ct] W fun e w' => e = .returned (.tuple #[.int .i64 m, .int .i64 f]) ∧ Ok w w' At Z ct) := ⟨fun W m f hW hf => by
    obtain ⟨k, hk⟩ := (fresh_ev T Z (by omega) hZl m f hf).rounds
    have h1 := waywiserref21_Fresh.calls k A c (T.map It.x) At ct Z m f W (by rw [List.length_map]; exact reads_of (hT.1.below hW.1) (hT.2.1.below hW.1) (by omega)) (by rw [List.length_map]; omega) (Kd.C_below hZ hW.1) hct hk
    rw [List.length_map, hn] at h1
    exact h1.mono fun e w' ⟨h2, h3⟩ => ⟨h2, hW.below h3.below⟩⟩
  have C23 : Aside0 (∀ W id, Ok w W At Z ct → Calls Try.prog 23 #[.slice At Z.length ct, .int .u64 id] W fun e w' => e = .returned (.bool (decide (id ∈ Z))) ∧ Below W.heap.size W w') := ⟨fun W id hW => by
    obtain ⟨k, hk⟩ := (in_ev Z id hZl).rounds
    exact (waywiserref21_In.calls k At ct Z id (decide (id ∈ Z)) W (Kd.C_below hZ hW.1) hct hk).mono fun e w' ⟨h2, h3⟩ => ⟨h2, h3.below⟩⟩
  have C27 : Aside0 (∀ W, Ok w W At Z ct → Calls Try.prog 27 #[.slice A n c, .func (.func 22) #[] #[.pointer (some ⟨w.heap.size, 0, none⟩)]] W fun e w' => ∃ A' c', e = .returned (.slice A' (missL T (fun id => decide (id ∈ Z)) n).length c') ∧ Row w' W.heap.size 22 1 (.slice A' (missL T (fun id => decide (id ∈ Z)) n).length c') (missL T (fun id => decide (id ∈ Z)) n).length (us (missL T (fun id => decide (id ∈ Z)) n)) ∧ Below W.heap.size W w') := ⟨fun W hW => (missing_calls w.heap.size A n c T (fun id => decide (id ∈ Z)) W (hT.1.below hW.1) hn hbig (HP.out W hW)).mono fun e w' ⟨A', c', h1, h2, h3⟩ => ⟨A', c', h1, h2.out, h3.out⟩⟩
  have HML : (missL T (fun id => decide (id ∈ Z)) n).length ≤ 9223372036854775807 := by have := miss_le T (fun id => decide (id ∈ Z)) n; omega
  have C26 : Aside0 (∀ W b1 b2 A1 c1 A2 c2, Row W b1 22 1 (.slice A1 (missL T (fun id => decide (id ∈ Z)) n).length c1) (missL T (fun id => decide (id ∈ Z)) n).length (us (missL T (fun id => decide (id ∈ Z)) n)) → Row W b2 22 1 (.slice A2 (missL T (fun id => decide (id ∈ Z)) n).length c2) (missL T (fun id => decide (id ∈ Z)) n).length (us (missL T (fun id => decide (id ∈ Z)) n)) → Calls Try.prog 26 #[.slice A1 (missL T (fun id => decide (id ∈ Z)) n).length c1, .slice A2 (missL T (fun id => decide (id ∈ Z)) n).length c2] W fun e w' => e = .returned (.bool true) ∧ Below W.heap.size W w') := ⟨fun W b1 b2 A1 c1 A2 c2 h1 h2 => by
    obtain ⟨k, hk⟩ := (same14_ev (missL T (fun id => decide (id ∈ Z)) n) HML).rounds
    have g1 : (missL T (fun id => decide (id ∈ Z)) n).length ≤ c1 := by obtain ⟨_, _, e, h⟩ := h1.form; injection e with _ _ e; rw [e]; exact h
    have g2 : (missL T (fun id => decide (id ∈ Z)) n).length ≤ c2 := by obtain ⟨_, _, e, h⟩ := h2.form; injection e with _ _ e; rw [e]; exact h
    exact (waywiserref14_Same.calls k A1 c1 _ A2 c2 _ true W (nums_read h1 HML) g1 (nums_read h2 HML) g2 hk).mono fun e w' ⟨h2, h3⟩ => ⟨h2, h3.below⟩⟩
  have C29 : Aside0 (∀ W, Ok w W At Z ct → Calls Try.prog 29 #[.slice A n c] W fun e w' => ∃ Ag cg G, e = .returned (.slice Ag (List.length G) cg) ∧ Kd.C k65 w' Ag (List.length G) (G.map It.x) ∧ List.length G ≤ cg ∧ G.Pairwise leI ∧ Stb T G ∧ Below W.heap.size W w') := ⟨fun W hW => (byid_spec A n c T W (hT.1.below hW.1) hn hnil hbig).mono fun e w' ⟨v, Y, h1, h2, h3, h4⟩ => by
    have h5 := h2.out
    rw [← h3.out.2.2] at h5
    obtain ⟨Ag, cg, e1, h6, h7⟩ := Lie.of_row h5
    refine ⟨Ag, cg, Y, by rw [h1, e1], reads_of h7 ((hT.2.1.stb h3.out.2.1).below (below_step hW.1 h4.out)) (by have := h3.out.2.2; omega), h6, h3.out.1, h3.out.2.1, h4.out⟩⟩
  have C28 : Aside0 (∀ W Ag cg G, Ok w W At Z ct → Kd.C k65 W Ag (List.length G) (G.map It.x) → List.length G ≤ cg → G.Pairwise leI → Stb T G → Calls Try.prog 28 #[.slice Ag (List.length G) cg, .slice A n c] W fun e w' => e = .returned (.bool true) ∧ Below W.heap.size W w') := ⟨fun W Ag cg G hW h1 h2 h3 h4 => (rising_calls Ag cg G A c T n W h1 h2 (hT.1.below hW.1) (hT.2.1.below hW.1) hn h3 h4 hbig ((same15_ev (G.map It.x) (by rw [h1.1]; exact h1.2.1) (fun x hx => by
    obtain ⟨t, ht, rfl⟩ := List.mem_map.1 hx
    exact (hT.2.1 t ((h4.mem t).1 ht)).2.2.1)).rounds)).mono fun e w' ⟨h5, h6⟩ => ⟨h5, h6.out⟩⟩
  have HO : Aside0 (Ok w (w.alloc (.cells #[.slice At Z.length ct] 36)) At Z ct) := ⟨⟨below_alloc (Below.refl _ _) _, blk_new _ _⟩⟩
  clear hT hn hc hbig hZ hct hZl hnil HML HP
  go_enter Try.func6, Try.ntmps6
  go_upto_region 5 with (first | (go_at_call 24; (with_reducible refine (C24.out _ HO.out).mono ?_); rintro e w1 ⟨m, f, rfl, hf, h1⟩; have HF := Aside0.mk hf; have HO1 := Aside0.mk h1; have hcell := h1.cell; clear hf h1) | (go_at_call 25; (with_reducible refine (C25.out _ m f HO1.out HF.out).mono ?_); rintro e w2 ⟨rfl, h1⟩; have HO2 := Aside0.mk h1; clear h1))
  have HR2 : Aside0 (Row w2 w.heap.size 22 1 (.slice none ([] : List Int).length 0) ([] : List Int).length (us [])) := ⟨Row.nil _ _ _ _⟩
  clear HO1 HO hcell
  go_wp2
  go_loopw [10, 11] (fun v10 v11 wr => ∃ (i : Nat) (A5 : Option Addr) (c5 : Nat) (M : List Int), v10 = .slice A5 M.length c5 ∧ v11 = .int .i64 (i : Int) ∧ Aside0 (i ≤ n ∧ M = missL T (fun id => decide (id ∈ Z)) i) ∧ Aside0 (Row wr w.heap.size 22 1 (.slice A5 M.length c5) M.length (us M)) ∧ Aside0 (Ok w wr At Z ct)) (fun _ v11 _ => n - (intOf v11).toNat)
  case atStart => exact ⟨0, none, 0, [], rfl, rfl, ⟨Nat.zero_le _, rfl⟩, HR2, HO2⟩
  case round =>
    clear HR2 HO2
    obtain ⟨i, A5, c5, M, rfl, rfl, HI, HR, HO⟩ := hrel
    by_cases hin : i < n
    · have d1 : decide (i < n) = true := decide_eq_true hin
      have HIN := Aside0.mk hin
      have e1 : (i : Int) ≤ 2513169434843 := by have := HN.out; omega
      obtain ⟨ad, rfl, hcl⟩ := HT.out.1 (by have := HN.out; omega)
      have HTI : Aside0 (T[i]? = some (gi T i)) := ⟨gi_some (by have := HN.out; omega)⟩
      obtain ⟨t0, t1, t2, t3⟩ := cells4_at T i (gi T i) HTI.out
      have x0 := pw_cell_below HO.out.1 (hcl _ _ t0)
      have xg := HO.out.cell
      have HOD : Aside0 (Ok w wr.drew At Z ct) := ⟨HO.out.below (below_drew1 (Below.refl _ _))⟩
      have HRD : Aside0 (Row wr.drew w.heap.size 22 1 (.slice A5 M.length c5) M.length (us M)) := ⟨HR.out.below (below_drew1 (Below.refl _ _))⟩
      have HML : Aside0 (M.length < 17592186044000) := ⟨by have := miss_le T (fun id => decide (id ∈ Z)) i; rw [← HI.out.2] at this; have := HN.out; omega⟩
      clear t0 t1 t2 t3 hcl HO HR
      cases hq : decide ((gi T i).x.f0 ∈ Z) with
      | true =>
        have HMQ : Aside0 (M = missL T (fun id => decide (id ∈ Z)) (i + 1)) := ⟨by rw [miss_yes (by have := HN.out; have := HIN.out; omega) hq]; exact HI.out.2⟩
        go_upto_region 8 with (fail)
        go_region_held3 (fun w' => w'.cell? ⟨w.heap.size, 0, none⟩ = some (.slice At Z.length ct) ∧ w'.cell? (ad.add (i * 4)) = some (.int .u64 (gi T i).x.f0)) (first | go_keep | exact ⟨yg, y0⟩) (first | (go_at_call 23; (with_reducible refine (C23.out _ (gi T i).x.f0 HOD.out).mono ?_); rintro e w5 ⟨rfl, hb⟩; have HO5 := Aside0.mk (HOD.out.below hb); have HR5 := Aside0.mk (HRD.out.below hb); have yg := HO5.out.cell; have y0 := pw_cell_below hb (show wr.drew.cell? _ = _ from x0); clear hb))
        go_wp2
        go_roundw
        case rel => exact ⟨i + 1, A5, c5, M, rfl, by go_num, ⟨by have := HIN.out; omega, HMQ.out⟩, HR5, HO5⟩
        case measure => simp [intOf]; have := HIN.out; omega
      | false =>
        have HMQ : Aside0 (M ++ [(gi T i).x.f0] = missL T (fun id => decide (id ∈ Z)) (i + 1)) := ⟨by rw [miss_no (by have := HN.out; have := HIN.out; omega) hq, ← HI.out.2]⟩
        go_upto_region 8 with (fail)
        go_region_held3 (fun w' => w'.cell? ⟨w.heap.size, 0, none⟩ = some (.slice At Z.length ct) ∧ w'.cell? (ad.add (i * 4)) = some (.int .u64 (gi T i).x.f0)) (first | go_keep | exact ⟨yg, y0⟩) (first | (go_at_call 23; (with_reducible refine (C23.out _ (gi T i).x.f0 HOD.out).mono ?_); rintro e w5 ⟨rfl, hb⟩; have HO5 := Aside0.mk (HOD.out.below hb); have HR5 := Aside0.mk (HRD.out.below hb); have yg := HO5.out.cell; have y0 := pw_cell_below hb (show wr.drew.cell? _ = _ from x0); clear hb))
        have HRA : Aside0 (Row (w5.alloc (.cells #[.int .u64 (gi T i).x.f0] 22)) w.heap.size 22 1 (.slice A5 M.length c5) M.length (us M)) := ⟨HR5.out.below (below_alloc (Below.refl _ _) _)⟩
        have HOA : Aside0 (Ok w (w5.alloc (.cells #[.int .u64 (gi T i).x.f0] 22)) At Z ct) := ⟨HO5.out.below (below_alloc (Below.refl _ _) _)⟩
        go_wp2_with (((with_reducible refine gate_builtin (b := .append) (xs := #[.tmp 39, .tmp 45]) rfl ?_); refine append_num rfl (.tmp 39) (.tmp 45) rfl w.heap.size _ M rfl HRA.out HOA.out.1.size w5.heap.size _ (gi T i).x.f0 rfl ((blk_cell (blk_new w5 _) 0).trans rfl) HML.out ?_; intro A9 c9 w6 hr hg; have HR6 := Aside0.mk hr; have HO6 : Aside0 (Ok w w6 At Z ct) := ⟨HOA.out.1.grown hg HOA.out.1.size (fun k hk => own_base HRA.out.own k hk), (hg.block _ (blk_lt HOA.out.2) (fun e => own_ne36 HRA.out HOA.out.2 e.symm)).trans HOA.out.2⟩; clear hr hg))
        go_roundw
        case rel => exact ⟨i + 1, A9, c9, M ++ [(gi T i).x.f0], by rw [List.length_append]; rfl, by go_num, ⟨by have := HIN.out; omega, HMQ.out⟩, HR6, HO6⟩
        case measure => simp [intOf]; have := HIN.out; omega
    · have d1 : decide (i < n) = false := decide_eq_false hin
      have HE : Aside0 (M = missL T (fun id => decide (id ∈ Z)) n) := ⟨by rw [HI.out.2, show i = n from by have := HI.out.1; omega]⟩
      clear hin
      obtain rfl := HE.out
      go_wp2_with (first | (go_at_call 27; (with_reducible refine (C27.out _ HO.out).mono ?_); rintro e w3 ⟨A3, c3, rfl, h1, h2⟩; have R3 := Aside0.mk h1; have R4 := Aside0.mk (HR.out.below h2); have O3 := Aside0.mk (HO.out.below h2); clear h1 h2) | (go_at_call 26; (with_reducible refine (C26.out _ _ _ _ _ _ _ R3.out R4.out).mono ?_); rintro e w4 ⟨rfl, h1⟩; have O4 := Aside0.mk (O3.out.below h1); clear h1) | (go_at_call 29; (with_reducible refine (C29.out _ O4.out).mono ?_); rintro e w5 ⟨Ag, cg, G, rfl, h1, h2, h3, h4, h5⟩; have G1 := Aside0.mk h1; have G2 := Aside0.mk h2; have G3 := Aside0.mk h3; have G4 := Aside0.mk h4; have O5 := Aside0.mk (O4.out.below h5); clear h1 h2 h3 h4 h5) | (go_at_call 28; (with_reducible refine (C28.out _ _ _ _ O5.out G1.out G2.out G3.out G4.out).mono ?_); rintro e w6 ⟨rfl, h1⟩; have O6 := Aside0.mk (O5.out.below h1); clear h1) | (go_at_call 30; (with_reducible refine (lives_calls _).mono ?_); rintro e w7 ⟨rfl, h1⟩; have O7 := Aside0.mk (O6.out.below h1); clear h1))
      go_returns
      exact ⟨rfl, O7.out.1⟩
end Go.Proofs.Ytncbnejldlfbdaa.PIdx
