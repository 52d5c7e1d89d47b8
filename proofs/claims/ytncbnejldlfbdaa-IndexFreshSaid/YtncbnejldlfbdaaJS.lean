/- What the document's Fresh and Same answer, as plain laws; no condition but that lists are no longer than Go's are. -/
import Derived.Test.YtncbnejldlfbdaaJR
import Derived.Test.YtncbnejldlfbdaaPIndexFreshx2
namespace Go.Proofs.Ytncbnejldlfbdaa.PIdx
open Go.RowKit Go.Proofs.YtncbnejldlfbdaaW.PrintWords Go.Proofs.YtncbnejldlfbdaaW.PrintLast Go.Proofs.YtncbnejldlfbdaaW.PrintMore
open Go.Proofs.Ytncbnejldlfbdaa.PIndexFresh
set_option linter.unusedVariables false
set_option linter.unusedSimpArgs false
theorem wrap_succ (i : Nat) (h : (i : Int) < 9223372036854775807) : wrap64 ((i : Int) + 1) = ((i + 1 : Nat) : Int) := by unfold wrap64; omega
theorem same14_ev (l : List Int) (hl : l.length ≤ 9223372036854775807) : Ev (fun k => waywiserref14_Same.f k l l) true := by
  have key : ∀ (d i : Nat), d + i = l.length → Ev (fun k => waywiserref14_Same.l0 k l l (i : Int)) true := by
    intro d
    induction d with
    | zero => exact fun i hi => Ev.step (f := fun _ => some true) (fun k => by rw [waywiserref14_Same.l0, if_neg (by omega)]) (Ev.now _)
    | succ d ih => exact fun i hi => Ev.step (f := fun k => waywiserref14_Same.l0 k l l ((i + 1 : Nat) : Int)) (fun k => by rw [waywiserref14_Same.l0, if_pos (by omega), if_pos (by omega), if_pos (by omega), if_pos rfl, wrap_succ i (by omega)]) (ih (i + 1) (by omega))
  refine Ev.congr (f := fun k => waywiserref14_Same.l0 k l l ((0 : Nat) : Int)) (fun k => ?_) (key l.length 0 (by omega))
  rw [waywiserref14_Same.f, if_pos rfl]
  rfl
theorem bytesLess_self : ∀ l : List UInt8, Op.bytesLess l l = false
  | [] => rfl
  | a :: l => by
    rw [Op.bytesLess, bytesLess_self l]
    simp
theorem less05_ev (a : Int) (l : List Int) (b : ByteArray) (hl : l.length ≤ 9223372036854775807) : Ev (fun k => waywiserref05_Less.f k a l b a l b) false := by
  have key : ∀ (d i : Nat), d + i = l.length → Ev (fun k => waywiserref05_Less.l0 k (i : Int) a l b a l b) false := by
    intro d
    induction d with
    | zero => exact fun i hi => Ev.step (f := fun _ => some false) (fun k => by rw [waywiserref05_Less.l0, if_neg (by omega), bytesLess_self]) (Ev.now _)
    | succ d ih => exact fun i hi => Ev.step (f := fun k => waywiserref05_Less.l0 k ((i + 1 : Nat) : Int) a l b a l b) (fun k => by rw [waywiserref05_Less.l0, if_pos (by omega), if_pos (by omega), if_pos (by omega), if_pos rfl, wrap_succ i (by omega)]) (ih (i + 1) (by omega))
  refine Ev.congr (f := fun k => waywiserref05_Less.l0 k ((0 : Nat) : Int) a l b a l b) (fun k => ?_) (key l.length 0 (by omega))
  rw [waywiserref05_Less.f, if_pos rfl, if_pos rfl]
  rfl
theorem same05_ev (a : Int) (l : List Int) (b : ByteArray) (hl : l.length ≤ 9223372036854775807) : Ev (fun k => waywiserref05_Same.f k a l b a l b) true :=
  Ev.bind (f := fun k t116 => (if t116 = true then (some false) else ((waywiserref05_Less.f k a l b a l b).bind fun t117 => (some (!t117))))) (less05_ev a l b hl)
    (Ev.congr (fun k => by rw [if_neg (by decide)]) (Ev.bind (f := fun _ t117 => some (!t117)) (less05_ev a l b hl) (Ev.now _)))
theorem same15_ev (xs : List S65) (hl : xs.length ≤ 9223372036854775807) (hn : ∀ x ∈ xs, x.f1.f1.length ≤ 9223372036854775807) : Ev (fun k => waywiserref15_Same.f k xs xs) true := by
  have key : ∀ (d i : Nat), d + i = xs.length → Ev (fun k => waywiserref15_Same.l0 k xs xs (i : Int)) true := by
    intro d
    induction d with
    | zero => exact fun i hi => Ev.step (f := fun _ => some true) (fun k => by rw [waywiserref15_Same.l0, if_neg (by omega)]) (Ev.now _)
    | succ d ih =>
      intro i hi
      have hx : rd_T65 xs (i : Int) ∈ xs := by
        unfold rd_T65
        rw [Int.toNat_natCast, List.getD_eq_getElem?_getD, List.getElem?_eq_getElem (by omega : i < xs.length)]
        exact List.getElem_mem _
      refine Ev.step (f := fun k => (waywiserref05_Same.f k ((rd_T65 xs (i : Int)).f1.f0) ((rd_T65 xs (i : Int)).f1.f1) ((rd_T65 xs (i : Int)).f1.f2) ((rd_T65 xs (i : Int)).f1.f0) ((rd_T65 xs (i : Int)).f1.f1) ((rd_T65 xs (i : Int)).f1.f2)).bind fun t122 => (if t122 = true then (waywiserref15_Same.l0 k xs xs ((i + 1 : Nat) : Int)) else (some false))) (fun k => ?_) ?_
      · rw [waywiserref15_Same.l0, if_pos (by omega), if_pos (by omega), if_pos (by omega), if_pos rfl, wrap_succ i (by omega)]
      · exact Ev.bind (f := fun k t122 => if t122 = true then (waywiserref15_Same.l0 k xs xs ((i + 1 : Nat) : Int)) else (some false)) (same05_ev _ _ _ (hn _ hx)) (Ev.congr (fun k => by rw [if_pos rfl]) (ih (i + 1) (by omega)))
  refine Ev.congr (f := fun k => waywiserref15_Same.l0 k xs xs ((0 : Nat) : Int)) (fun k => ?_) (key xs.length 0 (by omega))
  rw [waywiserref15_Same.f, if_pos rfl]
  rfl
/-- the document's Fresh -/
theorem fresh_ev (T : List It) (Z : List Int) (hT : T.length ≤ 9223372036854775807) (hZ : Z.length < 9223372036854775807) (m f : Int) (h : FreshAt T (fun id => decide (id ∈ Z)) m f) : Ev (fun k => waywiserref21_Fresh.f k (T.map It.x) Z) (m, f) := by
  have hlen : ((T.map It.x).length : Int) = (T.length : Int) := by simp
  have one : ∀ (i : Nat), i < T.length → ∀ (r : Int × Int), Ev (fun k => (waywiserref21_In.f k Z ((rd_T65 (T.map It.x) (i : Int)).f0)).bind fun t105 => (if t105 = true then (some ((i : Int), (4 : Int))) else (waywiserref21_Fresh.l0 k (T.map It.x) Z (wrap64 ((i : Int) + 1))))) r → ∀ (d j : Nat), d + j = i → (∀ j', j ≤ j' → j' < i → ky (gi T j') ≠ ky (gi T i)) → Ev (fun k => waywiserref21_Fresh.l1 k (T.map It.x) Z (i : Int) (j : Int)) r := by
    intro i hi r hr d
    induction d with
    | zero => exact fun j hj hne => Ev.step (fun k => by rw [waywiserref21_Fresh.l1, if_neg (by omega), if_pos (by omega), if_pos (by omega)]) hr
    | succ d ih =>
      intro j hj hne
      refine Ev.step (f := fun k => waywiserref21_Fresh.l1 k (T.map It.x) Z (i : Int) ((j + 1 : Nat) : Int)) (fun k => ?_) (ih (j + 1) (by omega) (fun j' h1 h2 => hne j' (by omega) h2))
      rw [waywiserref21_Fresh.l1, if_pos (by omega), if_pos (by omega), if_pos (by omega), if_pos (by omega), if_pos (by omega), rd65_map, rd65_map, if_neg (show ¬ (gi T j).x.f0 = (gi T i).x.f0 from hne j (by omega) (by omega)), wrap_succ j (by omega)]
  have dup : ∀ (i : Nat), i < T.length → ∀ (d j : Nat), d + j = i → (∃ j', j ≤ j' ∧ j' < i ∧ ky (gi T j') = ky (gi T i)) → Ev (fun k => waywiserref21_Fresh.l1 k (T.map It.x) Z (i : Int) (j : Int)) ((i : Int), (4 : Int)) := by
    intro i hi d
    induction d with
    | zero => rintro j hj ⟨j', h1, h2, _⟩; omega
    | succ d ih =>
      rintro j hj ⟨j', h1, h2, h3⟩
      by_cases he : ky (gi T j) = ky (gi T i)
      · refine Ev.step (f := fun _ => some ((i : Int), (4 : Int))) (fun k => ?_) (Ev.now _)
        rw [waywiserref21_Fresh.l1, if_pos (by omega), if_pos (by omega), if_pos (by omega), if_pos (by omega), if_pos (by omega), rd65_map, rd65_map, if_pos (show (gi T j).x.f0 = (gi T i).x.f0 from he)]
      · refine Ev.step (f := fun k => waywiserref21_Fresh.l1 k (T.map It.x) Z (i : Int) ((j + 1 : Nat) : Int)) (fun k => ?_) (ih (j + 1) (by omega) ⟨j', Nat.lt_of_le_of_ne h1 (fun e => he (by rw [e]; exact h3)), h2, h3⟩)
        rw [waywiserref21_Fresh.l1, if_pos (by omega), if_pos (by omega), if_pos (by omega), if_pos (by omega), if_pos (by omega), rd65_map, rd65_map, if_neg (show ¬ (gi T j).x.f0 = (gi T i).x.f0 from he), wrap_succ j (by omega)]
  have main : ∀ (d i : Nat), d + i = T.length → (∀ j, j < i → ¬ Bad T (fun id => decide (id ∈ Z)) j) → Ev (fun k => waywiserref21_Fresh.l0 k (T.map It.x) Z (i : Int)) (m, f) := by
    intro d
    induction d with
    | zero =>
      intro i hi hb
      refine Ev.step (f := fun _ => some (m, f)) (fun k => ?_) (Ev.now _)
      rw [waywiserref21_Fresh.l0, if_neg (by omega)]
      rcases h with ⟨i', rfl, h2, rfl, h4, _⟩ | ⟨rfl, rfl, _⟩
      · exact absurd h4 (hb i' (by omega))
      · rw [hlen]
    | succ d ih =>
      intro i hi hb
      refine Ev.step (f := fun k => waywiserref21_Fresh.l1 k (T.map It.x) Z (i : Int) ((0 : Nat) : Int)) (fun k => by rw [waywiserref21_Fresh.l0, if_pos (by omega)]; rfl) ?_
      have hin : i < T.length := by omega
      by_cases hd : ∃ j', 0 ≤ j' ∧ j' < i ∧ ky (gi T j') = ky (gi T i)
      · have hbad : Bad T (fun id => decide (id ∈ Z)) i := by obtain ⟨j', _, h2, h3⟩ := hd; exact .inl ⟨j', h2, h3⟩
        have hm : (m, f) = ((i : Int), (4 : Int)) := by
          rcases h with ⟨i', rfl, h2, rfl, h4, h5⟩ | ⟨rfl, rfl, h5⟩
          · by_cases e : i' = i
            · rw [e]
            · by_cases e2 : i' < i
              · exact absurd h4 (hb i' e2)
              · exact absurd hbad (h5 i (by omega))
          · exact absurd hbad (h5 i hin)
        rw [hm]
        exact dup i hin i 0 (by omega) hd
      · refine one i hin (m, f) ?_ i 0 (by omega) (fun j' h1 h2 h3 => hd ⟨j', h1, h2, h3⟩)
        rw [rd65_map]
        refine Ev.bind (f := fun k t105 => (if t105 = true then (some ((i : Int), (4 : Int))) else (waywiserref21_Fresh.l0 k (T.map It.x) Z (wrap64 ((i : Int) + 1))))) (in_ev Z _ hZ) ?_
        by_cases hz : (gi T i).x.f0 ∈ Z
        · have hbad : Bad T (fun id => decide (id ∈ Z)) i := .inr (decide_eq_true hz)
          have hm : (m, f) = ((i : Int), (4 : Int)) := by
            rcases h with ⟨i', rfl, h2, rfl, h4, h5⟩ | ⟨rfl, rfl, h5⟩
            · by_cases e : i' = i
              · rw [e]
              · by_cases e2 : i' < i
                · exact absurd h4 (hb i' e2)
                · exact absurd hbad (h5 i (by omega))
            · exact absurd hbad (h5 i hin)
          rw [hm]
          exact Ev.congr (fun k => by rw [if_pos (decide_eq_true hz)]) (Ev.now _)
        · have hnb : ¬ Bad T (fun id => decide (id ∈ Z)) i := by
            rintro (⟨j, h1, h2⟩ | h1)
            · exact hd ⟨j, by omega, h1, h2⟩
            · exact hz (of_decide_eq_true h1)
          refine Ev.congr (f := fun k => waywiserref21_Fresh.l0 k (T.map It.x) Z ((i + 1 : Nat) : Int)) (fun k => ?_) (ih (i + 1) (by omega) (fun j hj => by
            by_cases e : j = i
            · subst e; exact hnb
            · exact hb j (by omega)))
          rw [if_neg (by simp [hz]), wrap_succ i (by omega)]
  refine Ev.congr (f := fun k => waywiserref21_Fresh.l0 k (T.map It.x) Z ((0 : Nat) : Int)) (fun k => rfl) (main T.length 0 (by omega) (fun j h => by omega))
end Go.Proofs.Ytncbnejldlfbdaa.PIdx
