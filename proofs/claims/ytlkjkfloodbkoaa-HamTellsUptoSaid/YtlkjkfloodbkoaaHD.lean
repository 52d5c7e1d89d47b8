/- What the functions of package ham answer is how far two texts are apart, and where, where texts are of at most 2^43 letters. -/
import Derived.Test.YtlkjkfloodbkoaaHB
import Derived.Test.YtlkjkfloodbkoaaHC
import Derived.Test.YtlkjkfloodbkoaaMHam
namespace Go.Proofs.Ytlkjkfloodbkoaa.PHam
open Go.RowKit Go.Proofs.YtlkjkfloodbkoaaW.PrintWords Go.Proofs.YtlkjkfloodbkoaaW.PrintLast Go.Proofs.YtlkjkfloodbkoaaW.PrintMore
open Go.Proofs.Ytlkjkfloodbkoaa.MHam

theorem ev_if {α : Type} {c : Prop} [Decidable c] {f g : Nat → Option α} {r : α} (h : c) (k : Ev f r) : Ev (fun n => if c then f n else g n) r := by simpa only [if_pos h] using k
theorem ev_else {α : Type} {c : Prop} [Decidable c] {f g : Nat → Option α} {r : α} (h : ¬ c) (k : Ev g r) : Ev (fun n => if c then f n else g n) r := by simpa only [if_neg h] using k
theorem places_l0 (a b : ByteArray) (n : Nat) (ha : n ≤ a.size) (hb : n ≤ b.size) (hn : n ≤ 8796093022208) (d : Nat) : ∀ (k i : Nat), i + d = n → d < k →
    ham_Places.l0 k a b (pl a b i) (n : Int) (i : Int) = some (pl a b n) := by
  induction d with
  | zero =>
    intro k i hi hk
    obtain ⟨k, rfl⟩ : ∃ m, k = m + 1 := ⟨k - 1, by omega⟩
    simp only [ham_Places.l0]; rw [if_neg (by omega), show i = n from by omega]
  | succ d ih =>
    intro k i hi hk
    obtain ⟨k, rfl⟩ : ∃ m, k = m + 1 := ⟨k - 1, by omega⟩
    have hr := ih k (i + 1) (by omega) (by omega)
    have hl := pl_len_le a b i
    simp only [ham_Places.l0]
    rw [if_pos (by omega), if_pos (by omega), if_pos (by omega), if_pos (by omega), wrap_in _ (by omega) (by omega)]
    by_cases h : bt a i = bt b i
    · rw [if_pos h]
      simp only [pl] at hr
      rw [if_pos h, List.append_nil] at hr
      exact hr
    · rw [if_neg h, if_pos (by omega)]
      simp only [pl] at hr
      rw [if_neg h] at hr
      exact hr
theorem places_f (a b : ByteArray) (ha : a.size ≤ 8796093022208) (hb : b.size ≤ 8796093022208) : Ev (fun k => ham_Places.f k a b) (pl a b (min a.size b.size)) := by
  refine Ev.of (ham_Places.mono a b) (k := min a.size b.size + 1) ?_
  unfold ham_Places.f
  rw [mn_nat]
  exact places_l0 a b _ (by omega) (by omega) (by omega) (min a.size b.size) _ 0 (by omega) (by omega)
theorem longer_f (a b : ByteArray) (ha : a.size ≤ 8796093022208) (hb : b.size ≤ 8796093022208) : ham_longer.f a b = some ((max a.size b.size - min a.size b.size : Nat) : Int) := by
  unfold ham_longer.f
  rw [mx_sub _ _ (by omega) (by omega)]
theorem dist_f (a b : ByteArray) (ha : a.size ≤ 8796093022208) (hb : b.size ≤ 8796093022208) : Ev (fun k => ham_Dist.f k a b) ((dist a b : Nat) : Int) := by
  have e := dist_eq a b
  have l := pl_len_le a b (min a.size b.size)
  unfold ham_Dist.f
  simp only [longer_f a b ha hb, Option.bind_some]
  refine Ev.bind (places_f a b ha hb) ?_
  rw [wrap_in _ (by omega) (by omega)]
  rw [show ((max a.size b.size - min a.size b.size : Nat) : Int) + ((pl a b (min a.size b.size)).length : Int) = ((dist a b : Nat) : Int) from by omega]
  exact Ev.now _
theorem lives_f : Ev (fun k => waywiserlaw07_lives.f k) true := by
  refine Ev.of waywiserlaw07_lives.mono (k := 10) ?_
  decide +kernel
/-- THE LAW HamMetric -/
theorem metric_f (a b c : ByteArray) (ha : a.size ≤ 8796093022208) (hb : b.size ≤ 8796093022208) (hc : c.size ≤ 8796093022208) : Ev (fun k => waywiserlaw07_HamMetric.f k a b c) true := by
  have h1 := dist_le a c
  have h2 := dist_le c b
  unfold waywiserlaw07_HamMetric.f
  refine Ev.bind (dist_f a b ha hb) ?_
  refine ev_if ?g1 (ev_if (by omega) ?_)
  case g1 =>
    rw [toList_beq, beq_iff_eq, Bool.eq_iff_iff, beq_iff_eq, decide_eq_true_iff, ← dist_zero a b]
    omega
  refine Ev.bind (dist_f b a hb ha) ?_
  refine ev_if (by rw [dist_comm]) ?_
  refine Ev.bind (dist_f a c ha hc) ?_
  refine Ev.bind (dist_f c b hc hb) ?_
  have h3 := dist_tri a b c
  refine ev_if (by rw [wrap_in _ (by omega) (by omega)]; omega) ?_
  exact Ev.bind lives_f (Ev.now _)

theorem ref_l0 (a b : ByteArray) (ha : a.size ≤ 8796093022208) (hb : b.size ≤ 8796093022208) (d : Nat) : ∀ (k i : Nat), i + d = max a.size b.size → 2 * d + 1 < k →
    waywiserref07_Dist.l0 k a b ((cnt a b i : Nat) : Int) (i : Int) = some ((dist a b : Nat) : Int) := by
  induction d with
  | zero =>
    intro k i hi hk
    obtain ⟨k, rfl⟩ : ∃ m, k = m + 2 := ⟨k - 2, by omega⟩
    simp only [waywiserref07_Dist.l0]; rw [if_neg (by omega), decide_eq_false (by omega)]
    simp only [waywiserref07_Dist.j1]; rw [if_neg (by decide), cnt_far a b i (by omega) (by omega)]
  | succ d ih =>
    intro k i hi hk
    obtain ⟨k, rfl⟩ : ∃ m, k = m + 2 := ⟨k - 2, by omega⟩
    have hr := ih k (i + 1) (by omega) (by omega)
    have hl := cnt_le a b i
    have hj : waywiserref07_Dist.j1 (k + 1) a b ((cnt a b i : Nat) : Int) (i : Int) true = some ((dist a b : Nat) : Int) := by
      simp only [waywiserref07_Dist.j1]
      rw [if_pos trivial, wrap_in ((i : Int) + 1) (by omega) (by omega), wrap_in ((cnt a b i : Int) + 1) (by omega) (by omega)]
      simp only [cnt] at hr
      by_cases h1 : a.size ≤ i
      · rw [if_pos (by omega)]
        rw [if_neg (by unfold ext; rw [if_neg (by omega), if_pos (by omega)]; simp)] at hr
        exact hr
      · rw [if_neg (by omega)]
        by_cases h2 : b.size ≤ i
        · rw [if_pos (by omega)]
          rw [if_neg (by unfold ext; rw [if_pos (by omega), if_neg (by omega)]; simp)] at hr
          exact hr
        · rw [if_neg (by omega), if_pos (by omega), if_pos (by omega), if_pos (by omega)]
          have e : (ext a i = ext b i) ↔ (bt a i = bt b i) := by
            unfold ext; rw [if_pos (by omega), if_pos (by omega)]; simp
          by_cases h : bt a i = bt b i
          · rw [if_pos h]
            rw [if_pos (e.2 h)] at hr
            exact hr
          · rw [if_neg h]
            rw [if_neg (fun x => h (e.1 x))] at hr
            exact hr
    simp only [waywiserref07_Dist.l0]
    by_cases h1 : i < a.size
    · rw [if_pos (by omega)]; exact hj
    · rw [if_neg (by omega), decide_eq_true (by omega)]; exact hj
theorem ref_f (a b : ByteArray) (ha : a.size ≤ 8796093022208) (hb : b.size ≤ 8796093022208) : Ev (fun k => waywiserref07_Dist.f k a b) ((dist a b : Nat) : Int) := by
  refine Ev.of (waywiserref07_Dist.mono a b) (k := 2 * max a.size b.size + 2) ?_
  exact ref_l0 a b ha hb (max a.size b.size) _ 0 (by omega) (by omega)

theorem ints_l0 (l : List Int) (hl : l.length ≤ 8796093022208) (d : Nat) : ∀ (k i : Nat), i + d = l.length → d < k → waywiserref07_Ints.l0 k l l (i : Int) = some true := by
  induction d with
  | zero =>
    intro k i hi hk
    obtain ⟨k, rfl⟩ : ∃ m, k = m + 1 := ⟨k - 1, by omega⟩
    simp only [waywiserref07_Ints.l0]; rw [if_neg (by omega)]
  | succ d ih =>
    intro k i hi hk
    obtain ⟨k, rfl⟩ : ∃ m, k = m + 1 := ⟨k - 1, by omega⟩
    simp only [waywiserref07_Ints.l0]
    rw [if_pos (by omega), if_pos (by omega), if_pos (by omega), if_pos trivial, wrap_in _ (by omega) (by omega)]
    exact ih k (i + 1) (by omega) (by omega)
theorem ints_f (l : List Int) (hl : l.length ≤ 8796093022208) : Ev (fun k => waywiserref07_Ints.f k l l) true := by
  refine Ev.of (waywiserref07_Ints.mono l l) (k := l.length + 1) ?_
  unfold waywiserref07_Ints.f
  rw [if_pos rfl]
  exact ints_l0 l hl l.length _ 0 (by omega) (by omega)
end Go.Proofs.Ytlkjkfloodbkoaa.PHam
