/- Plain facts about how far two texts are apart, place by place; no program is in sight. No condition. -/
import Derived.Test.YtlkjkfloodbkoaaWMore
import Derived.Lib.Strings
namespace Go.Proofs.Ytlkjkfloodbkoaa.MHam
open Go.RowKit Go.Proofs.YtlkjkfloodbkoaaW.PrintWords Go.Proofs.YtlkjkfloodbkoaaW.PrintLast Go.Proofs.YtlkjkfloodbkoaaW.PrintMore

/-- a text's letter at a place; beyond its end: none -/
def ext (a : ByteArray) (i : Nat) : Option Int := if i < a.size then some (bt a i) else none
/-- at how many of the first places two texts part -/
def cnt (a b : ByteArray) : Nat → Nat
  | 0 => 0
  | n + 1 => cnt a b n + if ext a n = ext b n then 0 else 1
/-- at which of the first places two texts part -/
def pl (a b : ByteArray) : Nat → List Int
  | 0 => []
  | n + 1 => pl a b n ++ if bt a n = bt b n then [] else [(n : Int)]
/-- how far two texts are apart -/
def dist (a b : ByteArray) : Nat := cnt a b (max a.size b.size)

theorem cnt_le (a b : ByteArray) (n : Nat) : cnt a b n ≤ n := by
  induction n with
  | zero => simp [cnt]
  | succ n ih => simp only [cnt]; split <;> omega
theorem pl_len_le (a b : ByteArray) (n : Nat) : (pl a b n).length ≤ n := by
  induction n with
  | zero => simp [pl]
  | succ n ih => simp only [pl, List.length_append]; split <;> simp <;> omega
theorem cnt_comm (a b : ByteArray) (n : Nat) : cnt a b n = cnt b a n := by
  induction n with
  | zero => rfl
  | succ n ih => simp only [cnt, ih, eq_comm]
theorem cnt_tri (a b c : ByteArray) (n : Nat) : cnt a b n ≤ cnt a c n + cnt c b n := by
  induction n with
  | zero => simp [cnt]
  | succ n ih =>
    simp only [cnt]
    by_cases h1 : ext a n = ext c n
    · by_cases h2 : ext c n = ext b n
      · rw [if_pos (h1.trans h2), if_pos h1, if_pos h2]; omega
      · rw [if_pos h1, if_neg h2]; split <;> omega
    · rw [if_neg h1]; split <;> split <;> omega
/-- beyond both ends nothing parts -/
theorem cnt_far (a b : ByteArray) (n : Nat) (ha : a.size ≤ n) (hb : b.size ≤ n) : cnt a b n = dist a b := by
  unfold dist
  induction n with
  | zero =>
    have : max a.size b.size = 0 := by omega
    rw [this]
  | succ n ih =>
    by_cases h : a.size ≤ n ∧ b.size ≤ n
    · have := ih h.1 h.2
      simp only [cnt]
      rw [if_pos (by unfold ext; rw [if_neg (by omega), if_neg (by omega)])]
      omega
    · have : max a.size b.size = n + 1 := by omega
      rw [this]
/-- among the first places of both: as many as are listed -/
theorem cnt_near (a b : ByteArray) (n : Nat) (ha : n ≤ a.size) (hb : n ≤ b.size) : cnt a b n = (pl a b n).length := by
  induction n with
  | zero => rfl
  | succ n ih =>
    have := ih (by omega) (by omega)
    simp only [cnt, pl, List.length_append]
    have e : (ext a n = ext b n) ↔ (bt a n = bt b n) := by
      unfold ext; rw [if_pos (by omega), if_pos (by omega)]; simp
    by_cases h : bt a n = bt b n
    · rw [if_pos (e.2 h), if_pos h]; simp; omega
    · rw [if_neg (fun x => h (e.1 x)), if_neg h]; simp; omega
/-- between the shorter one's end and the longer one's: each place -/
theorem cnt_mid (a b : ByteArray) (d : Nat) (h : min a.size b.size + d ≤ max a.size b.size) : cnt a b (min a.size b.size + d) = (pl a b (min a.size b.size)).length + d := by
  induction d with
  | zero => simpa using cnt_near a b _ (by omega) (by omega)
  | succ d ih =>
    have := ih (by omega)
    rw [show min a.size b.size + (d + 1) = (min a.size b.size + d) + 1 from by omega]
    simp only [cnt]
    rw [if_neg ?_]
    · omega
    · unfold ext
      by_cases hab : a.size ≤ b.size
      · rw [if_neg (by omega), if_pos (by omega)]; simp
      · rw [if_pos (by omega), if_neg (by omega)]; simp
theorem dist_eq (a b : ByteArray) : dist a b = (pl a b (min a.size b.size)).length + (max a.size b.size - min a.size b.size) := by
  have := cnt_mid a b (max a.size b.size - min a.size b.size) (by omega)
  rw [show min a.size b.size + (max a.size b.size - min a.size b.size) = max a.size b.size from by omega] at this
  exact this
theorem dist_le (a b : ByteArray) : dist a b ≤ max a.size b.size := cnt_le a b _
theorem dist_comm (a b : ByteArray) : dist a b = dist b a := by
  unfold dist; rw [cnt_comm, Nat.max_comm]
theorem dist_tri (a b c : ByteArray) : dist a b ≤ dist a c + dist c b := by
  have h := cnt_tri a b c (a.size + b.size + c.size)
  rw [cnt_far a b _ (by omega) (by omega), cnt_far a c _ (by omega) (by omega), cnt_far c b _ (by omega) (by omega)] at h
  exact h
theorem cnt_zero (a b : ByteArray) (n : Nat) (h : cnt a b n = 0) (i : Nat) (hi : i < n) : ext a i = ext b i := by
  induction n with
  | zero => omega
  | succ n ih =>
    simp only [cnt] at h
    by_cases e : ext a n = ext b n
    · by_cases hn : i = n
      · subst hn; exact e
      · exact ih (by omega) (by omega)
    · rw [if_neg e] at h; omega
theorem bt_of (a : ByteArray) (i : Nat) (h : i < a.size) : bt a i = ((a[i]'h).toNat : Int) := by
  simp only [bt, Int.toNat_natCast]; rw [dif_pos h]
theorem eq_of_ext (a b : ByteArray) (h : ∀ i, i < max a.size b.size → ext a i = ext b i) : a = b := by
  have hs : a.size = b.size := by
    by_cases h1 : a.size < b.size
    · have := h a.size (by omega)
      unfold ext at this; rw [if_neg (by omega), if_pos h1] at this; cases this
    · by_cases h2 : b.size < a.size
      · have := h b.size (by omega)
        unfold ext at this; rw [if_pos h2, if_neg (by omega)] at this; cases this
      · omega
  refine ByteArray.ext_getElem hs (fun i h1 h2 => ?_)
  have := h i (by omega)
  unfold ext at this
  rw [if_pos h1, if_pos h2] at this
  have := Option.some.inj this
  rw [bt_of a i h1, bt_of b i h2] at this
  exact UInt8.toNat_inj.1 (by omega)
theorem cnt_self (a : ByteArray) (n : Nat) : cnt a a n = 0 := by
  induction n with
  | zero => rfl
  | succ n ih => simp only [cnt, ih]; simp
theorem dist_zero (a b : ByteArray) : dist a b = 0 ↔ a = b := by
  constructor
  · intro h
    exact eq_of_ext a b (fun i hi => cnt_zero a b _ h i hi)
  · rintro rfl
    exact cnt_self a _
theorem toList_beq (a b : ByteArray) : (a.toList == b.toList) = decide (a = b) := by
  rw [Bool.eq_iff_iff, beq_iff_eq, decide_eq_true_iff, Lib.toList_data, Lib.toList_data]
  constructor
  · intro h
    cases a; cases b
    simp at h
    simp [h]
  · rintro rfl; rfl

theorem wrap_in (i : Int) (h0 : -9223372036854775808 ≤ i) (h : i ≤ 9223372036854775807) : wrap64 i = i := by
  unfold wrap64; omega
theorem mn_nat (a b : Nat) : mn (a : Int) (b : Int) = ((min a b : Nat) : Int) := by unfold mn; split <;> omega
theorem mx_sub (a b : Nat) (ha : a ≤ 140737488351232) (hb : b ≤ 140737488351232) :
    mx (wrap64 ((a : Int) - (b : Int))) (wrap64 ((b : Int) - (a : Int))) = ((max a b - min a b : Nat) : Int) := by
  rw [wrap_in _ (by omega) (by omega), wrap_in _ (by omega) (by omega)]
  unfold mx; split <;> omega

end Go.Proofs.Ytlkjkfloodbkoaa.MHam
