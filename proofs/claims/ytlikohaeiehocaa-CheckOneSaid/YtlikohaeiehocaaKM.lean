/- Plain facts about a sum of bytes: each step can be undone, so bytes of which one is another one have another sum; no program is in sight. No condition. -/
import Derived.Test.YtlikohaeiehocaaWMore
import Derived.Lib.Strings
import Derived.Laws.BitsAllLaws
import Derived.Laws.Bits64
import Derived.Laws.BytesArg
namespace Go.Proofs.Ytlikohaeiehocaa.MCheck
open Go.RowKit Go.Proofs.YtlikohaeiehocaaW.PrintWords Go.Proofs.YtlikohaeiehocaaW.PrintLast Go.Proofs.YtlikohaeiehocaaW.PrintMore

/-- all numbers are bytes -/
def isB (l : List Int) : Prop := ∀ x ∈ l, 0 ≤ x ∧ x < 256
def step (h : Nat) (b : Int) : Nat := ((h ^^^ b.toNat) * 1099511628211) % 18446744073709551616
def sum (h : Nat) (l : List Int) : Nat := l.foldl step h
def by8 : Nat → Nat → List Int
  | 0, _ => []
  | n + 1, h => ((h % 256 : Nat) : Int) :: by8 n (h / 256)
def first : Nat := 14695981039346656037
def sealed (l : List Int) : List Int := l ++ by8 8 (sum first l)
def opened (l : List Int) : List Int × Bool := if l.length < 8 then ([], false) else if sealed (l.take (l.length - 8)) = l then (l.take (l.length - 8), true) else ([], false)

theorem step_lt (h : Nat) (b : Int) : step h b < 18446744073709551616 := Nat.mod_lt _ (by decide)
theorem sum_lt (h : Nat) (hh : h < 18446744073709551616) (l : List Int) : sum h l < 18446744073709551616 := by
  unfold sum
  induction l generalizing h with
  | nil => rw [List.foldl_nil]; exact hh
  | cons b l ih => rw [List.foldl_cons]; exact ih _ (step_lt h b)
theorem sum_append (h : Nat) (l m : List Int) : sum h (l ++ m) = sum (sum h l) m := by simp [sum, List.foldl_append]
theorem sum_take (h : Nat) (l : List Int) (i : Nat) (hi : i < l.length) : sum h (l.take (i + 1)) = step (sum h (l.take i)) (rd l (i : Int)) := by
  have e : rd l (i : Int) = l[i] := by
    unfold rd
    rw [Int.toNat_natCast, List.getD_eq_getElem?_getD, List.getElem?_eq_getElem hi, Option.getD_some]
  rw [List.take_succ_eq_append_getElem hi, sum_append, e]
  generalize sum h (l.take i) = q
  unfold sum
  rw [List.foldl_cons, List.foldl_nil]
theorem by8_length (n h : Nat) : (by8 n h).length = n := by
  induction n generalizing h with
  | zero => rfl
  | succ n ih => simp [by8, ih]
theorem by8_isB (n h : Nat) : isB (by8 n h) := by
  induction n generalizing h with
  | zero => intro x hx; simp [by8] at hx
  | succ n ih =>
    intro x hx
    simp only [by8, List.mem_cons] at hx
    rcases hx with rfl | hx
    · omega
    · exact ih _ x hx
theorem by8_inj (n : Nat) : ∀ h h' : Nat, by8 n h = by8 n h' → h % 256 ^ n = h' % 256 ^ n := by
  induction n with
  | zero => intro h h' _; simp [Nat.mod_one]
  | succ n ih =>
    intro h h' he
    simp only [by8, List.cons.injEq] at he
    have h1 : h % 256 = h' % 256 := by have := he.1; omega
    have h2 := ih _ _ he.2
    rw [Nat.pow_succ, Nat.mul_comm, Nat.mod_mul, Nat.mod_mul, h1, h2]
theorem isB_append {l m : List Int} (hl : isB l) (hm : isB m) : isB (l ++ m) := fun x hx => by
  rcases List.mem_append.1 hx with h | h
  · exact hl x h
  · exact hm x h
theorem isB_take {l : List Int} (hl : isB l) (n : Nat) : isB (l.take n) := fun x hx => hl x (List.mem_of_mem_take hx)
theorem sealed_length (l : List Int) : (sealed l).length = l.length + 8 := by simp [sealed, by8_length]
theorem sealed_isB {l : List Int} (hl : isB l) : isB (sealed l) := isB_append hl (by8_isB _ _)
theorem opened_sealed (l : List Int) : opened (sealed l) = (l, true) := by
  unfold opened
  rw [sealed_length, if_neg (by omega)]
  have e : (sealed l).take (l.length + 8 - 8) = l := by
    simp only [sealed]
    rw [List.take_append_of_le_length (by omega), List.take_of_length_le (by omega)]
  rw [e, if_pos rfl]

theorem xor_lt {a b : Nat} (ha : a < 18446744073709551616) (hb : b < 18446744073709551616) : a ^^^ b < 18446744073709551616 := Nat.xor_lt_two_pow (n := 64) ha hb
theorem inv_eq : 1099511628211 * 14886173955864302971 = 887285111055 * 18446744073709551616 + 1 := by decide
/-- multiplying by the prime can be undone -/
theorem mul_inj {x y : Nat} (hx : x < 18446744073709551616) (hy : y < 18446744073709551616) (h : (x * 1099511628211) % 18446744073709551616 = (y * 1099511628211) % 18446744073709551616) : x = y := by
  have h2 : (x * 1099511628211 % 18446744073709551616) * 14886173955864302971 % 18446744073709551616 = (y * 1099511628211 % 18446744073709551616) * 14886173955864302971 % 18446744073709551616 := by rw [h]
  have e (z : Nat) (hz : z < 18446744073709551616) : (z * 1099511628211 % 18446744073709551616) * 14886173955864302971 % 18446744073709551616 = z := by
    rw [Nat.mod_mul_mod, Nat.mul_assoc, inv_eq, Nat.mul_add, Nat.mul_one, ← Nat.mul_assoc, Nat.mul_add_mod_self_right, Nat.mod_eq_of_lt hz]
  rw [e x hx, e y hy] at h2
  exact h2
theorem step_inj {h h' : Nat} (hh : h < 18446744073709551616) (hh' : h' < 18446744073709551616) {b : Int} (h0 : 0 ≤ b) (h1 : b < 256) (e : step h b = step h' b) : h = h' := by
  have hb : b.toNat < 18446744073709551616 := by omega
  have := mul_inj (xor_lt hh hb) (xor_lt hh' hb) e
  have h2 : (h ^^^ b.toNat) ^^^ b.toNat = (h' ^^^ b.toNat) ^^^ b.toNat := by rw [this]
  simpa [Nat.xor_assoc] using h2
theorem step_byte {h : Nat} (hh : h < 18446744073709551616) {b c : Int} (h0 : 0 ≤ b) (h1 : b < 256) (g0 : 0 ≤ c) (g1 : c < 256) (e : step h b = step h c) : b = c := by
  have := mul_inj (xor_lt hh (by omega : b.toNat < _)) (xor_lt hh (by omega : c.toNat < _)) e
  have h2 : h ^^^ (h ^^^ b.toNat) = h ^^^ (h ^^^ c.toNat) := by rw [this]
  have h3 : b.toNat = c.toNat := by simpa [← Nat.xor_assoc] using h2
  omega
theorem sum_inj (l : List Int) (hl : isB l) : ∀ {h h' : Nat}, h < 18446744073709551616 → h' < 18446744073709551616 → sum h l = sum h' l → h = h' := by
  induction l with
  | nil => intro h h' _ _ e; exact e
  | cons b l ih =>
    intro h h' hh hh' e
    have := ih (fun x hx => hl x (List.mem_cons_of_mem _ hx)) (step_lt h b) (step_lt h' b) e
    exact step_inj hh hh' (hl b List.mem_cons_self).1 (hl b List.mem_cons_self).2 this
/-- BYTES OF WHICH ONE IS ANOTHER ONE HAVE ANOTHER SUM -/
theorem sum_one (l : List Int) (hl : isB l) (i : Nat) (hi : i < l.length) (x : Int) (h0 : 0 ≤ x) (h1 : x < 256) (hne : x ≠ l[i]) (h : Nat) (hh : h < 18446744073709551616) : sum h (l.set i x) ≠ sum h l := by
  induction l generalizing i h with
  | nil => simp at hi
  | cons b l ih =>
    cases i with
    | zero =>
      intro e
      have hx : x ≠ b := by simpa using hne
      have e2 : sum (step h x) l = sum (step h b) l := e
      have e3 := sum_inj l (fun y hy => hl y (List.mem_cons_of_mem _ hy)) (step_lt _ _) (step_lt _ _) e2
      exact hx (step_byte hh h0 h1 (hl b List.mem_cons_self).1 (hl b List.mem_cons_self).2 e3)
    | succ i =>
      have hlt : i < l.length := by simpa using hi
      exact ih (fun y hy => hl y (List.mem_cons_of_mem _ hy)) i hlt (by simpa using hne) (step h b) (step_lt _ _)
/-- A SEAL OF WHICH A BYTE AHEAD OF THE SUM IS ANOTHER ONE IS NOT OPENED -/
theorem opened_one (l : List Int) (hl : isB l) (i : Nat) (hi : i < l.length) (x : Int) (h0 : 0 ≤ x) (h1 : x < 256) (hne : x ≠ l[i]) : (opened ((sealed l).set i x)).2 = false := by
  have e : (sealed l).set i x = l.set i x ++ by8 8 (sum first l) := by
    simp only [sealed]
    rw [List.set_append_left _ _ hi]
  have hlen : (l.set i x ++ by8 8 (sum first l)).length = l.length + 8 := by simp [by8_length]
  unfold opened
  rw [e, hlen, if_neg (by omega)]
  have e2 : (l.set i x ++ by8 8 (sum first l)).take (l.length + 8 - 8) = l.set i x := by
    rw [List.take_append_of_le_length (by simp), List.take_of_length_le (by simp)]
  rw [e2, if_neg ?_]
  intro h
  have h2 : by8 8 (sum first (l.set i x)) = by8 8 (sum first l) := List.append_cancel_left h
  have h3 := by8_inj 8 _ _ h2
  have p1 := sum_lt first (by decide) (l.set i x)
  have p2 := sum_lt first (by decide) l
  rw [show (256 : Nat) ^ 8 = 18446744073709551616 from by decide, Nat.mod_eq_of_lt p1, Nat.mod_eq_of_lt p2] at h3
  exact sum_one l hl i hi x h0 h1 hne first (by decide) h3

/-! what Go computes -/
theorem wrap_in (i : Int) (h0 : -9223372036854775808 ≤ i) (h : i ≤ 9223372036854775807) : wrap64 i = i := by
  unfold wrap64; omega
theorem step_go (h : Nat) (hh : h < 18446744073709551616) (b : Int) (h0 : 0 ≤ b) (h1 : b < 256) : IntKind.u64.wrap (Go.bits .xor .u64 (h : Int) (IntKind.u64.wrap b) * 1099511628211) = ((step h b : Nat) : Int) := by
  have e : IntKind.u64.wrap b = ((b.toNat : Nat) : Int) := by rw [IntKind.wrap_u64]; omega
  rw [e, u64_xor_nat _ _ hh (by omega), IntKind.wrap_u64]
  unfold step
  omega
theorem xor_low (h b : Nat) (hb : b < 256) : h ^^^ b = h - h % 256 + ((h % 256) ^^^ b) := by
  have e1 : (h ^^^ b) / 256 = h / 256 := by
    have := Nat.xor_div_two_pow (a := h) (b := b) (n := 8)
    rw [show (2 : Nat) ^ 8 = 256 from rfl, Nat.div_eq_of_lt hb, Nat.xor_zero] at this
    exact this
  have e2 : (h ^^^ b) % 256 = (h % 256) ^^^ b := by
    have := Nat.xor_mod_two_pow (a := h) (b := b) (n := 8)
    rw [show (2 : Nat) ^ 8 = 256 from rfl, Nat.mod_eq_of_lt hb] at this
    exact this
  omega
theorem step_ref (h : Nat) (hh : h < 18446744073709551616) (b : Int) (h0 : 0 ≤ b) (h1 : b < 256) :
    IntKind.u64.wrap ((IntKind.u64.wrap ((IntKind.u64.wrap ((IntKind.u64.wrap ((h : Int) - (Int.tmod (h : Int) 256))) + (IntKind.u64.wrap (Go.bits .xor .u8 ((h : Int) % 256) b)))) * 1099511627776)) + (IntKind.u64.wrap ((IntKind.u64.wrap ((IntKind.u64.wrap ((h : Int) - (Int.tmod (h : Int) 256))) + (IntKind.u64.wrap (Go.bits .xor .u8 ((h : Int) % 256) b)))) * 435))) = ((step h b : Nat) : Int) := by
  have e0 : Go.bits .xor .u8 ((h : Int) % 256) b = (((h % 256) ^^^ b.toNat : Nat) : Int) := by
    obtain ⟨c, rfl⟩ : ∃ c : Nat, b = (c : Int) := ⟨b.toNat, by omega⟩
    rw [show ((h : Int) % 256) = ((h % 256 : Nat) : Int) from by omega, u8_xor_nat _ _ (by omega) (by omega), Int.toNat_natCast]
  have hlow : (h % 256) ^^^ b.toNat < 256 := Nat.xor_lt_two_pow (n := 8) (by omega) (by omega)
  have e1 : Int.tmod (h : Int) 256 = ((h % 256 : Nat) : Int) := by rw [Int.tmod_eq_emod_of_nonneg (by omega)]; omega
  have hx := xor_low h b.toNat (by omega)
  have e2 : IntKind.u64.wrap ((IntKind.u64.wrap ((h : Int) - (Int.tmod (h : Int) 256))) + (IntKind.u64.wrap (Go.bits .xor .u8 ((h : Int) % 256) b))) = ((h ^^^ b.toNat : Nat) : Int) := by
    have hlt := xor_lt hh (show b.toNat < 18446744073709551616 by omega)
    rw [e0, e1, IntKind.wrap_u64, IntKind.wrap_u64, IntKind.wrap_u64, hx]
    rw [hx] at hlt
    generalize (h % 256) ^^^ b.toNat = q at *
    omega
  rw [e2, IntKind.wrap_u64, IntKind.wrap_u64, IntKind.wrap_u64]
  unfold step
  generalize h ^^^ b.toNat = q
  omega
theorem str_inj {l m : List Int} (hl : isB l) (hm : isB m) : ((strOfNums l).toList = (strOfNums m).toList) ↔ l = m := by
  rw [Lib.toList_data, Lib.toList_data]
  simp only [strOfNums, List.toList_toArray]
  constructor
  · intro h
    induction l generalizing m with
    | nil => cases m with
      | nil => rfl
      | cons y m => simp at h
    | cons x l ih =>
      cases m with
      | nil => simp at h
      | cons y m =>
        simp only [List.map_cons, List.cons.injEq] at h
        have hx := hl x List.mem_cons_self
        have hy := hm y List.mem_cons_self
        have e : x = y := by
          have := congrArg UInt8.toNat h.1
          simp only [UInt8.toNat_ofNat'] at this
          omega
        rw [e, ih (fun z hz => hl z (List.mem_cons_of_mem _ hz)) (fun z hz => hm z (List.mem_cons_of_mem _ hz)) h.2]
  · rintro rfl; rfl
end Go.Proofs.Ytlikohaeiehocaa.MCheck
