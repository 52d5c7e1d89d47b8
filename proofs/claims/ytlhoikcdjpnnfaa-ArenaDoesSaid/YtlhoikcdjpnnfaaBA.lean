/- The reference's Put in the spelling that its callers show, where slots are fewer than 2^43. -/
import Derived.Test.YtlhoikcdjpnnfaaAZ
namespace Go.Proofs.Ytlhoikcdjpnnfaa.PArena
open Go.RowKit Go.Proofs.YtlhoikcdjpnnfaaW.PrintWords Go.Proofs.YtlhoikcdjpnnfaaW.PrintLast Go.Proofs.YtlhoikcdjpnnfaaW.PrintMore
open Go.Proofs.Ytlhoikcdjpnnfaa.PRef
theorem rput_new_calls (A1 : Option Addr) (c1 : Nat) (sl : List Slot) (A2 : Option Addr) (c2 : Nat) (z : Int) (w : World) (h0 : Kd.C k51 w A1 (toS sl).length (toS sl)) (hc0 : (toS sl).length ≤ c1)
    (h1 : Kd.C (Kd.int .i64) w A2 ([] : List Int).length []) (hs : sl.length < 8796093022208) :
    Calls Try.prog 21 #[.agg #[.slice A1 (toS sl).length c1, .slice A2 0 c2], .int .i64 z] w fun e w' => ∃ v0_ v1_ : Value, e = .returned (.tuple #[.agg #[v0_, v1_], .int .i64 (sl.length : Int)]) ∧ Kd.R k51 51 w' w.heap.size (fun _ => True) v0_ (toS (sl ++ [(true, z)])) ∧ Kd.R (Kd.int .i64) 3 w' w.heap.size (fun _ => True) v1_ [] ∧ Below w.heap.size w w' :=
  waywiserref13_Put.calls A1 c1 (toS sl) A2 c2 [] z _ _ _ w h0 hc0 h1 (Nat.zero_le _) (rput_new sl z hs)
theorem rput_free_calls (A1 : Option Addr) (c1 : Nat) (sl : List Slot) (A2 : Option Addr) (c2 : Nat) (fr : List Int) (m : Nat) (z : Int) (w : World) (h0 : Kd.C k51 w A1 (toS sl).length (toS sl)) (hc0 : (toS sl).length ≤ c1)
    (h1 : Kd.C (Kd.int .i64) w A2 (fr ++ [(m : Int)]).length (fr ++ [(m : Int)])) (hc1 : (fr ++ [(m : Int)]).length ≤ c2) (hs : sl.length < 8796093022208) (hf : fr.length < 8796093022208) (hm : m < sl.length) :
    Calls Try.prog 21 #[.agg #[.slice A1 (toS sl).length c1, .slice A2 (fr.length + 1) c2], .int .i64 z] w fun e w' => ∃ v0_ v1_ : Value, e = .returned (.tuple #[.agg #[v0_, v1_], .int .i64 (m : Int)]) ∧ Kd.R k51 51 w' w.heap.size (fun _ => True) v0_ (toS (sl.set m (true, z))) ∧ Kd.R (Kd.int .i64) 3 w' w.heap.size (fun _ => True) v1_ fr ∧ Below w.heap.size w w' := by
  have := waywiserref13_Put.calls A1 c1 (toS sl) A2 c2 (fr ++ [(m : Int)]) z _ _ _ w h0 hc0 h1 hc1 (rput_free sl fr m z hs hf hm)
  rw [show (fr ++ [(m : Int)]).length = fr.length + 1 from by simp] at this
  exact this
end Go.Proofs.Ytlhoikcdjpnnfaa.PArena
