/-
  No cell of these rows narrows 'for every input' (looked for: loops, veiled, ifaces, maps, wideKeys, modest, calm, conditions, laid).
  DERIVED. THE GIVEN ROWS OF THIS SEAT. 5 by the template 'for every input the law returns true; each argument reads behind the call as it read before'; 0 by the template 'total and deterministic' (their statements: YtlhoikcdjpnnfaaTotals.lean).
  GIVEN WITH THE SEED: the statements are not yours to turn. If you find one false, say at which input.
  Laid BY PROGRAM, IN A SANDBOX (cutbox-rows.mjs): the forced cells as the released guide's own fill.sh prints them over the translation 59f3a0a775684551… (all of the seat's roots in one cut). By AI agents, Wed Nov 11 2026. No macro, syntax, notation, axiom, sorry.
-/
import Derived.Test.YtlhoikcdjpnnfaaChecked
import GoSem.Claim
import GoSem.ClaimJoined
import GoSem.ClaimMapViews
import Derived.JoinedTies
import Derived.KernelRfl
namespace Go.Proofs.Ytlhoikcdjpnnfaa
/- THE CELL 'sum', in the pinned program and in every row, IS THE sha256 OF THE DUMP (.gsa) THAT YtlhoikcdjpnnfaaProg.lean LOADS. Nothing in Lean hashes anything: it is a label: what it is worth is what the hold of that sum in a sandbox is worth. -/
noncomputable def Try.pinned : Pinned := { name := "ytlhoikcdjpnnfaa", sum := "59f3a0a77568455133623bd059c0a902a04d101a5768d8c88e6082cf027bedbc", checked := Try.checked }
namespace Rows
def none {H : Type} : Left H := { results := [], args := [] }

/-- 'waywiserlaw16.DrawsPick': WHATEVER THE INPUT: true; the input reads as it did. -/
def drawsPickSpec : ChangeSpec := { name := "drawsPick", fn := fun _ => fun
  | [d1, d2] => { results := [.lit (.bool true)], args := [d1, d2] }
  | _ => none }
def drawsPickRow : OpenClaim := { program := "ytlhoikcdjpnnfaa", sum := "59f3a0a77568455133623bd059c0a902a04d101a5768d8c88e6082cf027bedbc", func := "waywiser/waywiserlaw16.DrawsPick", spec := "drawsPick", apart := false }
def DrawsPickSaid : Prop := drawsPickRow.holds Try.pinned (OpenSpec.ofChange drawsPickSpec)

/-- ITS FALSE NEIGHBOUR: 'it returns false'. Refute it at one input. -/
def drawsPickWrong : ChangeSpec := { name := "drawsPick", fn := fun _ => fun
  | [d1, d2] => { results := [.lit (.bool false)], args := [d1, d2] }
  | _ => none }
def DrawsPickWrongFalsely : Prop := drawsPickRow.holds Try.pinned (OpenSpec.ofChange drawsPickWrong)

/-- 'waywiserlaw16.DrawsMod': WHATEVER THE INPUT: true; the input reads as it did. -/
def drawsModSpec : ChangeSpec := { name := "drawsMod", fn := fun _ => fun
  | [d1, d2] => { results := [.lit (.bool true)], args := [d1, d2] }
  | _ => none }
def drawsModRow : OpenClaim := { program := "ytlhoikcdjpnnfaa", sum := "59f3a0a77568455133623bd059c0a902a04d101a5768d8c88e6082cf027bedbc", func := "waywiser/waywiserlaw16.DrawsMod", spec := "drawsMod", apart := false }
def DrawsModSaid : Prop := drawsModRow.holds Try.pinned (OpenSpec.ofChange drawsModSpec)

/-- ITS FALSE NEIGHBOUR: 'it returns false'. Refute it at one input. -/
def drawsModWrong : ChangeSpec := { name := "drawsMod", fn := fun _ => fun
  | [d1, d2] => { results := [.lit (.bool false)], args := [d1, d2] }
  | _ => none }
def DrawsModWrongFalsely : Prop := drawsModRow.holds Try.pinned (OpenSpec.ofChange drawsModWrong)

/-- 'waywiserlaw13.ArenaStays': WHATEVER THE INPUT: true; the input reads as it did. -/
def arenaStaysSpec : ChangeSpec := { name := "arenaStays", fn := fun _ => fun
  | [d1, d2] => { results := [.lit (.bool true)], args := [d1, d2] }
  | _ => none }
def arenaStaysRow : OpenClaim := { program := "ytlhoikcdjpnnfaa", sum := "59f3a0a77568455133623bd059c0a902a04d101a5768d8c88e6082cf027bedbc", func := "waywiser/waywiserlaw13.ArenaStays", spec := "arenaStays", apart := false }
def ArenaStaysSaid : Prop := arenaStaysRow.holds Try.pinned (OpenSpec.ofChange arenaStaysSpec)

/-- ITS FALSE NEIGHBOUR: 'it returns false'. Refute it at one input. -/
def arenaStaysWrong : ChangeSpec := { name := "arenaStays", fn := fun _ => fun
  | [d1, d2] => { results := [.lit (.bool false)], args := [d1, d2] }
  | _ => none }
def ArenaStaysWrongFalsely : Prop := arenaStaysRow.holds Try.pinned (OpenSpec.ofChange arenaStaysWrong)

/-- 'waywiserlaw13.ArenaDoes': WHATEVER THE INPUT: true; the input reads as it did. -/
def arenaDoesSpec : ChangeSpec := { name := "arenaDoes", fn := fun _ => fun
  | [d] => { results := [.lit (.bool true)], args := [d] }
  | _ => none }
def arenaDoesRow : OpenClaim := { program := "ytlhoikcdjpnnfaa", sum := "59f3a0a77568455133623bd059c0a902a04d101a5768d8c88e6082cf027bedbc", func := "waywiser/waywiserlaw13.ArenaDoes", spec := "arenaDoes", apart := false }
def ArenaDoesSaid : Prop := arenaDoesRow.holds Try.pinned (OpenSpec.ofChange arenaDoesSpec)

/-- ITS FALSE NEIGHBOUR: 'it returns false'. Refute it at one input. -/
def arenaDoesWrong : ChangeSpec := { name := "arenaDoes", fn := fun _ => fun
  | [d] => { results := [.lit (.bool false)], args := [d] }
  | _ => none }
def ArenaDoesWrongFalsely : Prop := arenaDoesRow.holds Try.pinned (OpenSpec.ofChange arenaDoesWrong)

/-- 'waywiserlaw13.ArenaNone': WHATEVER THE INPUT: true; the input reads as it did. -/
def arenaNoneSpec : ChangeSpec := { name := "arenaNone", fn := fun _ => fun
  | [d1, d2] => { results := [.lit (.bool true)], args := [d1, d2] }
  | _ => none }
def arenaNoneRow : OpenClaim := { program := "ytlhoikcdjpnnfaa", sum := "59f3a0a77568455133623bd059c0a902a04d101a5768d8c88e6082cf027bedbc", func := "waywiser/waywiserlaw13.ArenaNone", spec := "arenaNone", apart := false }
def ArenaNoneSaid : Prop := arenaNoneRow.holds Try.pinned (OpenSpec.ofChange arenaNoneSpec)

/-- ITS FALSE NEIGHBOUR: 'it returns false'. Refute it at one input. -/
def arenaNoneWrong : ChangeSpec := { name := "arenaNone", fn := fun _ => fun
  | [d1, d2] => { results := [.lit (.bool false)], args := [d1, d2] }
  | _ => none }
def ArenaNoneWrongFalsely : Prop := arenaNoneRow.holds Try.pinned (OpenSpec.ofChange arenaNoneWrong)

/- THE SECOND FORM. 'bulk': how many values and letters a reading holds, each counted each time it is reached (what is shared counts as often as it is met; a slice's spare places count too). A statement '..UptoSaid' is the law's where the arguments, and the package variables that the reading takes, are together of bulk at most 1048576: NARROWER than '..Said'. Prove '..Said' where nothing that the law and all that it calls make is longer than what came in: it says more and counts as full. Else prove '..UptoSaid'. A law counts once. -/
mutual
def uptoBulk {H : Type} : DataW H → Nat
  | .lit (.string bytes) => bytes.length + 1
  | .lit _ => 1
  | .nil => 1
  | .ptr d => uptoBulk d + 1
  | .slice elems spare => uptoBulkAll elems + uptoBulkAll spare + 1
  | .agg parts => uptoBulkAll parts + 1
  | .iface _ d => uptoBulk d + 1
  | .map entries => uptoBulkEntries entries + 1
  | .held _ => 1
def uptoBulkAll {H : Type} : List (DataW H) → Nat
  | [] => 0
  | d :: r => uptoBulk d + uptoBulkAll r
def uptoBulkEntries {H : Type} : List (Lit × DataW H) → Nat
  | [] => 0
  | x :: r => uptoBulkEntry x + uptoBulkEntries r
def uptoBulkEntry {H : Type} : Lit × DataW H → Nat
  | (.string bytes, d) => bytes.length + uptoBulk d + 1
  | (_, d) => uptoBulk d + 1
 end
def uptoSmall : (H : Type) → List (DataW H) → Bool := fun _ ds => decide (uptoBulkAll ds ≤ 1048576)
def OpenSpec.upto (s : _root_.Go.ChangeSpec) : _root_.Go.OpenSpec := { _root_.Go.OpenSpec.ofChange s with cond := some uptoSmall }

/-- 'waywiserlaw16.DrawsPick', WHERE WHAT IT READS IS OF BULK AT MOST 1048576: true; the input reads as it did. -/
def drawsPickUptoRow : OpenClaim := { program := "ytlhoikcdjpnnfaa", sum := "59f3a0a77568455133623bd059c0a902a04d101a5768d8c88e6082cf027bedbc", func := "waywiser/waywiserlaw16.DrawsPick", spec := "drawsPick", apart := false, narrowed := true }
def DrawsPickUptoSaid : Prop := drawsPickUptoRow.holds Try.pinned (OpenSpec.upto drawsPickSpec)

/-- 'waywiserlaw16.DrawsMod', WHERE WHAT IT READS IS OF BULK AT MOST 1048576: true; the input reads as it did. -/
def drawsModUptoRow : OpenClaim := { program := "ytlhoikcdjpnnfaa", sum := "59f3a0a77568455133623bd059c0a902a04d101a5768d8c88e6082cf027bedbc", func := "waywiser/waywiserlaw16.DrawsMod", spec := "drawsMod", apart := false, narrowed := true }
def DrawsModUptoSaid : Prop := drawsModUptoRow.holds Try.pinned (OpenSpec.upto drawsModSpec)

/-- 'waywiserlaw13.ArenaStays', WHERE WHAT IT READS IS OF BULK AT MOST 1048576: true; the input reads as it did. -/
def arenaStaysUptoRow : OpenClaim := { program := "ytlhoikcdjpnnfaa", sum := "59f3a0a77568455133623bd059c0a902a04d101a5768d8c88e6082cf027bedbc", func := "waywiser/waywiserlaw13.ArenaStays", spec := "arenaStays", apart := false, narrowed := true }
def ArenaStaysUptoSaid : Prop := arenaStaysUptoRow.holds Try.pinned (OpenSpec.upto arenaStaysSpec)

/-- 'waywiserlaw13.ArenaDoes', WHERE WHAT IT READS IS OF BULK AT MOST 1048576: true; the input reads as it did. -/
def arenaDoesUptoRow : OpenClaim := { program := "ytlhoikcdjpnnfaa", sum := "59f3a0a77568455133623bd059c0a902a04d101a5768d8c88e6082cf027bedbc", func := "waywiser/waywiserlaw13.ArenaDoes", spec := "arenaDoes", apart := false, narrowed := true }
def ArenaDoesUptoSaid : Prop := arenaDoesUptoRow.holds Try.pinned (OpenSpec.upto arenaDoesSpec)

/-- 'waywiserlaw13.ArenaNone', WHERE WHAT IT READS IS OF BULK AT MOST 1048576: true; the input reads as it did. -/
def arenaNoneUptoRow : OpenClaim := { program := "ytlhoikcdjpnnfaa", sum := "59f3a0a77568455133623bd059c0a902a04d101a5768d8c88e6082cf027bedbc", func := "waywiser/waywiserlaw13.ArenaNone", spec := "arenaNone", apart := false, narrowed := true }
def ArenaNoneUptoSaid : Prop := arenaNoneUptoRow.holds Try.pinned (OpenSpec.upto arenaNoneSpec)

end Rows
end Go.Proofs.Ytlhoikcdjpnnfaa
