/-
  No cell of these rows narrows 'for every input' (looked for: loops, veiled, ifaces, maps, wideKeys, modest, calm, conditions, laid).
  DERIVED. THE GIVEN ROWS OF THIS SEAT. 5 by the template 'for every input the law returns true; each argument reads behind the call as it read before'; 0 by the template 'total and deterministic' (their statements: YtncbnejldlfbdaaTotals.lean).
  GIVEN WITH THE SEED: the statements are not yours to turn. If you find one false, say at which input.
  Laid BY PROGRAM, IN A SANDBOX (cutbox-rows.mjs): the forced cells as the released guide's own fill.sh prints them over the translation 04efc93d4f864c76… (all of the seat's roots in one cut). By AI agents, Wed Nov 11 2026. No macro, syntax, notation, axiom, sorry.
-/
import Derived.Test.YtncbnejldlfbdaaChecked
import GoSem.Claim
import GoSem.ClaimJoined
import GoSem.ClaimMapViews
import Derived.JoinedTies
import Derived.KernelRfl
namespace Go.Proofs.Ytncbnejldlfbdaa
/- THE CELL 'sum', in the pinned program and in every row, IS THE sha256 OF THE DUMP (.gsa) THAT YtncbnejldlfbdaaProg.lean LOADS. Nothing in Lean hashes anything: it is a label: what it is worth is what the hold of that sum in a sandbox is worth. -/
noncomputable def Try.pinned : Pinned := { name := "ytncbnejldlfbdaa", sum := "04efc93d4f864c763cfb35987ce04b9b552442f6c958ebd5cc4e457903212976", checked := Try.checked }
namespace Rows
def none {H : Type} : Left H := { results := [], args := [] }

/-- 'waywiserlaw29.CursorsNone': WHATEVER THE INPUT: true; the input reads as it did. -/
def cursorsNoneSpec : ChangeSpec := { name := "cursorsNone", fn := fun _ => fun
  | [d] => { results := [.lit (.bool true)], args := [d] }
  | _ => none }
def cursorsNoneRow : OpenClaim := { program := "ytncbnejldlfbdaa", sum := "04efc93d4f864c763cfb35987ce04b9b552442f6c958ebd5cc4e457903212976", func := "waywiser/waywiserlaw29.CursorsNone", spec := "cursorsNone", unfollowed := true, recurses := true, apart := false }
def CursorsNoneSaid : Prop := cursorsNoneRow.holds Try.pinned (OpenSpec.ofChange cursorsNoneSpec)

/-- ITS FALSE NEIGHBOUR: 'it returns false'. Refute it at one input. -/
def cursorsNoneWrong : ChangeSpec := { name := "cursorsNone", fn := fun _ => fun
  | [d] => { results := [.lit (.bool false)], args := [d] }
  | _ => none }
def CursorsNoneWrongFalsely : Prop := cursorsNoneRow.holds Try.pinned (OpenSpec.ofChange cursorsNoneWrong)

/-- 'waywiserlaw20.FrontRises': WHATEVER THE INPUT: true; the input reads as it did. -/
def frontRisesSpec : ChangeSpec := { name := "frontRises", fn := fun _ => fun
  | [d] => { results := [.lit (.bool true)], args := [d] }
  | _ => none }
def frontRisesRow : OpenClaim := { program := "ytncbnejldlfbdaa", sum := "04efc93d4f864c763cfb35987ce04b9b552442f6c958ebd5cc4e457903212976", func := "waywiser/waywiserlaw20.FrontRises", spec := "frontRises", unfollowed := true, recurses := true, apart := false }
def FrontRisesSaid : Prop := frontRisesRow.holds Try.pinned (OpenSpec.ofChange frontRisesSpec)

/-- ITS FALSE NEIGHBOUR: 'it returns false'. Refute it at one input. -/
def frontRisesWrong : ChangeSpec := { name := "frontRises", fn := fun _ => fun
  | [d] => { results := [.lit (.bool false)], args := [d] }
  | _ => none }
def FrontRisesWrongFalsely : Prop := frontRisesRow.holds Try.pinned (OpenSpec.ofChange frontRisesWrong)

/-- 'waywiserlaw20.FrontNone': WHATEVER THE INPUT: true; the input reads as it did. -/
def frontNoneSpec : ChangeSpec := { name := "frontNone", fn := fun _ => fun
  | [d1, d2] => { results := [.lit (.bool true)], args := [d1, d2] }
  | _ => none }
def frontNoneRow : OpenClaim := { program := "ytncbnejldlfbdaa", sum := "04efc93d4f864c763cfb35987ce04b9b552442f6c958ebd5cc4e457903212976", func := "waywiser/waywiserlaw20.FrontNone", spec := "frontNone", unfollowed := true, recurses := true, apart := false }
def FrontNoneSaid : Prop := frontNoneRow.holds Try.pinned (OpenSpec.ofChange frontNoneSpec)

/-- ITS FALSE NEIGHBOUR: 'it returns false'. Refute it at one input. -/
def frontNoneWrong : ChangeSpec := { name := "frontNone", fn := fun _ => fun
  | [d1, d2] => { results := [.lit (.bool false)], args := [d1, d2] }
  | _ => none }
def FrontNoneWrongFalsely : Prop := frontNoneRow.holds Try.pinned (OpenSpec.ofChange frontNoneWrong)

/-- 'waywiserlaw21.IndexFresh': WHATEVER THE INPUT: true; the input reads as it did. -/
def indexFreshSpec : ChangeSpec := { name := "indexFresh", fn := fun _ => fun
  | [d1, d2] => { results := [.lit (.bool true)], args := [d1, d2] }
  | _ => none }
def indexFreshRow : OpenClaim := { program := "ytncbnejldlfbdaa", sum := "04efc93d4f864c763cfb35987ce04b9b552442f6c958ebd5cc4e457903212976", func := "waywiser/waywiserlaw21.IndexFresh", spec := "indexFresh", unfollowed := true, recurses := true, apart := false }
def IndexFreshSaid : Prop := indexFreshRow.holds Try.pinned (OpenSpec.ofChange indexFreshSpec)

/-- ITS FALSE NEIGHBOUR: 'it returns false'. Refute it at one input. -/
def indexFreshWrong : ChangeSpec := { name := "indexFresh", fn := fun _ => fun
  | [d1, d2] => { results := [.lit (.bool false)], args := [d1, d2] }
  | _ => none }
def IndexFreshWrongFalsely : Prop := indexFreshRow.holds Try.pinned (OpenSpec.ofChange indexFreshWrong)

/-- 'waywiserlaw29.CursorsDo': WHATEVER THE INPUT: true; the input reads as it did. -/
def cursorsDoSpec : ChangeSpec := { name := "cursorsDo", fn := fun _ => fun
  | [d1, d2] => { results := [.lit (.bool true)], args := [d1, d2] }
  | _ => none }
def cursorsDoRow : OpenClaim := { program := "ytncbnejldlfbdaa", sum := "04efc93d4f864c763cfb35987ce04b9b552442f6c958ebd5cc4e457903212976", func := "waywiser/waywiserlaw29.CursorsDo", spec := "cursorsDo", unfollowed := true, recurses := true, apart := false }
def CursorsDoSaid : Prop := cursorsDoRow.holds Try.pinned (OpenSpec.ofChange cursorsDoSpec)

/-- ITS FALSE NEIGHBOUR: 'it returns false'. Refute it at one input. -/
def cursorsDoWrong : ChangeSpec := { name := "cursorsDo", fn := fun _ => fun
  | [d1, d2] => { results := [.lit (.bool false)], args := [d1, d2] }
  | _ => none }
def CursorsDoWrongFalsely : Prop := cursorsDoRow.holds Try.pinned (OpenSpec.ofChange cursorsDoWrong)

/- THE SECOND FORM. 'bulk': how many values and letters a reading holds, each counted each time it is reached (what is shared counts as often as it is met; a slice's spare places count too). A statement '..UptoSaid' is the law's where the arguments, and the package variables that the reading takes, are together of bulk at most 1048576: NARROWER than '..Said'. Prove '..Said' where nothing that the law and all that it calls make is longer than what came in: it says more and counts as full. Else prove '..UptoSaid'. A law counts once. -/
mutual
def uptoBulk {H : Type} : DataW H → Nat
  | .lit (.string bytes) => bytes.length + 1
  | .lit _ => 1
  | .nil => 1
  | .ptr d => uptoBulk d + 1
  | .slice elems spare => uptoBulkAll elems + uptoBulkAll spare + 1
  | .agg parts => uptoBulkAll parts + 1
  | .iface _ d => uptoBulk d + 1
  | .map entries => uptoBulkEntries entries + 1
  | .held _ => 1
def uptoBulkAll {H : Type} : List (DataW H) → Nat
  | [] => 0
  | d :: r => uptoBulk d + uptoBulkAll r
def uptoBulkEntries {H : Type} : List (Lit × DataW H) → Nat
  | [] => 0
  | x :: r => uptoBulkEntry x + uptoBulkEntries r
def uptoBulkEntry {H : Type} : Lit × DataW H → Nat
  | (.string bytes, d) => bytes.length + uptoBulk d + 1
  | (_, d) => uptoBulk d + 1
 end
def uptoSmall : (H : Type) → List (DataW H) → Bool := fun _ ds => decide (uptoBulkAll ds ≤ 1048576)
def OpenSpec.upto (s : _root_.Go.ChangeSpec) : _root_.Go.OpenSpec := { _root_.Go.OpenSpec.ofChange s with cond := some uptoSmall }

/-- 'waywiserlaw29.CursorsNone', WHERE WHAT IT READS IS OF BULK AT MOST 1048576: true; the input reads as it did. -/
def cursorsNoneUptoRow : OpenClaim := { program := "ytncbnejldlfbdaa", sum := "04efc93d4f864c763cfb35987ce04b9b552442f6c958ebd5cc4e457903212976", func := "waywiser/waywiserlaw29.CursorsNone", spec := "cursorsNone", unfollowed := true, recurses := true, apart := false, narrowed := true }
def CursorsNoneUptoSaid : Prop := cursorsNoneUptoRow.holds Try.pinned (OpenSpec.upto cursorsNoneSpec)

/-- 'waywiserlaw20.FrontRises', WHERE WHAT IT READS IS OF BULK AT MOST 1048576: true; the input reads as it did. -/
def frontRisesUptoRow : OpenClaim := { program := "ytncbnejldlfbdaa", sum := "04efc93d4f864c763cfb35987ce04b9b552442f6c958ebd5cc4e457903212976", func := "waywiser/waywiserlaw20.FrontRises", spec := "frontRises", unfollowed := true, recurses := true, apart := false, narrowed := true }
def FrontRisesUptoSaid : Prop := frontRisesUptoRow.holds Try.pinned (OpenSpec.upto frontRisesSpec)

/-- 'waywiserlaw20.FrontNone', WHERE WHAT IT READS IS OF BULK AT MOST 1048576: true; the input reads as it did. -/
def frontNoneUptoRow : OpenClaim := { program := "ytncbnejldlfbdaa", sum := "04efc93d4f864c763cfb35987ce04b9b552442f6c958ebd5cc4e457903212976", func := "waywiser/waywiserlaw20.FrontNone", spec := "frontNone", unfollowed := true, recurses := true, apart := false, narrowed := true }
def FrontNoneUptoSaid : Prop := frontNoneUptoRow.holds Try.pinned (OpenSpec.upto frontNoneSpec)

/-- 'waywiserlaw21.IndexFresh', WHERE WHAT IT READS IS OF BULK AT MOST 1048576: true; the input reads as it did. -/
def indexFreshUptoRow : OpenClaim := { program := "ytncbnejldlfbdaa", sum := "04efc93d4f864c763cfb35987ce04b9b552442f6c958ebd5cc4e457903212976", func := "waywiser/waywiserlaw21.IndexFresh", spec := "indexFresh", unfollowed := true, recurses := true, apart := false, narrowed := true }
def IndexFreshUptoSaid : Prop := indexFreshUptoRow.holds Try.pinned (OpenSpec.upto indexFreshSpec)

/-- 'waywiserlaw29.CursorsDo', WHERE WHAT IT READS IS OF BULK AT MOST 1048576: true; the input reads as it did. -/
def cursorsDoUptoRow : OpenClaim := { program := "ytncbnejldlfbdaa", sum := "04efc93d4f864c763cfb35987ce04b9b552442f6c958ebd5cc4e457903212976", func := "waywiser/waywiserlaw29.CursorsDo", spec := "cursorsDo", unfollowed := true, recurses := true, apart := false, narrowed := true }
def CursorsDoUptoSaid : Prop := cursorsDoUptoRow.holds Try.pinned (OpenSpec.upto cursorsDoSpec)

end Rows
end Go.Proofs.Ytncbnejldlfbdaa
