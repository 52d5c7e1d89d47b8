/-
  No cell of these rows narrows 'for every input' (looked for: loops, veiled, ifaces, maps, wideKeys, modest, calm, conditions, laid).
  DERIVED. THE GIVEN ROWS OF THIS SEAT. 3 by the template 'for every input the law returns true; each argument reads behind the call as it read before'; 0 by the template 'total and deterministic' (their statements: YtlkjkfloodbkoaaTotals.lean).
  GIVEN WITH THE SEED: the statements are not yours to turn. If you find one false, say at which input.
  Laid BY PROGRAM, IN A SANDBOX (cutbox-rows.mjs): the forced cells as the released guide's own fill.sh prints them over the translation b1480f7a7955a66a… (all of the seat's roots in one cut). By AI agents, Wed Nov 11 2026. No macro, syntax, notation, axiom, sorry.
-/
import Derived.Test.YtlkjkfloodbkoaaChecked
import GoSem.Claim
import GoSem.ClaimJoined
import GoSem.ClaimMapViews
import Derived.JoinedTies
import Derived.KernelRfl
namespace Go.Proofs.Ytlkjkfloodbkoaa
/- THE CELL 'sum', in the pinned program and in every row, IS THE sha256 OF THE DUMP (.gsa) THAT YtlkjkfloodbkoaaProg.lean LOADS. Nothing in Lean hashes anything: it is a label: what it is worth is what the hold of that sum in a sandbox is worth. -/
noncomputable def Try.pinned : Pinned := { name := "ytlkjkfloodbkoaa", sum := "b1480f7a7955a66a38c601fdd8255836ee3fce15aafa183b703b4f74481027f3", checked := Try.checked }
namespace Rows
def none {H : Type} : Left H := { results := [], args := [] }

/-- 'waywiserlaw07.HamMetric': WHATEVER THE INPUT: true; the input reads as it did. -/
def hamMetricSpec : ChangeSpec := { name := "hamMetric", fn := fun _ => fun
  | [d1, d2, d3] => { results := [.lit (.bool true)], args := [d1, d2, d3] }
  | _ => none }
def hamMetricRow : OpenClaim := { program := "ytlkjkfloodbkoaa", sum := "b1480f7a7955a66a38c601fdd8255836ee3fce15aafa183b703b4f74481027f3", func := "waywiser/waywiserlaw07.HamMetric", spec := "hamMetric", apart := false }
def HamMetricSaid : Prop := hamMetricRow.holds Try.pinned (OpenSpec.ofChange hamMetricSpec)

/-- ITS FALSE NEIGHBOUR: 'it returns false'. Refute it at one input. -/
def hamMetricWrong : ChangeSpec := { name := "hamMetric", fn := fun _ => fun
  | [d1, d2, d3] => { results := [.lit (.bool false)], args := [d1, d2, d3] }
  | _ => none }
def HamMetricWrongFalsely : Prop := hamMetricRow.holds Try.pinned (OpenSpec.ofChange hamMetricWrong)

/-- 'waywiserlaw07.HamPairs': WHATEVER THE INPUT: true; the input reads as it did. -/
def hamPairsSpec : ChangeSpec := { name := "hamPairs", fn := fun _ => fun
  | [d] => { results := [.lit (.bool true)], args := [d] }
  | _ => none }
def hamPairsRow : OpenClaim := { program := "ytlkjkfloodbkoaa", sum := "b1480f7a7955a66a38c601fdd8255836ee3fce15aafa183b703b4f74481027f3", func := "waywiser/waywiserlaw07.HamPairs", spec := "hamPairs", apart := false }
def HamPairsSaid : Prop := hamPairsRow.holds Try.pinned (OpenSpec.ofChange hamPairsSpec)

/-- ITS FALSE NEIGHBOUR: 'it returns false'. Refute it at one input. -/
def hamPairsWrong : ChangeSpec := { name := "hamPairs", fn := fun _ => fun
  | [d] => { results := [.lit (.bool false)], args := [d] }
  | _ => none }
def HamPairsWrongFalsely : Prop := hamPairsRow.holds Try.pinned (OpenSpec.ofChange hamPairsWrong)

/-- 'waywiserlaw07.HamTells': WHATEVER THE INPUT: true; the input reads as it did. -/
def hamTellsSpec : ChangeSpec := { name := "hamTells", fn := fun _ => fun
  | [d1, d2, d3] => { results := [.lit (.bool true)], args := [d1, d2, d3] }
  | _ => none }
def hamTellsRow : OpenClaim := { program := "ytlkjkfloodbkoaa", sum := "b1480f7a7955a66a38c601fdd8255836ee3fce15aafa183b703b4f74481027f3", func := "waywiser/waywiserlaw07.HamTells", spec := "hamTells", apart := false }
def HamTellsSaid : Prop := hamTellsRow.holds Try.pinned (OpenSpec.ofChange hamTellsSpec)

/-- ITS FALSE NEIGHBOUR: 'it returns false'. Refute it at one input. -/
def hamTellsWrong : ChangeSpec := { name := "hamTells", fn := fun _ => fun
  | [d1, d2, d3] => { results := [.lit (.bool false)], args := [d1, d2, d3] }
  | _ => none }
def HamTellsWrongFalsely : Prop := hamTellsRow.holds Try.pinned (OpenSpec.ofChange hamTellsWrong)

/- THE SECOND FORM. 'bulk': how many values and letters a reading holds, each counted each time it is reached (what is shared counts as often as it is met; a slice's spare places count too). A statement '..UptoSaid' is the law's where the arguments, and the package variables that the reading takes, are together of bulk at most 1048576: NARROWER than '..Said'. Prove '..Said' where nothing that the law and all that it calls make is longer than what came in: it says more and counts as full. Else prove '..UptoSaid'. A law counts once. -/
mutual
def uptoBulk {H : Type} : DataW H → Nat
  | .lit (.string bytes) => bytes.length + 1
  | .lit _ => 1
  | .nil => 1
  | .ptr d => uptoBulk d + 1
  | .slice elems spare => uptoBulkAll elems + uptoBulkAll spare + 1
  | .agg parts => uptoBulkAll parts + 1
  | .iface _ d => uptoBulk d + 1
  | .map entries => uptoBulkEntries entries + 1
  | .held _ => 1
def uptoBulkAll {H : Type} : List (DataW H) → Nat
  | [] => 0
  | d :: r => uptoBulk d + uptoBulkAll r
def uptoBulkEntries {H : Type} : List (Lit × DataW H) → Nat
  | [] => 0
  | x :: r => uptoBulkEntry x + uptoBulkEntries r
def uptoBulkEntry {H : Type} : Lit × DataW H → Nat
  | (.string bytes, d) => bytes.length + uptoBulk d + 1
  | (_, d) => uptoBulk d + 1
 end
def uptoSmall : (H : Type) → List (DataW H) → Bool := fun _ ds => decide (uptoBulkAll ds ≤ 1048576)
def OpenSpec.upto (s : _root_.Go.ChangeSpec) : _root_.Go.OpenSpec := { _root_.Go.OpenSpec.ofChange s with cond := some uptoSmall }

/-- 'waywiserlaw07.HamMetric', WHERE WHAT IT READS IS OF BULK AT MOST 1048576: true; the input reads as it did. -/
def hamMetricUptoRow : OpenClaim := { program := "ytlkjkfloodbkoaa", sum := "b1480f7a7955a66a38c601fdd8255836ee3fce15aafa183b703b4f74481027f3", func := "waywiser/waywiserlaw07.HamMetric", spec := "hamMetric", apart := false, narrowed := true }
def HamMetricUptoSaid : Prop := hamMetricUptoRow.holds Try.pinned (OpenSpec.upto hamMetricSpec)

/-- 'waywiserlaw07.HamPairs', WHERE WHAT IT READS IS OF BULK AT MOST 1048576: true; the input reads as it did. -/
def hamPairsUptoRow : OpenClaim := { program := "ytlkjkfloodbkoaa", sum := "b1480f7a7955a66a38c601fdd8255836ee3fce15aafa183b703b4f74481027f3", func := "waywiser/waywiserlaw07.HamPairs", spec := "hamPairs", apart := false, narrowed := true }
def HamPairsUptoSaid : Prop := hamPairsUptoRow.holds Try.pinned (OpenSpec.upto hamPairsSpec)

/-- 'waywiserlaw07.HamTells', WHERE WHAT IT READS IS OF BULK AT MOST 1048576: true; the input reads as it did. -/
def hamTellsUptoRow : OpenClaim := { program := "ytlkjkfloodbkoaa", sum := "b1480f7a7955a66a38c601fdd8255836ee3fce15aafa183b703b4f74481027f3", func := "waywiser/waywiserlaw07.HamTells", spec := "hamTells", apart := false, narrowed := true }
def HamTellsUptoSaid : Prop := hamTellsUptoRow.holds Try.pinned (OpenSpec.upto hamTellsSpec)

end Rows
end Go.Proofs.Ytlkjkfloodbkoaa
