/-
  No cell of these rows narrows 'for every input' (looked for: loops, veiled, ifaces, maps, wideKeys, modest, calm, conditions, laid).
  DERIVED. THE GIVEN ROWS OF THIS SEAT. 9 by the template 'for every input the law returns true; each argument reads behind the call as it read before'; 0 by the template 'total and deterministic' (their statements: YtklecgkjoofipaaTotals.lean).
  GIVEN WITH THE SEED: the statements are not yours to turn. If you find one false, say at which input.
  Laid BY PROGRAM, IN A SANDBOX (cutbox-rows.mjs): the forced cells as the released guide's own fill.sh prints them over the translation aac3795473968af5… (all of the seat's roots in one cut). By AI agents, Wed Nov 11 2026. No macro, syntax, notation, axiom, sorry.
-/
import Derived.Test.YtklecgkjoofipaaChecked
import GoSem.Claim
import GoSem.ClaimJoined
import GoSem.ClaimMapViews
import Derived.JoinedTies
import Derived.KernelRfl
namespace Go.Proofs.Ytklecgkjoofipaa
/- THE CELL 'sum', in the pinned program and in every row, IS THE sha256 OF THE DUMP (.gsa) THAT YtklecgkjoofipaaProg.lean LOADS. Nothing in Lean hashes anything: it is a label: what it is worth is what the hold of that sum in a sandbox is worth. -/
noncomputable def Try.pinned : Pinned := { name := "ytklecgkjoofipaa", sum := "aac3795473968af551cd738a09a8404a3afaae2c531c2bc0a7a6bb97ca5a9916", checked := Try.checked }
namespace Rows
def none {H : Type} : Left H := { results := [], args := [] }

/-- 'laws.FnExactCostOf': WHATEVER THE INPUT: true; the input reads as it did. -/
def fnExactCostOfSpec : ChangeSpec := { name := "fnExactCostOf", fn := fun _ => fun
  | [d1, d2, d3] => { results := [.lit (.bool true)], args := [d1, d2, d3] }
  | _ => none }
def fnExactCostOfRow : OpenClaim := { program := "ytklecgkjoofipaa", sum := "aac3795473968af551cd738a09a8404a3afaae2c531c2bc0a7a6bb97ca5a9916", func := "loop.example/g00575/laws.FnExactCostOf", spec := "fnExactCostOf", apart := false }
def FnExactCostOfSaid : Prop := fnExactCostOfRow.holds Try.pinned (OpenSpec.ofChange fnExactCostOfSpec)

/-- ITS FALSE NEIGHBOUR: 'it returns false'. Refute it at one input. -/
def fnExactCostOfWrong : ChangeSpec := { name := "fnExactCostOf", fn := fun _ => fun
  | [d1, d2, d3] => { results := [.lit (.bool false)], args := [d1, d2, d3] }
  | _ => none }
def FnExactCostOfWrongFalsely : Prop := fnExactCostOfRow.holds Try.pinned (OpenSpec.ofChange fnExactCostOfWrong)

/-- 'laws.FnExactCentreOf': WHATEVER THE INPUT: true; the input reads as it did. -/
def fnExactCentreOfSpec : ChangeSpec := { name := "fnExactCentreOf", fn := fun _ => fun
  | [d1, d2] => { results := [.lit (.bool true)], args := [d1, d2] }
  | _ => none }
def fnExactCentreOfRow : OpenClaim := { program := "ytklecgkjoofipaa", sum := "aac3795473968af551cd738a09a8404a3afaae2c531c2bc0a7a6bb97ca5a9916", func := "loop.example/g00575/laws.FnExactCentreOf", spec := "fnExactCentreOf", apart := false }
def FnExactCentreOfSaid : Prop := fnExactCentreOfRow.holds Try.pinned (OpenSpec.ofChange fnExactCentreOfSpec)

/-- ITS FALSE NEIGHBOUR: 'it returns false'. Refute it at one input. -/
def fnExactCentreOfWrong : ChangeSpec := { name := "fnExactCentreOf", fn := fun _ => fun
  | [d1, d2] => { results := [.lit (.bool false)], args := [d1, d2] }
  | _ => none }
def FnExactCentreOfWrongFalsely : Prop := fnExactCentreOfRow.holds Try.pinned (OpenSpec.ofChange fnExactCentreOfWrong)

/-- 'laws.FnExactRelaxAll': WHATEVER THE INPUT: true; the input reads as it did. -/
def fnExactRelaxAllSpec : ChangeSpec := { name := "fnExactRelaxAll", fn := fun _ => fun
  | [d1, d2, d3] => { results := [.lit (.bool true)], args := [d1, d2, d3] }
  | _ => none }
def fnExactRelaxAllRow : OpenClaim := { program := "ytklecgkjoofipaa", sum := "aac3795473968af551cd738a09a8404a3afaae2c531c2bc0a7a6bb97ca5a9916", func := "loop.example/g00575/laws.FnExactRelaxAll", spec := "fnExactRelaxAll", apart := false }
def FnExactRelaxAllSaid : Prop := fnExactRelaxAllRow.holds Try.pinned (OpenSpec.ofChange fnExactRelaxAllSpec)

/-- ITS FALSE NEIGHBOUR: 'it returns false'. Refute it at one input. -/
def fnExactRelaxAllWrong : ChangeSpec := { name := "fnExactRelaxAll", fn := fun _ => fun
  | [d1, d2, d3] => { results := [.lit (.bool false)], args := [d1, d2, d3] }
  | _ => none }
def FnExactRelaxAllWrongFalsely : Prop := fnExactRelaxAllRow.holds Try.pinned (OpenSpec.ofChange fnExactRelaxAllWrong)

/-- 'laws.FnExactFarsFrom': WHATEVER THE INPUT: true; the input reads as it did. -/
def fnExactFarsFromSpec : ChangeSpec := { name := "fnExactFarsFrom", fn := fun _ => fun
  | [d1, d2, d3] => { results := [.lit (.bool true)], args := [d1, d2, d3] }
  | _ => none }
def fnExactFarsFromRow : OpenClaim := { program := "ytklecgkjoofipaa", sum := "aac3795473968af551cd738a09a8404a3afaae2c531c2bc0a7a6bb97ca5a9916", func := "loop.example/g00575/laws.FnExactFarsFrom", spec := "fnExactFarsFrom", apart := false }
def FnExactFarsFromSaid : Prop := fnExactFarsFromRow.holds Try.pinned (OpenSpec.ofChange fnExactFarsFromSpec)

/-- ITS FALSE NEIGHBOUR: 'it returns false'. Refute it at one input. -/
def fnExactFarsFromWrong : ChangeSpec := { name := "fnExactFarsFrom", fn := fun _ => fun
  | [d1, d2, d3] => { results := [.lit (.bool false)], args := [d1, d2, d3] }
  | _ => none }
def FnExactFarsFromWrongFalsely : Prop := fnExactFarsFromRow.holds Try.pinned (OpenSpec.ofChange fnExactFarsFromWrong)

/-- 'laws.FnExactHopFor': WHATEVER THE INPUT: true; the input reads as it did. -/
def fnExactHopForSpec : ChangeSpec := { name := "fnExactHopFor", fn := fun _ => fun
  | [d1, d2, d3, d4, d5] => { results := [.lit (.bool true)], args := [d1, d2, d3, d4, d5] }
  | _ => none }
def fnExactHopForRow : OpenClaim := { program := "ytklecgkjoofipaa", sum := "aac3795473968af551cd738a09a8404a3afaae2c531c2bc0a7a6bb97ca5a9916", func := "loop.example/g00575/laws.FnExactHopFor", spec := "fnExactHopFor", apart := false }
def FnExactHopForSaid : Prop := fnExactHopForRow.holds Try.pinned (OpenSpec.ofChange fnExactHopForSpec)

/-- ITS FALSE NEIGHBOUR: 'it returns false'. Refute it at one input. -/
def fnExactHopForWrong : ChangeSpec := { name := "fnExactHopFor", fn := fun _ => fun
  | [d1, d2, d3, d4, d5] => { results := [.lit (.bool false)], args := [d1, d2, d3, d4, d5] }
  | _ => none }
def FnExactHopForWrongFalsely : Prop := fnExactHopForRow.holds Try.pinned (OpenSpec.ofChange fnExactHopForWrong)

/-- 'laws.FnExactFirstHops': WHATEVER THE INPUT: true; the input reads as it did. -/
def fnExactFirstHopsSpec : ChangeSpec := { name := "fnExactFirstHops", fn := fun _ => fun
  | [d1, d2, d3, d4] => { results := [.lit (.bool true)], args := [d1, d2, d3, d4] }
  | _ => none }
def fnExactFirstHopsRow : OpenClaim := { program := "ytklecgkjoofipaa", sum := "aac3795473968af551cd738a09a8404a3afaae2c531c2bc0a7a6bb97ca5a9916", func := "loop.example/g00575/laws.FnExactFirstHops", spec := "fnExactFirstHops", apart := false }
def FnExactFirstHopsSaid : Prop := fnExactFirstHopsRow.holds Try.pinned (OpenSpec.ofChange fnExactFirstHopsSpec)

/-- ITS FALSE NEIGHBOUR: 'it returns false'. Refute it at one input. -/
def fnExactFirstHopsWrong : ChangeSpec := { name := "fnExactFirstHops", fn := fun _ => fun
  | [d1, d2, d3, d4] => { results := [.lit (.bool false)], args := [d1, d2, d3, d4] }
  | _ => none }
def FnExactFirstHopsWrongFalsely : Prop := fnExactFirstHopsRow.holds Try.pinned (OpenSpec.ofChange fnExactFirstHopsWrong)

/-- 'laws.FnExactWayTo': WHATEVER THE INPUT: true; the input reads as it did. -/
def fnExactWayToSpec : ChangeSpec := { name := "fnExactWayTo", fn := fun _ => fun
  | [d1, d2, d3, d4] => { results := [.lit (.bool true)], args := [d1, d2, d3, d4] }
  | _ => none }
def fnExactWayToRow : OpenClaim := { program := "ytklecgkjoofipaa", sum := "aac3795473968af551cd738a09a8404a3afaae2c531c2bc0a7a6bb97ca5a9916", func := "loop.example/g00575/laws.FnExactWayTo", spec := "fnExactWayTo", apart := false }
def FnExactWayToSaid : Prop := fnExactWayToRow.holds Try.pinned (OpenSpec.ofChange fnExactWayToSpec)

/-- ITS FALSE NEIGHBOUR: 'it returns false'. Refute it at one input. -/
def fnExactWayToWrong : ChangeSpec := { name := "fnExactWayTo", fn := fun _ => fun
  | [d1, d2, d3, d4] => { results := [.lit (.bool false)], args := [d1, d2, d3, d4] }
  | _ => none }
def FnExactWayToWrongFalsely : Prop := fnExactWayToRow.holds Try.pinned (OpenSpec.ofChange fnExactWayToWrong)

/-- 'laws.FnFars': WHATEVER THE INPUT: true; the input reads as it did. -/
def fnFarsSpec : ChangeSpec := { name := "fnFars", fn := fun _ => fun
  | [d1, d2] => { results := [.lit (.bool true)], args := [d1, d2] }
  | _ => none }
def fnFarsRow : OpenClaim := { program := "ytklecgkjoofipaa", sum := "aac3795473968af551cd738a09a8404a3afaae2c531c2bc0a7a6bb97ca5a9916", func := "loop.example/g00575/laws.FnFars", spec := "fnFars", apart := false }
def FnFarsSaid : Prop := fnFarsRow.holds Try.pinned (OpenSpec.ofChange fnFarsSpec)

/-- ITS FALSE NEIGHBOUR: 'it returns false'. Refute it at one input. -/
def fnFarsWrong : ChangeSpec := { name := "fnFars", fn := fun _ => fun
  | [d1, d2] => { results := [.lit (.bool false)], args := [d1, d2] }
  | _ => none }
def FnFarsWrongFalsely : Prop := fnFarsRow.holds Try.pinned (OpenSpec.ofChange fnFarsWrong)

/-- 'laws.FnHops': WHATEVER THE INPUT: true; the input reads as it did. -/
def fnHopsSpec : ChangeSpec := { name := "fnHops", fn := fun _ => fun
  | [d1, d2] => { results := [.lit (.bool true)], args := [d1, d2] }
  | _ => none }
def fnHopsRow : OpenClaim := { program := "ytklecgkjoofipaa", sum := "aac3795473968af551cd738a09a8404a3afaae2c531c2bc0a7a6bb97ca5a9916", func := "loop.example/g00575/laws.FnHops", spec := "fnHops", apart := false }
def FnHopsSaid : Prop := fnHopsRow.holds Try.pinned (OpenSpec.ofChange fnHopsSpec)

/-- ITS FALSE NEIGHBOUR: 'it returns false'. Refute it at one input. -/
def fnHopsWrong : ChangeSpec := { name := "fnHops", fn := fun _ => fun
  | [d1, d2] => { results := [.lit (.bool false)], args := [d1, d2] }
  | _ => none }
def FnHopsWrongFalsely : Prop := fnHopsRow.holds Try.pinned (OpenSpec.ofChange fnHopsWrong)

/- THE SECOND FORM. 'bulk': how many values and letters a reading holds, each counted each time it is reached (what is shared counts as often as it is met; a slice's spare places count too). A statement '..UptoSaid' is the law's where the arguments, and the package variables that the reading takes, are together of bulk at most 1048576: NARROWER than '..Said'. Prove '..Said' where nothing that the law and all that it calls make is longer than what came in: it says more and counts as full. Else prove '..UptoSaid'. A law counts once. -/
mutual
def uptoBulk {H : Type} : DataW H → Nat
  | .lit (.string bytes) => bytes.length + 1
  | .lit _ => 1
  | .nil => 1
  | .ptr d => uptoBulk d + 1
  | .slice elems spare => uptoBulkAll elems + uptoBulkAll spare + 1
  | .agg parts => uptoBulkAll parts + 1
  | .iface _ d => uptoBulk d + 1
  | .map entries => uptoBulkEntries entries + 1
  | .held _ => 1
def uptoBulkAll {H : Type} : List (DataW H) → Nat
  | [] => 0
  | d :: r => uptoBulk d + uptoBulkAll r
def uptoBulkEntries {H : Type} : List (Lit × DataW H) → Nat
  | [] => 0
  | x :: r => uptoBulkEntry x + uptoBulkEntries r
def uptoBulkEntry {H : Type} : Lit × DataW H → Nat
  | (.string bytes, d) => bytes.length + uptoBulk d + 1
  | (_, d) => uptoBulk d + 1
 end
def uptoSmall : (H : Type) → List (DataW H) → Bool := fun _ ds => decide (uptoBulkAll ds ≤ 1048576)
def OpenSpec.upto (s : _root_.Go.ChangeSpec) : _root_.Go.OpenSpec := { _root_.Go.OpenSpec.ofChange s with cond := some uptoSmall }

/-- 'laws.FnExactCostOf', WHERE WHAT IT READS IS OF BULK AT MOST 1048576: true; the input reads as it did. -/
def fnExactCostOfUptoRow : OpenClaim := { program := "ytklecgkjoofipaa", sum := "aac3795473968af551cd738a09a8404a3afaae2c531c2bc0a7a6bb97ca5a9916", func := "loop.example/g00575/laws.FnExactCostOf", spec := "fnExactCostOf", apart := false, narrowed := true }
def FnExactCostOfUptoSaid : Prop := fnExactCostOfUptoRow.holds Try.pinned (OpenSpec.upto fnExactCostOfSpec)

/-- 'laws.FnExactCentreOf', WHERE WHAT IT READS IS OF BULK AT MOST 1048576: true; the input reads as it did. -/
def fnExactCentreOfUptoRow : OpenClaim := { program := "ytklecgkjoofipaa", sum := "aac3795473968af551cd738a09a8404a3afaae2c531c2bc0a7a6bb97ca5a9916", func := "loop.example/g00575/laws.FnExactCentreOf", spec := "fnExactCentreOf", apart := false, narrowed := true }
def FnExactCentreOfUptoSaid : Prop := fnExactCentreOfUptoRow.holds Try.pinned (OpenSpec.upto fnExactCentreOfSpec)

/-- 'laws.FnExactRelaxAll', WHERE WHAT IT READS IS OF BULK AT MOST 1048576: true; the input reads as it did. -/
def fnExactRelaxAllUptoRow : OpenClaim := { program := "ytklecgkjoofipaa", sum := "aac3795473968af551cd738a09a8404a3afaae2c531c2bc0a7a6bb97ca5a9916", func := "loop.example/g00575/laws.FnExactRelaxAll", spec := "fnExactRelaxAll", apart := false, narrowed := true }
def FnExactRelaxAllUptoSaid : Prop := fnExactRelaxAllUptoRow.holds Try.pinned (OpenSpec.upto fnExactRelaxAllSpec)

/-- 'laws.FnExactFarsFrom', WHERE WHAT IT READS IS OF BULK AT MOST 1048576: true; the input reads as it did. -/
def fnExactFarsFromUptoRow : OpenClaim := { program := "ytklecgkjoofipaa", sum := "aac3795473968af551cd738a09a8404a3afaae2c531c2bc0a7a6bb97ca5a9916", func := "loop.example/g00575/laws.FnExactFarsFrom", spec := "fnExactFarsFrom", apart := false, narrowed := true }
def FnExactFarsFromUptoSaid : Prop := fnExactFarsFromUptoRow.holds Try.pinned (OpenSpec.upto fnExactFarsFromSpec)

/-- 'laws.FnExactHopFor', WHERE WHAT IT READS IS OF BULK AT MOST 1048576: true; the input reads as it did. -/
def fnExactHopForUptoRow : OpenClaim := { program := "ytklecgkjoofipaa", sum := "aac3795473968af551cd738a09a8404a3afaae2c531c2bc0a7a6bb97ca5a9916", func := "loop.example/g00575/laws.FnExactHopFor", spec := "fnExactHopFor", apart := false, narrowed := true }
def FnExactHopForUptoSaid : Prop := fnExactHopForUptoRow.holds Try.pinned (OpenSpec.upto fnExactHopForSpec)

/-- 'laws.FnExactFirstHops', WHERE WHAT IT READS IS OF BULK AT MOST 1048576: true; the input reads as it did. -/
def fnExactFirstHopsUptoRow : OpenClaim := { program := "ytklecgkjoofipaa", sum := "aac3795473968af551cd738a09a8404a3afaae2c531c2bc0a7a6bb97ca5a9916", func := "loop.example/g00575/laws.FnExactFirstHops", spec := "fnExactFirstHops", apart := false, narrowed := true }
def FnExactFirstHopsUptoSaid : Prop := fnExactFirstHopsUptoRow.holds Try.pinned (OpenSpec.upto fnExactFirstHopsSpec)

/-- 'laws.FnExactWayTo', WHERE WHAT IT READS IS OF BULK AT MOST 1048576: true; the input reads as it did. -/
def fnExactWayToUptoRow : OpenClaim := { program := "ytklecgkjoofipaa", sum := "aac3795473968af551cd738a09a8404a3afaae2c531c2bc0a7a6bb97ca5a9916", func := "loop.example/g00575/laws.FnExactWayTo", spec := "fnExactWayTo", apart := false, narrowed := true }
def FnExactWayToUptoSaid : Prop := fnExactWayToUptoRow.holds Try.pinned (OpenSpec.upto fnExactWayToSpec)

/-- 'laws.FnFars', WHERE WHAT IT READS IS OF BULK AT MOST 1048576: true; the input reads as it did. -/
def fnFarsUptoRow : OpenClaim := { program := "ytklecgkjoofipaa", sum := "aac3795473968af551cd738a09a8404a3afaae2c531c2bc0a7a6bb97ca5a9916", func := "loop.example/g00575/laws.FnFars", spec := "fnFars", apart := false, narrowed := true }
def FnFarsUptoSaid : Prop := fnFarsUptoRow.holds Try.pinned (OpenSpec.upto fnFarsSpec)

/-- 'laws.FnHops', WHERE WHAT IT READS IS OF BULK AT MOST 1048576: true; the input reads as it did. -/
def fnHopsUptoRow : OpenClaim := { program := "ytklecgkjoofipaa", sum := "aac3795473968af551cd738a09a8404a3afaae2c531c2bc0a7a6bb97ca5a9916", func := "loop.example/g00575/laws.FnHops", spec := "fnHops", apart := false, narrowed := true }
def FnHopsUptoSaid : Prop := fnHopsUptoRow.holds Try.pinned (OpenSpec.upto fnHopsSpec)

end Rows
end Go.Proofs.Ytklecgkjoofipaa
