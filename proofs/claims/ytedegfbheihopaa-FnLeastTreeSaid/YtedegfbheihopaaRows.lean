/-
  No cell of these rows narrows 'for every input' (looked for: loops, veiled, ifaces, maps, wideKeys, modest, calm, conditions, laid).
  DERIVED. THE GIVEN ROWS OF THIS SEAT. 10 by the template 'for every input the law returns true; each argument reads behind the call as it read before'; 0 by the template 'total and deterministic' (their statements: YtedegfbheihopaaTotals.lean).
  GIVEN WITH THE SEED: the statements are not yours to turn. If you find one false, say at which input.
  Laid BY PROGRAM, IN A SANDBOX (cutbox-rows.mjs): the forced cells as the released guide's own fill.sh prints them over the translation 5b390fc46788bcf9… (all of the seat's roots in one cut). By AI agents, Wed Nov 11 2026. No macro, syntax, notation, axiom, sorry.
-/
import Derived.Test.YtedegfbheihopaaChecked
import GoSem.Claim
import GoSem.ClaimJoined
import GoSem.ClaimMapViews
import Derived.JoinedTies
import Derived.KernelRfl
namespace Go.Proofs.Ytedegfbheihopaa
/- THE CELL 'sum', in the pinned program and in every row, IS THE sha256 OF THE DUMP (.gsa) THAT YtedegfbheihopaaProg.lean LOADS. Nothing in Lean hashes anything: it is a label: what it is worth is what the hold of that sum in a sandbox is worth. -/
noncomputable def Try.pinned : Pinned := { name := "ytedegfbheihopaa", sum := "5b390fc46788bcf9d762533ac1f7fe5aa9007b4eeb4430b483305d36642558bd", checked := Try.checked }
namespace Rows
def none {H : Type} : Left H := { results := [], args := [] }

/-- 'laws.FnExactGoodParents': WHATEVER THE INPUT: true; the input reads as it did. -/
def fnExactGoodParentsSpec : ChangeSpec := { name := "fnExactGoodParents", fn := fun _ => fun
  | [d] => { results := [.lit (.bool true)], args := [d] }
  | _ => none }
def fnExactGoodParentsRow : OpenClaim := { program := "ytedegfbheihopaa", sum := "5b390fc46788bcf9d762533ac1f7fe5aa9007b4eeb4430b483305d36642558bd", func := "loop.example/g00575/laws.FnExactGoodParents", spec := "fnExactGoodParents", apart := false }
def FnExactGoodParentsSaid : Prop := fnExactGoodParentsRow.holds Try.pinned (OpenSpec.ofChange fnExactGoodParentsSpec)

/-- ITS FALSE NEIGHBOUR: 'it returns false'. Refute it at one input. -/
def fnExactGoodParentsWrong : ChangeSpec := { name := "fnExactGoodParents", fn := fun _ => fun
  | [d] => { results := [.lit (.bool false)], args := [d] }
  | _ => none }
def FnExactGoodParentsWrongFalsely : Prop := fnExactGoodParentsRow.holds Try.pinned (OpenSpec.ofChange fnExactGoodParentsWrong)

/-- 'laws.FnExactComesFrom': WHATEVER THE INPUT: true; the input reads as it did. -/
def fnExactComesFromSpec : ChangeSpec := { name := "fnExactComesFrom", fn := fun _ => fun
  | [d1, d2, d3] => { results := [.lit (.bool true)], args := [d1, d2, d3] }
  | _ => none }
def fnExactComesFromRow : OpenClaim := { program := "ytedegfbheihopaa", sum := "5b390fc46788bcf9d762533ac1f7fe5aa9007b4eeb4430b483305d36642558bd", func := "loop.example/g00575/laws.FnExactComesFrom", spec := "fnExactComesFrom", apart := false }
def FnExactComesFromSaid : Prop := fnExactComesFromRow.holds Try.pinned (OpenSpec.ofChange fnExactComesFromSpec)

/-- ITS FALSE NEIGHBOUR: 'it returns false'. Refute it at one input. -/
def fnExactComesFromWrong : ChangeSpec := { name := "fnExactComesFrom", fn := fun _ => fun
  | [d1, d2, d3] => { results := [.lit (.bool false)], args := [d1, d2, d3] }
  | _ => none }
def FnExactComesFromWrongFalsely : Prop := fnExactComesFromRow.holds Try.pinned (OpenSpec.ofChange fnExactComesFromWrong)

/-- 'laws.FnExactOnTree': WHATEVER THE INPUT: true; the input reads as it did. -/
def fnExactOnTreeSpec : ChangeSpec := { name := "fnExactOnTree", fn := fun _ => fun
  | [d1, d2, d3] => { results := [.lit (.bool true)], args := [d1, d2, d3] }
  | _ => none }
def fnExactOnTreeRow : OpenClaim := { program := "ytedegfbheihopaa", sum := "5b390fc46788bcf9d762533ac1f7fe5aa9007b4eeb4430b483305d36642558bd", func := "loop.example/g00575/laws.FnExactOnTree", spec := "fnExactOnTree", apart := false }
def FnExactOnTreeSaid : Prop := fnExactOnTreeRow.holds Try.pinned (OpenSpec.ofChange fnExactOnTreeSpec)

/-- ITS FALSE NEIGHBOUR: 'it returns false'. Refute it at one input. -/
def fnExactOnTreeWrong : ChangeSpec := { name := "fnExactOnTree", fn := fun _ => fun
  | [d1, d2, d3] => { results := [.lit (.bool false)], args := [d1, d2, d3] }
  | _ => none }
def FnExactOnTreeWrongFalsely : Prop := fnExactOnTreeRow.holds Try.pinned (OpenSpec.ofChange fnExactOnTreeWrong)

/-- 'laws.FnExactTreeCost': WHATEVER THE INPUT: true; the input reads as it did. -/
def fnExactTreeCostSpec : ChangeSpec := { name := "fnExactTreeCost", fn := fun _ => fun
  | [d1, d2, d3] => { results := [.lit (.bool true)], args := [d1, d2, d3] }
  | _ => none }
def fnExactTreeCostRow : OpenClaim := { program := "ytedegfbheihopaa", sum := "5b390fc46788bcf9d762533ac1f7fe5aa9007b4eeb4430b483305d36642558bd", func := "loop.example/g00575/laws.FnExactTreeCost", spec := "fnExactTreeCost", apart := false }
def FnExactTreeCostSaid : Prop := fnExactTreeCostRow.holds Try.pinned (OpenSpec.ofChange fnExactTreeCostSpec)

/-- ITS FALSE NEIGHBOUR: 'it returns false'. Refute it at one input. -/
def fnExactTreeCostWrong : ChangeSpec := { name := "fnExactTreeCost", fn := fun _ => fun
  | [d1, d2, d3] => { results := [.lit (.bool false)], args := [d1, d2, d3] }
  | _ => none }
def FnExactTreeCostWrongFalsely : Prop := fnExactTreeCostRow.holds Try.pinned (OpenSpec.ofChange fnExactTreeCostWrong)

/-- 'laws.FnExactSpreadOn': WHATEVER THE INPUT: true; the input reads as it did. -/
def fnExactSpreadOnSpec : ChangeSpec := { name := "fnExactSpreadOn", fn := fun _ => fun
  | [d1, d2] => { results := [.lit (.bool true)], args := [d1, d2] }
  | _ => none }
def fnExactSpreadOnRow : OpenClaim := { program := "ytedegfbheihopaa", sum := "5b390fc46788bcf9d762533ac1f7fe5aa9007b4eeb4430b483305d36642558bd", func := "loop.example/g00575/laws.FnExactSpreadOn", spec := "fnExactSpreadOn", apart := false }
def FnExactSpreadOnSaid : Prop := fnExactSpreadOnRow.holds Try.pinned (OpenSpec.ofChange fnExactSpreadOnSpec)

/-- ITS FALSE NEIGHBOUR: 'it returns false'. Refute it at one input. -/
def fnExactSpreadOnWrong : ChangeSpec := { name := "fnExactSpreadOn", fn := fun _ => fun
  | [d1, d2] => { results := [.lit (.bool false)], args := [d1, d2] }
  | _ => none }
def FnExactSpreadOnWrongFalsely : Prop := fnExactSpreadOnRow.holds Try.pinned (OpenSpec.ofChange fnExactSpreadOnWrong)

/-- 'laws.FnExactTreeAt': WHATEVER THE INPUT: true; the input reads as it did. -/
def fnExactTreeAtSpec : ChangeSpec := { name := "fnExactTreeAt", fn := fun _ => fun
  | [d1, d2, d3] => { results := [.lit (.bool true)], args := [d1, d2, d3] }
  | _ => none }
def fnExactTreeAtRow : OpenClaim := { program := "ytedegfbheihopaa", sum := "5b390fc46788bcf9d762533ac1f7fe5aa9007b4eeb4430b483305d36642558bd", func := "loop.example/g00575/laws.FnExactTreeAt", spec := "fnExactTreeAt", apart := false }
def FnExactTreeAtSaid : Prop := fnExactTreeAtRow.holds Try.pinned (OpenSpec.ofChange fnExactTreeAtSpec)

/-- ITS FALSE NEIGHBOUR: 'it returns false'. Refute it at one input. -/
def fnExactTreeAtWrong : ChangeSpec := { name := "fnExactTreeAt", fn := fun _ => fun
  | [d1, d2, d3] => { results := [.lit (.bool false)], args := [d1, d2, d3] }
  | _ => none }
def FnExactTreeAtWrongFalsely : Prop := fnExactTreeAtRow.holds Try.pinned (OpenSpec.ofChange fnExactTreeAtWrong)

/-- 'laws.FnExactTreesFor': WHATEVER THE INPUT: true; the input reads as it did. -/
def fnExactTreesForSpec : ChangeSpec := { name := "fnExactTreesFor", fn := fun _ => fun
  | [d1, d2, d3] => { results := [.lit (.bool true)], args := [d1, d2, d3] }
  | _ => none }
def fnExactTreesForRow : OpenClaim := { program := "ytedegfbheihopaa", sum := "5b390fc46788bcf9d762533ac1f7fe5aa9007b4eeb4430b483305d36642558bd", func := "loop.example/g00575/laws.FnExactTreesFor", spec := "fnExactTreesFor", apart := false }
def FnExactTreesForSaid : Prop := fnExactTreesForRow.holds Try.pinned (OpenSpec.ofChange fnExactTreesForSpec)

/-- ITS FALSE NEIGHBOUR: 'it returns false'. Refute it at one input. -/
def fnExactTreesForWrong : ChangeSpec := { name := "fnExactTreesFor", fn := fun _ => fun
  | [d1, d2, d3] => { results := [.lit (.bool false)], args := [d1, d2, d3] }
  | _ => none }
def FnExactTreesForWrongFalsely : Prop := fnExactTreesForRow.holds Try.pinned (OpenSpec.ofChange fnExactTreesForWrong)

/-- 'laws.FnExactLeastTree': WHATEVER THE INPUT: true; the input reads as it did. -/
def fnExactLeastTreeSpec : ChangeSpec := { name := "fnExactLeastTree", fn := fun _ => fun
  | [d1, d2] => { results := [.lit (.bool true)], args := [d1, d2] }
  | _ => none }
def fnExactLeastTreeRow : OpenClaim := { program := "ytedegfbheihopaa", sum := "5b390fc46788bcf9d762533ac1f7fe5aa9007b4eeb4430b483305d36642558bd", func := "loop.example/g00575/laws.FnExactLeastTree", spec := "fnExactLeastTree", unfollowed := true, recurses := true, apart := false }
def FnExactLeastTreeSaid : Prop := fnExactLeastTreeRow.holds Try.pinned (OpenSpec.ofChange fnExactLeastTreeSpec)

/-- ITS FALSE NEIGHBOUR: 'it returns false'. Refute it at one input. -/
def fnExactLeastTreeWrong : ChangeSpec := { name := "fnExactLeastTree", fn := fun _ => fun
  | [d1, d2] => { results := [.lit (.bool false)], args := [d1, d2] }
  | _ => none }
def FnExactLeastTreeWrongFalsely : Prop := fnExactLeastTreeRow.holds Try.pinned (OpenSpec.ofChange fnExactLeastTreeWrong)

/-- 'laws.FnSpread': WHATEVER THE INPUT: true; the input reads as it did. -/
def fnSpreadSpec : ChangeSpec := { name := "fnSpread", fn := fun _ => fun
  | [d1, d2] => { results := [.lit (.bool true)], args := [d1, d2] }
  | _ => none }
def fnSpreadRow : OpenClaim := { program := "ytedegfbheihopaa", sum := "5b390fc46788bcf9d762533ac1f7fe5aa9007b4eeb4430b483305d36642558bd", func := "loop.example/g00575/laws.FnSpread", spec := "fnSpread", apart := false }
def FnSpreadSaid : Prop := fnSpreadRow.holds Try.pinned (OpenSpec.ofChange fnSpreadSpec)

/-- ITS FALSE NEIGHBOUR: 'it returns false'. Refute it at one input. -/
def fnSpreadWrong : ChangeSpec := { name := "fnSpread", fn := fun _ => fun
  | [d1, d2] => { results := [.lit (.bool false)], args := [d1, d2] }
  | _ => none }
def FnSpreadWrongFalsely : Prop := fnSpreadRow.holds Try.pinned (OpenSpec.ofChange fnSpreadWrong)

/-- 'laws.FnLeastTree': WHATEVER THE INPUT: true; the input reads as it did. -/
def fnLeastTreeSpec : ChangeSpec := { name := "fnLeastTree", fn := fun _ => fun
  | [d1, d2] => { results := [.lit (.bool true)], args := [d1, d2] }
  | _ => none }
def fnLeastTreeRow : OpenClaim := { program := "ytedegfbheihopaa", sum := "5b390fc46788bcf9d762533ac1f7fe5aa9007b4eeb4430b483305d36642558bd", func := "loop.example/g00575/laws.FnLeastTree", spec := "fnLeastTree", unfollowed := true, recurses := true, apart := false }
def FnLeastTreeSaid : Prop := fnLeastTreeRow.holds Try.pinned (OpenSpec.ofChange fnLeastTreeSpec)

/-- ITS FALSE NEIGHBOUR: 'it returns false'. Refute it at one input. -/
def fnLeastTreeWrong : ChangeSpec := { name := "fnLeastTree", fn := fun _ => fun
  | [d1, d2] => { results := [.lit (.bool false)], args := [d1, d2] }
  | _ => none }
def FnLeastTreeWrongFalsely : Prop := fnLeastTreeRow.holds Try.pinned (OpenSpec.ofChange fnLeastTreeWrong)

/- THE SECOND FORM. 'bulk': how many values and letters a reading holds, each counted each time it is reached (what is shared counts as often as it is met; a slice's spare places count too). A statement '..UptoSaid' is the law's where the arguments, and the package variables that the reading takes, are together of bulk at most 1048576: NARROWER than '..Said'. Prove '..Said' where nothing that the law and all that it calls make is longer than what came in: it says more and counts as full. Else prove '..UptoSaid'. A law counts once. -/
mutual
def uptoBulk {H : Type} : DataW H → Nat
  | .lit (.string bytes) => bytes.length + 1
  | .lit _ => 1
  | .nil => 1
  | .ptr d => uptoBulk d + 1
  | .slice elems spare => uptoBulkAll elems + uptoBulkAll spare + 1
  | .agg parts => uptoBulkAll parts + 1
  | .iface _ d => uptoBulk d + 1
  | .map entries => uptoBulkEntries entries + 1
  | .held _ => 1
def uptoBulkAll {H : Type} : List (DataW H) → Nat
  | [] => 0
  | d :: r => uptoBulk d + uptoBulkAll r
def uptoBulkEntries {H : Type} : List (Lit × DataW H) → Nat
  | [] => 0
  | x :: r => uptoBulkEntry x + uptoBulkEntries r
def uptoBulkEntry {H : Type} : Lit × DataW H → Nat
  | (.string bytes, d) => bytes.length + uptoBulk d + 1
  | (_, d) => uptoBulk d + 1
 end
def uptoSmall : (H : Type) → List (DataW H) → Bool := fun _ ds => decide (uptoBulkAll ds ≤ 1048576)
def OpenSpec.upto (s : _root_.Go.ChangeSpec) : _root_.Go.OpenSpec := { _root_.Go.OpenSpec.ofChange s with cond := some uptoSmall }

/-- 'laws.FnExactGoodParents', WHERE WHAT IT READS IS OF BULK AT MOST 1048576: true; the input reads as it did. -/
def fnExactGoodParentsUptoRow : OpenClaim := { program := "ytedegfbheihopaa", sum := "5b390fc46788bcf9d762533ac1f7fe5aa9007b4eeb4430b483305d36642558bd", func := "loop.example/g00575/laws.FnExactGoodParents", spec := "fnExactGoodParents", apart := false, narrowed := true }
def FnExactGoodParentsUptoSaid : Prop := fnExactGoodParentsUptoRow.holds Try.pinned (OpenSpec.upto fnExactGoodParentsSpec)

/-- 'laws.FnExactComesFrom', WHERE WHAT IT READS IS OF BULK AT MOST 1048576: true; the input reads as it did. -/
def fnExactComesFromUptoRow : OpenClaim := { program := "ytedegfbheihopaa", sum := "5b390fc46788bcf9d762533ac1f7fe5aa9007b4eeb4430b483305d36642558bd", func := "loop.example/g00575/laws.FnExactComesFrom", spec := "fnExactComesFrom", apart := false, narrowed := true }
def FnExactComesFromUptoSaid : Prop := fnExactComesFromUptoRow.holds Try.pinned (OpenSpec.upto fnExactComesFromSpec)

/-- 'laws.FnExactOnTree', WHERE WHAT IT READS IS OF BULK AT MOST 1048576: true; the input reads as it did. -/
def fnExactOnTreeUptoRow : OpenClaim := { program := "ytedegfbheihopaa", sum := "5b390fc46788bcf9d762533ac1f7fe5aa9007b4eeb4430b483305d36642558bd", func := "loop.example/g00575/laws.FnExactOnTree", spec := "fnExactOnTree", apart := false, narrowed := true }
def FnExactOnTreeUptoSaid : Prop := fnExactOnTreeUptoRow.holds Try.pinned (OpenSpec.upto fnExactOnTreeSpec)

/-- 'laws.FnExactTreeCost', WHERE WHAT IT READS IS OF BULK AT MOST 1048576: true; the input reads as it did. -/
def fnExactTreeCostUptoRow : OpenClaim := { program := "ytedegfbheihopaa", sum := "5b390fc46788bcf9d762533ac1f7fe5aa9007b4eeb4430b483305d36642558bd", func := "loop.example/g00575/laws.FnExactTreeCost", spec := "fnExactTreeCost", apart := false, narrowed := true }
def FnExactTreeCostUptoSaid : Prop := fnExactTreeCostUptoRow.holds Try.pinned (OpenSpec.upto fnExactTreeCostSpec)

/-- 'laws.FnExactSpreadOn', WHERE WHAT IT READS IS OF BULK AT MOST 1048576: true; the input reads as it did. -/
def fnExactSpreadOnUptoRow : OpenClaim := { program := "ytedegfbheihopaa", sum := "5b390fc46788bcf9d762533ac1f7fe5aa9007b4eeb4430b483305d36642558bd", func := "loop.example/g00575/laws.FnExactSpreadOn", spec := "fnExactSpreadOn", apart := false, narrowed := true }
def FnExactSpreadOnUptoSaid : Prop := fnExactSpreadOnUptoRow.holds Try.pinned (OpenSpec.upto fnExactSpreadOnSpec)

/-- 'laws.FnExactTreeAt', WHERE WHAT IT READS IS OF BULK AT MOST 1048576: true; the input reads as it did. -/
def fnExactTreeAtUptoRow : OpenClaim := { program := "ytedegfbheihopaa", sum := "5b390fc46788bcf9d762533ac1f7fe5aa9007b4eeb4430b483305d36642558bd", func := "loop.example/g00575/laws.FnExactTreeAt", spec := "fnExactTreeAt", apart := false, narrowed := true }
def FnExactTreeAtUptoSaid : Prop := fnExactTreeAtUptoRow.holds Try.pinned (OpenSpec.upto fnExactTreeAtSpec)

/-- 'laws.FnExactTreesFor', WHERE WHAT IT READS IS OF BULK AT MOST 1048576: true; the input reads as it did. -/
def fnExactTreesForUptoRow : OpenClaim := { program := "ytedegfbheihopaa", sum := "5b390fc46788bcf9d762533ac1f7fe5aa9007b4eeb4430b483305d36642558bd", func := "loop.example/g00575/laws.FnExactTreesFor", spec := "fnExactTreesFor", apart := false, narrowed := true }
def FnExactTreesForUptoSaid : Prop := fnExactTreesForUptoRow.holds Try.pinned (OpenSpec.upto fnExactTreesForSpec)

/-- 'laws.FnExactLeastTree', WHERE WHAT IT READS IS OF BULK AT MOST 1048576: true; the input reads as it did. -/
def fnExactLeastTreeUptoRow : OpenClaim := { program := "ytedegfbheihopaa", sum := "5b390fc46788bcf9d762533ac1f7fe5aa9007b4eeb4430b483305d36642558bd", func := "loop.example/g00575/laws.FnExactLeastTree", spec := "fnExactLeastTree", unfollowed := true, recurses := true, apart := false, narrowed := true }
def FnExactLeastTreeUptoSaid : Prop := fnExactLeastTreeUptoRow.holds Try.pinned (OpenSpec.upto fnExactLeastTreeSpec)

/-- 'laws.FnSpread', WHERE WHAT IT READS IS OF BULK AT MOST 1048576: true; the input reads as it did. -/
def fnSpreadUptoRow : OpenClaim := { program := "ytedegfbheihopaa", sum := "5b390fc46788bcf9d762533ac1f7fe5aa9007b4eeb4430b483305d36642558bd", func := "loop.example/g00575/laws.FnSpread", spec := "fnSpread", apart := false, narrowed := true }
def FnSpreadUptoSaid : Prop := fnSpreadUptoRow.holds Try.pinned (OpenSpec.upto fnSpreadSpec)

/-- 'laws.FnLeastTree', WHERE WHAT IT READS IS OF BULK AT MOST 1048576: true; the input reads as it did. -/
def fnLeastTreeUptoRow : OpenClaim := { program := "ytedegfbheihopaa", sum := "5b390fc46788bcf9d762533ac1f7fe5aa9007b4eeb4430b483305d36642558bd", func := "loop.example/g00575/laws.FnLeastTree", spec := "fnLeastTree", unfollowed := true, recurses := true, apart := false, narrowed := true }
def FnLeastTreeUptoSaid : Prop := fnLeastTreeUptoRow.holds Try.pinned (OpenSpec.upto fnLeastTreeSpec)

end Rows
end Go.Proofs.Ytedegfbheihopaa
