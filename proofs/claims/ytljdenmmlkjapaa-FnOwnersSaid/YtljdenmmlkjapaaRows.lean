/-
  No cell of these rows narrows 'for every input' (looked for: loops, veiled, ifaces, maps, wideKeys, modest, calm, conditions, laid).
  DERIVED. THE GIVEN ROWS OF THIS SEAT. 10 by the template 'for every input the law returns true; each argument reads behind the call as it read before'; 0 by the template 'total and deterministic' (their statements: YtljdenmmlkjapaaTotals.lean).
  GIVEN WITH THE SEED: the statements are not yours to turn. If you find one false, say at which input.
  Laid BY PROGRAM, IN A SANDBOX (cutbox-rows.mjs): the forced cells as the released guide's own fill.sh prints them over the translation 1ce93d847a35a22e… (all of the seat's roots in one cut). By AI agents, Wed Nov 11 2026. No macro, syntax, notation, axiom, sorry.
-/
import Derived.Test.YtljdenmmlkjapaaChecked
import GoSem.Claim
import GoSem.ClaimJoined
import GoSem.ClaimMapViews
import Derived.JoinedTies
import Derived.KernelRfl
namespace Go.Proofs.Ytljdenmmlkjapaa
/- THE CELL 'sum', in the pinned program and in every row, IS THE sha256 OF THE DUMP (.gsa) THAT YtljdenmmlkjapaaProg.lean LOADS. Nothing in Lean hashes anything: it is a label: what it is worth is what the hold of that sum in a sandbox is worth. -/
noncomputable def Try.pinned : Pinned := { name := "ytljdenmmlkjapaa", sum := "1ce93d847a35a22ec8d2fcfbf1945564937e7e6f26ea0806930f0e0221d2d8c5", checked := Try.checked }
namespace Rows
def none {H : Type} : Left H := { results := [], args := [] }

/-- 'laws.FnExactHasBetter': WHATEVER THE INPUT: true; the input reads as it did. -/
def fnExactHasBetterSpec : ChangeSpec := { name := "fnExactHasBetter", fn := fun _ => fun
  | [d1, d2] => { results := [.lit (.bool true)], args := [d1, d2] }
  | _ => none }
def fnExactHasBetterRow : OpenClaim := { program := "ytljdenmmlkjapaa", sum := "1ce93d847a35a22ec8d2fcfbf1945564937e7e6f26ea0806930f0e0221d2d8c5", func := "loop.example/g00575/laws.FnExactHasBetter", spec := "fnExactHasBetter", apart := false }
def FnExactHasBetterSaid : Prop := fnExactHasBetterRow.holds Try.pinned (OpenSpec.ofChange fnExactHasBetterSpec)

/-- ITS FALSE NEIGHBOUR: 'it returns false'. Refute it at one input. -/
def fnExactHasBetterWrong : ChangeSpec := { name := "fnExactHasBetter", fn := fun _ => fun
  | [d1, d2] => { results := [.lit (.bool false)], args := [d1, d2] }
  | _ => none }
def FnExactHasBetterWrongFalsely : Prop := fnExactHasBetterRow.holds Try.pinned (OpenSpec.ofChange fnExactHasBetterWrong)

/-- 'laws.FnExactGoodOwners': WHATEVER THE INPUT: true; the input reads as it did. -/
def fnExactGoodOwnersSpec : ChangeSpec := { name := "fnExactGoodOwners", fn := fun _ => fun
  | [d] => { results := [.lit (.bool true)], args := [d] }
  | _ => none }
def fnExactGoodOwnersRow : OpenClaim := { program := "ytljdenmmlkjapaa", sum := "1ce93d847a35a22ec8d2fcfbf1945564937e7e6f26ea0806930f0e0221d2d8c5", func := "loop.example/g00575/laws.FnExactGoodOwners", spec := "fnExactGoodOwners", apart := false }
def FnExactGoodOwnersSaid : Prop := fnExactGoodOwnersRow.holds Try.pinned (OpenSpec.ofChange fnExactGoodOwnersSpec)

/-- ITS FALSE NEIGHBOUR: 'it returns false'. Refute it at one input. -/
def fnExactGoodOwnersWrong : ChangeSpec := { name := "fnExactGoodOwners", fn := fun _ => fun
  | [d] => { results := [.lit (.bool false)], args := [d] }
  | _ => none }
def FnExactGoodOwnersWrongFalsely : Prop := fnExactGoodOwnersRow.holds Try.pinned (OpenSpec.ofChange fnExactGoodOwnersWrong)

/-- 'laws.FnExactNameOf': WHATEVER THE INPUT: true; the input reads as it did. -/
def fnExactNameOfSpec : ChangeSpec := { name := "fnExactNameOf", fn := fun _ => fun
  | [d1, d2] => { results := [.lit (.bool true)], args := [d1, d2] }
  | _ => none }
def fnExactNameOfRow : OpenClaim := { program := "ytljdenmmlkjapaa", sum := "1ce93d847a35a22ec8d2fcfbf1945564937e7e6f26ea0806930f0e0221d2d8c5", func := "loop.example/g00575/laws.FnExactNameOf", spec := "fnExactNameOf", apart := false }
def FnExactNameOfSaid : Prop := fnExactNameOfRow.holds Try.pinned (OpenSpec.ofChange fnExactNameOfSpec)

/-- ITS FALSE NEIGHBOUR: 'it returns false'. Refute it at one input. -/
def fnExactNameOfWrong : ChangeSpec := { name := "fnExactNameOf", fn := fun _ => fun
  | [d1, d2] => { results := [.lit (.bool false)], args := [d1, d2] }
  | _ => none }
def FnExactNameOfWrongFalsely : Prop := fnExactNameOfRow.holds Try.pinned (OpenSpec.ofChange fnExactNameOfWrong)

/-- 'laws.FnExactWhoHas': WHATEVER THE INPUT: true; the input reads as it did. -/
def fnExactWhoHasSpec : ChangeSpec := { name := "fnExactWhoHas", fn := fun _ => fun
  | [d1, d2] => { results := [.lit (.bool true)], args := [d1, d2] }
  | _ => none }
def fnExactWhoHasRow : OpenClaim := { program := "ytljdenmmlkjapaa", sum := "1ce93d847a35a22ec8d2fcfbf1945564937e7e6f26ea0806930f0e0221d2d8c5", func := "loop.example/g00575/laws.FnExactWhoHas", spec := "fnExactWhoHas", apart := false }
def FnExactWhoHasSaid : Prop := fnExactWhoHasRow.holds Try.pinned (OpenSpec.ofChange fnExactWhoHasSpec)

/-- ITS FALSE NEIGHBOUR: 'it returns false'. Refute it at one input. -/
def fnExactWhoHasWrong : ChangeSpec := { name := "fnExactWhoHas", fn := fun _ => fun
  | [d1, d2] => { results := [.lit (.bool false)], args := [d1, d2] }
  | _ => none }
def FnExactWhoHasWrongFalsely : Prop := fnExactWhoHasRow.holds Try.pinned (OpenSpec.ofChange fnExactWhoHasWrong)

/-- 'laws.FnExactClashIn': WHATEVER THE INPUT: true; the input reads as it did. -/
def fnExactClashInSpec : ChangeSpec := { name := "fnExactClashIn", fn := fun _ => fun
  | [d] => { results := [.lit (.bool true)], args := [d] }
  | _ => none }
def fnExactClashInRow : OpenClaim := { program := "ytljdenmmlkjapaa", sum := "1ce93d847a35a22ec8d2fcfbf1945564937e7e6f26ea0806930f0e0221d2d8c5", func := "loop.example/g00575/laws.FnExactClashIn", spec := "fnExactClashIn", apart := false }
def FnExactClashInSaid : Prop := fnExactClashInRow.holds Try.pinned (OpenSpec.ofChange fnExactClashInSpec)

/-- ITS FALSE NEIGHBOUR: 'it returns false'. Refute it at one input. -/
def fnExactClashInWrong : ChangeSpec := { name := "fnExactClashIn", fn := fun _ => fun
  | [d] => { results := [.lit (.bool false)], args := [d] }
  | _ => none }
def FnExactClashInWrongFalsely : Prop := fnExactClashInRow.holds Try.pinned (OpenSpec.ofChange fnExactClashInWrong)

/-- 'laws.FnExactNextFree': WHATEVER THE INPUT: true; the input reads as it did. -/
def fnExactNextFreeSpec : ChangeSpec := { name := "fnExactNextFree", fn := fun _ => fun
  | [d1, d2] => { results := [.lit (.bool true)], args := [d1, d2] }
  | _ => none }
def fnExactNextFreeRow : OpenClaim := { program := "ytljdenmmlkjapaa", sum := "1ce93d847a35a22ec8d2fcfbf1945564937e7e6f26ea0806930f0e0221d2d8c5", func := "loop.example/g00575/laws.FnExactNextFree", spec := "fnExactNextFree", unfollowed := true, recurses := true, apart := false }
def FnExactNextFreeSaid : Prop := fnExactNextFreeRow.holds Try.pinned (OpenSpec.ofChange fnExactNextFreeSpec)

/-- ITS FALSE NEIGHBOUR: 'it returns false'. Refute it at one input. -/
def fnExactNextFreeWrong : ChangeSpec := { name := "fnExactNextFree", fn := fun _ => fun
  | [d1, d2] => { results := [.lit (.bool false)], args := [d1, d2] }
  | _ => none }
def FnExactNextFreeWrongFalsely : Prop := fnExactNextFreeRow.holds Try.pinned (OpenSpec.ofChange fnExactNextFreeWrong)

/-- 'laws.FnExactGiveWay': WHATEVER THE INPUT: true; the input reads as it did. -/
def fnExactGiveWaySpec : ChangeSpec := { name := "fnExactGiveWay", fn := fun _ => fun
  | [d] => { results := [.lit (.bool true)], args := [d] }
  | _ => none }
def fnExactGiveWayRow : OpenClaim := { program := "ytljdenmmlkjapaa", sum := "1ce93d847a35a22ec8d2fcfbf1945564937e7e6f26ea0806930f0e0221d2d8c5", func := "loop.example/g00575/laws.FnExactGiveWay", spec := "fnExactGiveWay", unfollowed := true, recurses := true, apart := false }
def FnExactGiveWaySaid : Prop := fnExactGiveWayRow.holds Try.pinned (OpenSpec.ofChange fnExactGiveWaySpec)

/-- ITS FALSE NEIGHBOUR: 'it returns false'. Refute it at one input. -/
def fnExactGiveWayWrong : ChangeSpec := { name := "fnExactGiveWay", fn := fun _ => fun
  | [d] => { results := [.lit (.bool false)], args := [d] }
  | _ => none }
def FnExactGiveWayWrongFalsely : Prop := fnExactGiveWayRow.holds Try.pinned (OpenSpec.ofChange fnExactGiveWayWrong)

/-- 'laws.FnExactSettleNames': WHATEVER THE INPUT: true; the input reads as it did. -/
def fnExactSettleNamesSpec : ChangeSpec := { name := "fnExactSettleNames", fn := fun _ => fun
  | [d] => { results := [.lit (.bool true)], args := [d] }
  | _ => none }
def fnExactSettleNamesRow : OpenClaim := { program := "ytljdenmmlkjapaa", sum := "1ce93d847a35a22ec8d2fcfbf1945564937e7e6f26ea0806930f0e0221d2d8c5", func := "loop.example/g00575/laws.FnExactSettleNames", spec := "fnExactSettleNames", unfollowed := true, recurses := true, apart := false }
def FnExactSettleNamesSaid : Prop := fnExactSettleNamesRow.holds Try.pinned (OpenSpec.ofChange fnExactSettleNamesSpec)

/-- ITS FALSE NEIGHBOUR: 'it returns false'. Refute it at one input. -/
def fnExactSettleNamesWrong : ChangeSpec := { name := "fnExactSettleNames", fn := fun _ => fun
  | [d] => { results := [.lit (.bool false)], args := [d] }
  | _ => none }
def FnExactSettleNamesWrongFalsely : Prop := fnExactSettleNamesRow.holds Try.pinned (OpenSpec.ofChange fnExactSettleNamesWrong)

/-- 'laws.FnNames': WHATEVER THE INPUT: true; the input reads as it did. -/
def fnNamesSpec : ChangeSpec := { name := "fnNames", fn := fun _ => fun
  | [d1, d2] => { results := [.lit (.bool true)], args := [d1, d2] }
  | _ => none }
def fnNamesRow : OpenClaim := { program := "ytljdenmmlkjapaa", sum := "1ce93d847a35a22ec8d2fcfbf1945564937e7e6f26ea0806930f0e0221d2d8c5", func := "loop.example/g00575/laws.FnNames", spec := "fnNames", unfollowed := true, recurses := true, apart := false }
def FnNamesSaid : Prop := fnNamesRow.holds Try.pinned (OpenSpec.ofChange fnNamesSpec)

/-- ITS FALSE NEIGHBOUR: 'it returns false'. Refute it at one input. -/
def fnNamesWrong : ChangeSpec := { name := "fnNames", fn := fun _ => fun
  | [d1, d2] => { results := [.lit (.bool false)], args := [d1, d2] }
  | _ => none }
def FnNamesWrongFalsely : Prop := fnNamesRow.holds Try.pinned (OpenSpec.ofChange fnNamesWrong)

/-- 'laws.FnOwners': WHATEVER THE INPUT: true; the input reads as it did. -/
def fnOwnersSpec : ChangeSpec := { name := "fnOwners", fn := fun _ => fun
  | [d1, d2] => { results := [.lit (.bool true)], args := [d1, d2] }
  | _ => none }
def fnOwnersRow : OpenClaim := { program := "ytljdenmmlkjapaa", sum := "1ce93d847a35a22ec8d2fcfbf1945564937e7e6f26ea0806930f0e0221d2d8c5", func := "loop.example/g00575/laws.FnOwners", spec := "fnOwners", unfollowed := true, recurses := true, apart := false }
def FnOwnersSaid : Prop := fnOwnersRow.holds Try.pinned (OpenSpec.ofChange fnOwnersSpec)

/-- ITS FALSE NEIGHBOUR: 'it returns false'. Refute it at one input. -/
def fnOwnersWrong : ChangeSpec := { name := "fnOwners", fn := fun _ => fun
  | [d1, d2] => { results := [.lit (.bool false)], args := [d1, d2] }
  | _ => none }
def FnOwnersWrongFalsely : Prop := fnOwnersRow.holds Try.pinned (OpenSpec.ofChange fnOwnersWrong)

/- THE SECOND FORM. 'bulk': how many values and letters a reading holds, each counted each time it is reached (what is shared counts as often as it is met; a slice's spare places count too). A statement '..UptoSaid' is the law's where the arguments, and the package variables that the reading takes, are together of bulk at most 1048576: NARROWER than '..Said'. Prove '..Said' where nothing that the law and all that it calls make is longer than what came in: it says more and counts as full. Else prove '..UptoSaid'. A law counts once. -/
mutual
def uptoBulk {H : Type} : DataW H → Nat
  | .lit (.string bytes) => bytes.length + 1
  | .lit _ => 1
  | .nil => 1
  | .ptr d => uptoBulk d + 1
  | .slice elems spare => uptoBulkAll elems + uptoBulkAll spare + 1
  | .agg parts => uptoBulkAll parts + 1
  | .iface _ d => uptoBulk d + 1
  | .map entries => uptoBulkEntries entries + 1
  | .held _ => 1
def uptoBulkAll {H : Type} : List (DataW H) → Nat
  | [] => 0
  | d :: r => uptoBulk d + uptoBulkAll r
def uptoBulkEntries {H : Type} : List (Lit × DataW H) → Nat
  | [] => 0
  | x :: r => uptoBulkEntry x + uptoBulkEntries r
def uptoBulkEntry {H : Type} : Lit × DataW H → Nat
  | (.string bytes, d) => bytes.length + uptoBulk d + 1
  | (_, d) => uptoBulk d + 1
 end
def uptoSmall : (H : Type) → List (DataW H) → Bool := fun _ ds => decide (uptoBulkAll ds ≤ 1048576)
def OpenSpec.upto (s : _root_.Go.ChangeSpec) : _root_.Go.OpenSpec := { _root_.Go.OpenSpec.ofChange s with cond := some uptoSmall }

/-- 'laws.FnExactHasBetter', WHERE WHAT IT READS IS OF BULK AT MOST 1048576: true; the input reads as it did. -/
def fnExactHasBetterUptoRow : OpenClaim := { program := "ytljdenmmlkjapaa", sum := "1ce93d847a35a22ec8d2fcfbf1945564937e7e6f26ea0806930f0e0221d2d8c5", func := "loop.example/g00575/laws.FnExactHasBetter", spec := "fnExactHasBetter", apart := false, narrowed := true }
def FnExactHasBetterUptoSaid : Prop := fnExactHasBetterUptoRow.holds Try.pinned (OpenSpec.upto fnExactHasBetterSpec)

/-- 'laws.FnExactGoodOwners', WHERE WHAT IT READS IS OF BULK AT MOST 1048576: true; the input reads as it did. -/
def fnExactGoodOwnersUptoRow : OpenClaim := { program := "ytljdenmmlkjapaa", sum := "1ce93d847a35a22ec8d2fcfbf1945564937e7e6f26ea0806930f0e0221d2d8c5", func := "loop.example/g00575/laws.FnExactGoodOwners", spec := "fnExactGoodOwners", apart := false, narrowed := true }
def FnExactGoodOwnersUptoSaid : Prop := fnExactGoodOwnersUptoRow.holds Try.pinned (OpenSpec.upto fnExactGoodOwnersSpec)

/-- 'laws.FnExactNameOf', WHERE WHAT IT READS IS OF BULK AT MOST 1048576: true; the input reads as it did. -/
def fnExactNameOfUptoRow : OpenClaim := { program := "ytljdenmmlkjapaa", sum := "1ce93d847a35a22ec8d2fcfbf1945564937e7e6f26ea0806930f0e0221d2d8c5", func := "loop.example/g00575/laws.FnExactNameOf", spec := "fnExactNameOf", apart := false, narrowed := true }
def FnExactNameOfUptoSaid : Prop := fnExactNameOfUptoRow.holds Try.pinned (OpenSpec.upto fnExactNameOfSpec)

/-- 'laws.FnExactWhoHas', WHERE WHAT IT READS IS OF BULK AT MOST 1048576: true; the input reads as it did. -/
def fnExactWhoHasUptoRow : OpenClaim := { program := "ytljdenmmlkjapaa", sum := "1ce93d847a35a22ec8d2fcfbf1945564937e7e6f26ea0806930f0e0221d2d8c5", func := "loop.example/g00575/laws.FnExactWhoHas", spec := "fnExactWhoHas", apart := false, narrowed := true }
def FnExactWhoHasUptoSaid : Prop := fnExactWhoHasUptoRow.holds Try.pinned (OpenSpec.upto fnExactWhoHasSpec)

/-- 'laws.FnExactClashIn', WHERE WHAT IT READS IS OF BULK AT MOST 1048576: true; the input reads as it did. -/
def fnExactClashInUptoRow : OpenClaim := { program := "ytljdenmmlkjapaa", sum := "1ce93d847a35a22ec8d2fcfbf1945564937e7e6f26ea0806930f0e0221d2d8c5", func := "loop.example/g00575/laws.FnExactClashIn", spec := "fnExactClashIn", apart := false, narrowed := true }
def FnExactClashInUptoSaid : Prop := fnExactClashInUptoRow.holds Try.pinned (OpenSpec.upto fnExactClashInSpec)

/-- 'laws.FnExactNextFree', WHERE WHAT IT READS IS OF BULK AT MOST 1048576: true; the input reads as it did. -/
def fnExactNextFreeUptoRow : OpenClaim := { program := "ytljdenmmlkjapaa", sum := "1ce93d847a35a22ec8d2fcfbf1945564937e7e6f26ea0806930f0e0221d2d8c5", func := "loop.example/g00575/laws.FnExactNextFree", spec := "fnExactNextFree", unfollowed := true, recurses := true, apart := false, narrowed := true }
def FnExactNextFreeUptoSaid : Prop := fnExactNextFreeUptoRow.holds Try.pinned (OpenSpec.upto fnExactNextFreeSpec)

/-- 'laws.FnExactGiveWay', WHERE WHAT IT READS IS OF BULK AT MOST 1048576: true; the input reads as it did. -/
def fnExactGiveWayUptoRow : OpenClaim := { program := "ytljdenmmlkjapaa", sum := "1ce93d847a35a22ec8d2fcfbf1945564937e7e6f26ea0806930f0e0221d2d8c5", func := "loop.example/g00575/laws.FnExactGiveWay", spec := "fnExactGiveWay", unfollowed := true, recurses := true, apart := false, narrowed := true }
def FnExactGiveWayUptoSaid : Prop := fnExactGiveWayUptoRow.holds Try.pinned (OpenSpec.upto fnExactGiveWaySpec)

/-- 'laws.FnExactSettleNames', WHERE WHAT IT READS IS OF BULK AT MOST 1048576: true; the input reads as it did. -/
def fnExactSettleNamesUptoRow : OpenClaim := { program := "ytljdenmmlkjapaa", sum := "1ce93d847a35a22ec8d2fcfbf1945564937e7e6f26ea0806930f0e0221d2d8c5", func := "loop.example/g00575/laws.FnExactSettleNames", spec := "fnExactSettleNames", unfollowed := true, recurses := true, apart := false, narrowed := true }
def FnExactSettleNamesUptoSaid : Prop := fnExactSettleNamesUptoRow.holds Try.pinned (OpenSpec.upto fnExactSettleNamesSpec)

/-- 'laws.FnNames', WHERE WHAT IT READS IS OF BULK AT MOST 1048576: true; the input reads as it did. -/
def fnNamesUptoRow : OpenClaim := { program := "ytljdenmmlkjapaa", sum := "1ce93d847a35a22ec8d2fcfbf1945564937e7e6f26ea0806930f0e0221d2d8c5", func := "loop.example/g00575/laws.FnNames", spec := "fnNames", unfollowed := true, recurses := true, apart := false, narrowed := true }
def FnNamesUptoSaid : Prop := fnNamesUptoRow.holds Try.pinned (OpenSpec.upto fnNamesSpec)

/-- 'laws.FnOwners', WHERE WHAT IT READS IS OF BULK AT MOST 1048576: true; the input reads as it did. -/
def fnOwnersUptoRow : OpenClaim := { program := "ytljdenmmlkjapaa", sum := "1ce93d847a35a22ec8d2fcfbf1945564937e7e6f26ea0806930f0e0221d2d8c5", func := "loop.example/g00575/laws.FnOwners", spec := "fnOwners", unfollowed := true, recurses := true, apart := false, narrowed := true }
def FnOwnersUptoSaid : Prop := fnOwnersUptoRow.holds Try.pinned (OpenSpec.upto fnOwnersSpec)

end Rows
end Go.Proofs.Ytljdenmmlkjapaa
