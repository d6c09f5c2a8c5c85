/-
  No cell of these rows narrows 'for every input' (looked for: loops, veiled, ifaces, maps, wideKeys, modest, calm, conditions, laid).
  DERIVED. THE GIVEN ROWS OF THIS SEAT. 9 by the template 'for every input the law returns true; each argument reads behind the call as it read before'; 0 by the template 'total and deterministic' (their statements: YtcbofebikbbknaaTotals.lean).
  GIVEN WITH THE SEED: the statements are not yours to turn. If you find one false, say at which input.
  Laid BY PROGRAM, IN A SANDBOX (cutbox-rows.mjs): the forced cells as the released guide's own fill.sh prints them over the translation 13461afd9985768d… (all of the seat's roots in one cut). By AI agents, Wed Nov 11 2026. No macro, syntax, notation, axiom, sorry.
-/
import Derived.Test.YtcbofebikbbknaaChecked
import GoSem.Claim
import GoSem.ClaimJoined
import GoSem.ClaimMapViews
import Derived.JoinedTies
import Derived.KernelRfl
namespace Go.Proofs.Ytcbofebikbbknaa
/- THE CELL 'sum', in the pinned program and in every row, IS THE sha256 OF THE DUMP (.gsa) THAT YtcbofebikbbknaaProg.lean LOADS. Nothing in Lean hashes anything: it is a label: what it is worth is what the hold of that sum in a sandbox is worth. -/
noncomputable def Try.pinned : Pinned := { name := "ytcbofebikbbknaa", sum := "13461afd9985768d06d78474d44d6394acbe5caaf8c1292135375156dc1d6ed4", checked := Try.checked }
namespace Rows
def none {H : Type} : Left H := { results := [], args := [] }

/-- 'laws.FnExactNewTable': WHATEVER THE INPUT: true; the input reads as it did. -/
def fnExactNewTableSpec : ChangeSpec := { name := "fnExactNewTable", fn := fun _ => fun
  | [d] => { results := [.lit (.bool true)], args := [d] }
  | _ => none }
def fnExactNewTableRow : OpenClaim := { program := "ytcbofebikbbknaa", sum := "13461afd9985768d06d78474d44d6394acbe5caaf8c1292135375156dc1d6ed4", func := "loop.example/g00575/laws.FnExactNewTable", spec := "fnExactNewTable", apart := false }
def FnExactNewTableSaid : Prop := fnExactNewTableRow.holds Try.pinned (OpenSpec.ofChange fnExactNewTableSpec)

/-- ITS FALSE NEIGHBOUR: 'it returns false'. Refute it at one input. -/
def fnExactNewTableWrong : ChangeSpec := { name := "fnExactNewTable", fn := fun _ => fun
  | [d] => { results := [.lit (.bool false)], args := [d] }
  | _ => none }
def FnExactNewTableWrongFalsely : Prop := fnExactNewTableRow.holds Try.pinned (OpenSpec.ofChange fnExactNewTableWrong)

/-- 'laws.FnExactGoodTable': WHATEVER THE INPUT: true; the input reads as it did. -/
def fnExactGoodTableSpec : ChangeSpec := { name := "fnExactGoodTable", fn := fun _ => fun
  | [d] => { results := [.lit (.bool true)], args := [d] }
  | _ => none }
def fnExactGoodTableRow : OpenClaim := { program := "ytcbofebikbbknaa", sum := "13461afd9985768d06d78474d44d6394acbe5caaf8c1292135375156dc1d6ed4", func := "loop.example/g00575/laws.FnExactGoodTable", spec := "fnExactGoodTable", unfollowed := true, recurses := true, apart := false }
def FnExactGoodTableSaid : Prop := fnExactGoodTableRow.holds Try.pinned (OpenSpec.ofChange fnExactGoodTableSpec)

/-- ITS FALSE NEIGHBOUR: 'it returns false'. Refute it at one input. -/
def fnExactGoodTableWrong : ChangeSpec := { name := "fnExactGoodTable", fn := fun _ => fun
  | [d] => { results := [.lit (.bool false)], args := [d] }
  | _ => none }
def FnExactGoodTableWrongFalsely : Prop := fnExactGoodTableRow.holds Try.pinned (OpenSpec.ofChange fnExactGoodTableWrong)

/-- 'laws.FnExactPortOf': WHATEVER THE INPUT: true; the input reads as it did. -/
def fnExactPortOfSpec : ChangeSpec := { name := "fnExactPortOf", fn := fun _ => fun
  | [d1, d2] => { results := [.lit (.bool true)], args := [d1, d2] }
  | _ => none }
def fnExactPortOfRow : OpenClaim := { program := "ytcbofebikbbknaa", sum := "13461afd9985768d06d78474d44d6394acbe5caaf8c1292135375156dc1d6ed4", func := "loop.example/g00575/laws.FnExactPortOf", spec := "fnExactPortOf", unfollowed := true, recurses := true, apart := false }
def FnExactPortOfSaid : Prop := fnExactPortOfRow.holds Try.pinned (OpenSpec.ofChange fnExactPortOfSpec)

/-- ITS FALSE NEIGHBOUR: 'it returns false'. Refute it at one input. -/
def fnExactPortOfWrong : ChangeSpec := { name := "fnExactPortOf", fn := fun _ => fun
  | [d1, d2] => { results := [.lit (.bool false)], args := [d1, d2] }
  | _ => none }
def FnExactPortOfWrongFalsely : Prop := fnExactPortOfRow.holds Try.pinned (OpenSpec.ofChange fnExactPortOfWrong)

/-- 'laws.FnExactHitsIn': WHATEVER THE INPUT: true; the input reads as it did. -/
def fnExactHitsInSpec : ChangeSpec := { name := "fnExactHitsIn", fn := fun _ => fun
  | [d1, d2] => { results := [.lit (.bool true)], args := [d1, d2] }
  | _ => none }
def fnExactHitsInRow : OpenClaim := { program := "ytcbofebikbbknaa", sum := "13461afd9985768d06d78474d44d6394acbe5caaf8c1292135375156dc1d6ed4", func := "loop.example/g00575/laws.FnExactHitsIn", spec := "fnExactHitsIn", unfollowed := true, recurses := true, apart := false }
def FnExactHitsInSaid : Prop := fnExactHitsInRow.holds Try.pinned (OpenSpec.ofChange fnExactHitsInSpec)

/-- ITS FALSE NEIGHBOUR: 'it returns false'. Refute it at one input. -/
def fnExactHitsInWrong : ChangeSpec := { name := "fnExactHitsIn", fn := fun _ => fun
  | [d1, d2] => { results := [.lit (.bool false)], args := [d1, d2] }
  | _ => none }
def FnExactHitsInWrongFalsely : Prop := fnExactHitsInRow.holds Try.pinned (OpenSpec.ofChange fnExactHitsInWrong)

/-- 'laws.FnExactDropOld': WHATEVER THE INPUT: true; the input reads as it did. -/
def fnExactDropOldSpec : ChangeSpec := { name := "fnExactDropOld", fn := fun _ => fun
  | [d1, d2, d3] => { results := [.lit (.bool true)], args := [d1, d2, d3] }
  | _ => none }
def fnExactDropOldRow : OpenClaim := { program := "ytcbofebikbbknaa", sum := "13461afd9985768d06d78474d44d6394acbe5caaf8c1292135375156dc1d6ed4", func := "loop.example/g00575/laws.FnExactDropOld", spec := "fnExactDropOld", unfollowed := true, recurses := true, apart := false }
def FnExactDropOldSaid : Prop := fnExactDropOldRow.holds Try.pinned (OpenSpec.ofChange fnExactDropOldSpec)

/-- ITS FALSE NEIGHBOUR: 'it returns false'. Refute it at one input. -/
def fnExactDropOldWrong : ChangeSpec := { name := "fnExactDropOld", fn := fun _ => fun
  | [d1, d2, d3] => { results := [.lit (.bool false)], args := [d1, d2, d3] }
  | _ => none }
def FnExactDropOldWrongFalsely : Prop := fnExactDropOldRow.holds Try.pinned (OpenSpec.ofChange fnExactDropOldWrong)

/-- 'laws.FnExactFlushPort': WHATEVER THE INPUT: true; the input reads as it did. -/
def fnExactFlushPortSpec : ChangeSpec := { name := "fnExactFlushPort", fn := fun _ => fun
  | [d1, d2] => { results := [.lit (.bool true)], args := [d1, d2] }
  | _ => none }
def fnExactFlushPortRow : OpenClaim := { program := "ytcbofebikbbknaa", sum := "13461afd9985768d06d78474d44d6394acbe5caaf8c1292135375156dc1d6ed4", func := "loop.example/g00575/laws.FnExactFlushPort", spec := "fnExactFlushPort", unfollowed := true, recurses := true, apart := false }
def FnExactFlushPortSaid : Prop := fnExactFlushPortRow.holds Try.pinned (OpenSpec.ofChange fnExactFlushPortSpec)

/-- ITS FALSE NEIGHBOUR: 'it returns false'. Refute it at one input. -/
def fnExactFlushPortWrong : ChangeSpec := { name := "fnExactFlushPort", fn := fun _ => fun
  | [d1, d2] => { results := [.lit (.bool false)], args := [d1, d2] }
  | _ => none }
def FnExactFlushPortWrongFalsely : Prop := fnExactFlushPortRow.holds Try.pinned (OpenSpec.ofChange fnExactFlushPortWrong)

/-- 'laws.FnExactPlayTable': WHATEVER THE INPUT: true; the input reads as it did. -/
def fnExactPlayTableSpec : ChangeSpec := { name := "fnExactPlayTable", fn := fun _ => fun
  | [d1, d2] => { results := [.lit (.bool true)], args := [d1, d2] }
  | _ => none }
def fnExactPlayTableRow : OpenClaim := { program := "ytcbofebikbbknaa", sum := "13461afd9985768d06d78474d44d6394acbe5caaf8c1292135375156dc1d6ed4", func := "loop.example/g00575/laws.FnExactPlayTable", spec := "fnExactPlayTable", unfollowed := true, recurses := true, apart := false }
def FnExactPlayTableSaid : Prop := fnExactPlayTableRow.holds Try.pinned (OpenSpec.ofChange fnExactPlayTableSpec)

/-- ITS FALSE NEIGHBOUR: 'it returns false'. Refute it at one input. -/
def fnExactPlayTableWrong : ChangeSpec := { name := "fnExactPlayTable", fn := fun _ => fun
  | [d1, d2] => { results := [.lit (.bool false)], args := [d1, d2] }
  | _ => none }
def FnExactPlayTableWrongFalsely : Prop := fnExactPlayTableRow.holds Try.pinned (OpenSpec.ofChange fnExactPlayTableWrong)

/-- 'laws.FnExactLearn': WHATEVER THE INPUT: true; the input reads as it did. -/
def fnExactLearnSpec : ChangeSpec := { name := "fnExactLearn", fn := fun _ => fun
  | [d1, d2] => { results := [.lit (.bool true)], args := [d1, d2] }
  | _ => none }
def fnExactLearnRow : OpenClaim := { program := "ytcbofebikbbknaa", sum := "13461afd9985768d06d78474d44d6394acbe5caaf8c1292135375156dc1d6ed4", func := "loop.example/g00575/laws.FnExactLearn", spec := "fnExactLearn", unfollowed := true, recurses := true, apart := false }
def FnExactLearnSaid : Prop := fnExactLearnRow.holds Try.pinned (OpenSpec.ofChange fnExactLearnSpec)

/-- ITS FALSE NEIGHBOUR: 'it returns false'. Refute it at one input. -/
def fnExactLearnWrong : ChangeSpec := { name := "fnExactLearn", fn := fun _ => fun
  | [d1, d2] => { results := [.lit (.bool false)], args := [d1, d2] }
  | _ => none }
def FnExactLearnWrongFalsely : Prop := fnExactLearnRow.holds Try.pinned (OpenSpec.ofChange fnExactLearnWrong)

/-- 'laws.FnTables': WHATEVER THE INPUT: true; the input reads as it did. -/
def fnTablesSpec : ChangeSpec := { name := "fnTables", fn := fun _ => fun
  | [d1, d2] => { results := [.lit (.bool true)], args := [d1, d2] }
  | _ => none }
def fnTablesRow : OpenClaim := { program := "ytcbofebikbbknaa", sum := "13461afd9985768d06d78474d44d6394acbe5caaf8c1292135375156dc1d6ed4", func := "loop.example/g00575/laws.FnTables", spec := "fnTables", unfollowed := true, recurses := true, apart := false }
def FnTablesSaid : Prop := fnTablesRow.holds Try.pinned (OpenSpec.ofChange fnTablesSpec)

/-- ITS FALSE NEIGHBOUR: 'it returns false'. Refute it at one input. -/
def fnTablesWrong : ChangeSpec := { name := "fnTables", fn := fun _ => fun
  | [d1, d2] => { results := [.lit (.bool false)], args := [d1, d2] }
  | _ => none }
def FnTablesWrongFalsely : Prop := fnTablesRow.holds Try.pinned (OpenSpec.ofChange fnTablesWrong)

/- THE SECOND FORM. 'bulk': how many values and letters a reading holds, each counted each time it is reached (what is shared counts as often as it is met; a slice's spare places count too). A statement '..UptoSaid' is the law's where the arguments, and the package variables that the reading takes, are together of bulk at most 1048576: NARROWER than '..Said'. Prove '..Said' where nothing that the law and all that it calls make is longer than what came in: it says more and counts as full. Else prove '..UptoSaid'. A law counts once. -/
mutual
def uptoBulk {H : Type} : DataW H → Nat
  | .lit (.string bytes) => bytes.length + 1
  | .lit _ => 1
  | .nil => 1
  | .ptr d => uptoBulk d + 1
  | .slice elems spare => uptoBulkAll elems + uptoBulkAll spare + 1
  | .agg parts => uptoBulkAll parts + 1
  | .iface _ d => uptoBulk d + 1
  | .map entries => uptoBulkEntries entries + 1
  | .held _ => 1
def uptoBulkAll {H : Type} : List (DataW H) → Nat
  | [] => 0
  | d :: r => uptoBulk d + uptoBulkAll r
def uptoBulkEntries {H : Type} : List (Lit × DataW H) → Nat
  | [] => 0
  | x :: r => uptoBulkEntry x + uptoBulkEntries r
def uptoBulkEntry {H : Type} : Lit × DataW H → Nat
  | (.string bytes, d) => bytes.length + uptoBulk d + 1
  | (_, d) => uptoBulk d + 1
 end
def uptoSmall : (H : Type) → List (DataW H) → Bool := fun _ ds => decide (uptoBulkAll ds ≤ 1048576)
def OpenSpec.upto (s : _root_.Go.ChangeSpec) : _root_.Go.OpenSpec := { _root_.Go.OpenSpec.ofChange s with cond := some uptoSmall }

/-- 'laws.FnExactNewTable', WHERE WHAT IT READS IS OF BULK AT MOST 1048576: true; the input reads as it did. -/
def fnExactNewTableUptoRow : OpenClaim := { program := "ytcbofebikbbknaa", sum := "13461afd9985768d06d78474d44d6394acbe5caaf8c1292135375156dc1d6ed4", func := "loop.example/g00575/laws.FnExactNewTable", spec := "fnExactNewTable", apart := false, narrowed := true }
def FnExactNewTableUptoSaid : Prop := fnExactNewTableUptoRow.holds Try.pinned (OpenSpec.upto fnExactNewTableSpec)

/-- 'laws.FnExactGoodTable', WHERE WHAT IT READS IS OF BULK AT MOST 1048576: true; the input reads as it did. -/
def fnExactGoodTableUptoRow : OpenClaim := { program := "ytcbofebikbbknaa", sum := "13461afd9985768d06d78474d44d6394acbe5caaf8c1292135375156dc1d6ed4", func := "loop.example/g00575/laws.FnExactGoodTable", spec := "fnExactGoodTable", unfollowed := true, recurses := true, apart := false, narrowed := true }
def FnExactGoodTableUptoSaid : Prop := fnExactGoodTableUptoRow.holds Try.pinned (OpenSpec.upto fnExactGoodTableSpec)

/-- 'laws.FnExactPortOf', WHERE WHAT IT READS IS OF BULK AT MOST 1048576: true; the input reads as it did. -/
def fnExactPortOfUptoRow : OpenClaim := { program := "ytcbofebikbbknaa", sum := "13461afd9985768d06d78474d44d6394acbe5caaf8c1292135375156dc1d6ed4", func := "loop.example/g00575/laws.FnExactPortOf", spec := "fnExactPortOf", unfollowed := true, recurses := true, apart := false, narrowed := true }
def FnExactPortOfUptoSaid : Prop := fnExactPortOfUptoRow.holds Try.pinned (OpenSpec.upto fnExactPortOfSpec)

/-- 'laws.FnExactHitsIn', WHERE WHAT IT READS IS OF BULK AT MOST 1048576: true; the input reads as it did. -/
def fnExactHitsInUptoRow : OpenClaim := { program := "ytcbofebikbbknaa", sum := "13461afd9985768d06d78474d44d6394acbe5caaf8c1292135375156dc1d6ed4", func := "loop.example/g00575/laws.FnExactHitsIn", spec := "fnExactHitsIn", unfollowed := true, recurses := true, apart := false, narrowed := true }
def FnExactHitsInUptoSaid : Prop := fnExactHitsInUptoRow.holds Try.pinned (OpenSpec.upto fnExactHitsInSpec)

/-- 'laws.FnExactDropOld', WHERE WHAT IT READS IS OF BULK AT MOST 1048576: true; the input reads as it did. -/
def fnExactDropOldUptoRow : OpenClaim := { program := "ytcbofebikbbknaa", sum := "13461afd9985768d06d78474d44d6394acbe5caaf8c1292135375156dc1d6ed4", func := "loop.example/g00575/laws.FnExactDropOld", spec := "fnExactDropOld", unfollowed := true, recurses := true, apart := false, narrowed := true }
def FnExactDropOldUptoSaid : Prop := fnExactDropOldUptoRow.holds Try.pinned (OpenSpec.upto fnExactDropOldSpec)

/-- 'laws.FnExactFlushPort', WHERE WHAT IT READS IS OF BULK AT MOST 1048576: true; the input reads as it did. -/
def fnExactFlushPortUptoRow : OpenClaim := { program := "ytcbofebikbbknaa", sum := "13461afd9985768d06d78474d44d6394acbe5caaf8c1292135375156dc1d6ed4", func := "loop.example/g00575/laws.FnExactFlushPort", spec := "fnExactFlushPort", unfollowed := true, recurses := true, apart := false, narrowed := true }
def FnExactFlushPortUptoSaid : Prop := fnExactFlushPortUptoRow.holds Try.pinned (OpenSpec.upto fnExactFlushPortSpec)

/-- 'laws.FnExactPlayTable', WHERE WHAT IT READS IS OF BULK AT MOST 1048576: true; the input reads as it did. -/
def fnExactPlayTableUptoRow : OpenClaim := { program := "ytcbofebikbbknaa", sum := "13461afd9985768d06d78474d44d6394acbe5caaf8c1292135375156dc1d6ed4", func := "loop.example/g00575/laws.FnExactPlayTable", spec := "fnExactPlayTable", unfollowed := true, recurses := true, apart := false, narrowed := true }
def FnExactPlayTableUptoSaid : Prop := fnExactPlayTableUptoRow.holds Try.pinned (OpenSpec.upto fnExactPlayTableSpec)

/-- 'laws.FnExactLearn', WHERE WHAT IT READS IS OF BULK AT MOST 1048576: true; the input reads as it did. -/
def fnExactLearnUptoRow : OpenClaim := { program := "ytcbofebikbbknaa", sum := "13461afd9985768d06d78474d44d6394acbe5caaf8c1292135375156dc1d6ed4", func := "loop.example/g00575/laws.FnExactLearn", spec := "fnExactLearn", unfollowed := true, recurses := true, apart := false, narrowed := true }
def FnExactLearnUptoSaid : Prop := fnExactLearnUptoRow.holds Try.pinned (OpenSpec.upto fnExactLearnSpec)

/-- 'laws.FnTables', WHERE WHAT IT READS IS OF BULK AT MOST 1048576: true; the input reads as it did. -/
def fnTablesUptoRow : OpenClaim := { program := "ytcbofebikbbknaa", sum := "13461afd9985768d06d78474d44d6394acbe5caaf8c1292135375156dc1d6ed4", func := "loop.example/g00575/laws.FnTables", spec := "fnTables", unfollowed := true, recurses := true, apart := false, narrowed := true }
def FnTablesUptoSaid : Prop := fnTablesUptoRow.holds Try.pinned (OpenSpec.upto fnTablesSpec)

end Rows
end Go.Proofs.Ytcbofebikbbknaa
