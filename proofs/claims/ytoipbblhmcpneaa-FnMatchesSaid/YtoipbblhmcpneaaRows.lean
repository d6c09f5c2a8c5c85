/-
  No cell of these rows narrows 'for every input' (looked for: loops, veiled, ifaces, maps, wideKeys, modest, calm, conditions, laid).
  DERIVED. THE GIVEN ROWS OF THIS SEAT. 10 by the template 'for every input the law returns true; each argument reads behind the call as it read before'; 0 by the template 'total and deterministic' (their statements: YtoipbblhmcpneaaTotals.lean).
  GIVEN WITH THE SEED: the statements are not yours to turn. If you find one false, say at which input.
  Laid BY PROGRAM, IN A SANDBOX (cutbox-rows.mjs): the forced cells as the released guide's own fill.sh prints them over the translation 504216b313c65cb3… (all of the seat's roots in one cut). By AI agents, Wed Nov 11 2026. No macro, syntax, notation, axiom, sorry.
-/
import Derived.Test.YtoipbblhmcpneaaChecked
import GoSem.Claim
import GoSem.ClaimJoined
import GoSem.ClaimMapViews
import Derived.JoinedTies
import Derived.KernelRfl
namespace Go.Proofs.Ytoipbblhmcpneaa
/- THE CELL 'sum', in the pinned program and in every row, IS THE sha256 OF THE DUMP (.gsa) THAT YtoipbblhmcpneaaProg.lean LOADS. Nothing in Lean hashes anything: it is a label: what it is worth is what the hold of that sum in a sandbox is worth. -/
noncomputable def Try.pinned : Pinned := { name := "ytoipbblhmcpneaa", sum := "504216b313c65cb3d996c429a40baf23057367901fa0a5e766f567934d741014", checked := Try.checked }
namespace Rows
def none {H : Type} : Left H := { results := [], args := [] }

/-- 'laws.FnExactPlaceOf': WHATEVER THE INPUT: true; the input reads as it did. -/
def fnExactPlaceOfSpec : ChangeSpec := { name := "fnExactPlaceOf", fn := fun _ => fun
  | [d1, d2] => { results := [.lit (.bool true)], args := [d1, d2] }
  | _ => none }
def fnExactPlaceOfRow : OpenClaim := { program := "ytoipbblhmcpneaa", sum := "504216b313c65cb3d996c429a40baf23057367901fa0a5e766f567934d741014", func := "loop.example/g00575/laws.FnExactPlaceOf", spec := "fnExactPlaceOf", apart := false }
def FnExactPlaceOfSaid : Prop := fnExactPlaceOfRow.holds Try.pinned (OpenSpec.ofChange fnExactPlaceOfSpec)

/-- ITS FALSE NEIGHBOUR: 'it returns false'. Refute it at one input. -/
def fnExactPlaceOfWrong : ChangeSpec := { name := "fnExactPlaceOf", fn := fun _ => fun
  | [d1, d2] => { results := [.lit (.bool false)], args := [d1, d2] }
  | _ => none }
def FnExactPlaceOfWrongFalsely : Prop := fnExactPlaceOfRow.holds Try.pinned (OpenSpec.ofChange fnExactPlaceOfWrong)

/-- 'laws.FnExactGoodWishes': WHATEVER THE INPUT: true; the input reads as it did. -/
def fnExactGoodWishesSpec : ChangeSpec := { name := "fnExactGoodWishes", fn := fun _ => fun
  | [d] => { results := [.lit (.bool true)], args := [d] }
  | _ => none }
def fnExactGoodWishesRow : OpenClaim := { program := "ytoipbblhmcpneaa", sum := "504216b313c65cb3d996c429a40baf23057367901fa0a5e766f567934d741014", func := "loop.example/g00575/laws.FnExactGoodWishes", spec := "fnExactGoodWishes", apart := false }
def FnExactGoodWishesSaid : Prop := fnExactGoodWishesRow.holds Try.pinned (OpenSpec.ofChange fnExactGoodWishesSpec)

/-- ITS FALSE NEIGHBOUR: 'it returns false'. Refute it at one input. -/
def fnExactGoodWishesWrong : ChangeSpec := { name := "fnExactGoodWishes", fn := fun _ => fun
  | [d] => { results := [.lit (.bool false)], args := [d] }
  | _ => none }
def FnExactGoodWishesWrongFalsely : Prop := fnExactGoodWishesRow.holds Try.pinned (OpenSpec.ofChange fnExactGoodWishesWrong)

/-- 'laws.FnExactGoodMatch': WHATEVER THE INPUT: true; the input reads as it did. -/
def fnExactGoodMatchSpec : ChangeSpec := { name := "fnExactGoodMatch", fn := fun _ => fun
  | [d1, d2] => { results := [.lit (.bool true)], args := [d1, d2] }
  | _ => none }
def fnExactGoodMatchRow : OpenClaim := { program := "ytoipbblhmcpneaa", sum := "504216b313c65cb3d996c429a40baf23057367901fa0a5e766f567934d741014", func := "loop.example/g00575/laws.FnExactGoodMatch", spec := "fnExactGoodMatch", apart := false }
def FnExactGoodMatchSaid : Prop := fnExactGoodMatchRow.holds Try.pinned (OpenSpec.ofChange fnExactGoodMatchSpec)

/-- ITS FALSE NEIGHBOUR: 'it returns false'. Refute it at one input. -/
def fnExactGoodMatchWrong : ChangeSpec := { name := "fnExactGoodMatch", fn := fun _ => fun
  | [d1, d2] => { results := [.lit (.bool false)], args := [d1, d2] }
  | _ => none }
def FnExactGoodMatchWrongFalsely : Prop := fnExactGoodMatchRow.holds Try.pinned (OpenSpec.ofChange fnExactGoodMatchWrong)

/-- 'laws.FnExactLoadOf': WHATEVER THE INPUT: true; the input reads as it did. -/
def fnExactLoadOfSpec : ChangeSpec := { name := "fnExactLoadOf", fn := fun _ => fun
  | [d1, d2] => { results := [.lit (.bool true)], args := [d1, d2] }
  | _ => none }
def fnExactLoadOfRow : OpenClaim := { program := "ytoipbblhmcpneaa", sum := "504216b313c65cb3d996c429a40baf23057367901fa0a5e766f567934d741014", func := "loop.example/g00575/laws.FnExactLoadOf", spec := "fnExactLoadOf", apart := false }
def FnExactLoadOfSaid : Prop := fnExactLoadOfRow.holds Try.pinned (OpenSpec.ofChange fnExactLoadOfSpec)

/-- ITS FALSE NEIGHBOUR: 'it returns false'. Refute it at one input. -/
def fnExactLoadOfWrong : ChangeSpec := { name := "fnExactLoadOf", fn := fun _ => fun
  | [d1, d2] => { results := [.lit (.bool false)], args := [d1, d2] }
  | _ => none }
def FnExactLoadOfWrongFalsely : Prop := fnExactLoadOfRow.holds Try.pinned (OpenSpec.ofChange fnExactLoadOfWrong)

/-- 'laws.FnExactRanksOf': WHATEVER THE INPUT: true; the input reads as it did. -/
def fnExactRanksOfSpec : ChangeSpec := { name := "fnExactRanksOf", fn := fun _ => fun
  | [d1, d2] => { results := [.lit (.bool true)], args := [d1, d2] }
  | _ => none }
def fnExactRanksOfRow : OpenClaim := { program := "ytoipbblhmcpneaa", sum := "504216b313c65cb3d996c429a40baf23057367901fa0a5e766f567934d741014", func := "loop.example/g00575/laws.FnExactRanksOf", spec := "fnExactRanksOf", apart := false }
def FnExactRanksOfSaid : Prop := fnExactRanksOfRow.holds Try.pinned (OpenSpec.ofChange fnExactRanksOfSpec)

/-- ITS FALSE NEIGHBOUR: 'it returns false'. Refute it at one input. -/
def fnExactRanksOfWrong : ChangeSpec := { name := "fnExactRanksOf", fn := fun _ => fun
  | [d1, d2] => { results := [.lit (.bool false)], args := [d1, d2] }
  | _ => none }
def FnExactRanksOfWrongFalsely : Prop := fnExactRanksOfRow.holds Try.pinned (OpenSpec.ofChange fnExactRanksOfWrong)

/-- 'laws.FnExactIsStable': WHATEVER THE INPUT: true; the input reads as it did. -/
def fnExactIsStableSpec : ChangeSpec := { name := "fnExactIsStable", fn := fun _ => fun
  | [d1, d2] => { results := [.lit (.bool true)], args := [d1, d2] }
  | _ => none }
def fnExactIsStableRow : OpenClaim := { program := "ytoipbblhmcpneaa", sum := "504216b313c65cb3d996c429a40baf23057367901fa0a5e766f567934d741014", func := "loop.example/g00575/laws.FnExactIsStable", spec := "fnExactIsStable", apart := false }
def FnExactIsStableSaid : Prop := fnExactIsStableRow.holds Try.pinned (OpenSpec.ofChange fnExactIsStableSpec)

/-- ITS FALSE NEIGHBOUR: 'it returns false'. Refute it at one input. -/
def fnExactIsStableWrong : ChangeSpec := { name := "fnExactIsStable", fn := fun _ => fun
  | [d1, d2] => { results := [.lit (.bool false)], args := [d1, d2] }
  | _ => none }
def FnExactIsStableWrongFalsely : Prop := fnExactIsStableRow.holds Try.pinned (OpenSpec.ofChange fnExactIsStableWrong)

/-- 'laws.FnExactBlockingIn': WHATEVER THE INPUT: true; the input reads as it did. -/
def fnExactBlockingInSpec : ChangeSpec := { name := "fnExactBlockingIn", fn := fun _ => fun
  | [d1, d2] => { results := [.lit (.bool true)], args := [d1, d2] }
  | _ => none }
def fnExactBlockingInRow : OpenClaim := { program := "ytoipbblhmcpneaa", sum := "504216b313c65cb3d996c429a40baf23057367901fa0a5e766f567934d741014", func := "loop.example/g00575/laws.FnExactBlockingIn", spec := "fnExactBlockingIn", apart := false }
def FnExactBlockingInSaid : Prop := fnExactBlockingInRow.holds Try.pinned (OpenSpec.ofChange fnExactBlockingInSpec)

/-- ITS FALSE NEIGHBOUR: 'it returns false'. Refute it at one input. -/
def fnExactBlockingInWrong : ChangeSpec := { name := "fnExactBlockingIn", fn := fun _ => fun
  | [d1, d2] => { results := [.lit (.bool false)], args := [d1, d2] }
  | _ => none }
def FnExactBlockingInWrongFalsely : Prop := fnExactBlockingInRow.holds Try.pinned (OpenSpec.ofChange fnExactBlockingInWrong)

/-- 'laws.FnExactMatchAll': WHATEVER THE INPUT: true; the input reads as it did. -/
def fnExactMatchAllSpec : ChangeSpec := { name := "fnExactMatchAll", fn := fun _ => fun
  | [d] => { results := [.lit (.bool true)], args := [d] }
  | _ => none }
def fnExactMatchAllRow : OpenClaim := { program := "ytoipbblhmcpneaa", sum := "504216b313c65cb3d996c429a40baf23057367901fa0a5e766f567934d741014", func := "loop.example/g00575/laws.FnExactMatchAll", spec := "fnExactMatchAll", apart := false }
def FnExactMatchAllSaid : Prop := fnExactMatchAllRow.holds Try.pinned (OpenSpec.ofChange fnExactMatchAllSpec)

/-- ITS FALSE NEIGHBOUR: 'it returns false'. Refute it at one input. -/
def fnExactMatchAllWrong : ChangeSpec := { name := "fnExactMatchAll", fn := fun _ => fun
  | [d] => { results := [.lit (.bool false)], args := [d] }
  | _ => none }
def FnExactMatchAllWrongFalsely : Prop := fnExactMatchAllRow.holds Try.pinned (OpenSpec.ofChange fnExactMatchAllWrong)

/-- 'laws.FnMatches': WHATEVER THE INPUT: true; the input reads as it did. -/
def fnMatchesSpec : ChangeSpec := { name := "fnMatches", fn := fun _ => fun
  | [d1, d2] => { results := [.lit (.bool true)], args := [d1, d2] }
  | _ => none }
def fnMatchesRow : OpenClaim := { program := "ytoipbblhmcpneaa", sum := "504216b313c65cb3d996c429a40baf23057367901fa0a5e766f567934d741014", func := "loop.example/g00575/laws.FnMatches", spec := "fnMatches", apart := false }
def FnMatchesSaid : Prop := fnMatchesRow.holds Try.pinned (OpenSpec.ofChange fnMatchesSpec)

/-- ITS FALSE NEIGHBOUR: 'it returns false'. Refute it at one input. -/
def fnMatchesWrong : ChangeSpec := { name := "fnMatches", fn := fun _ => fun
  | [d1, d2] => { results := [.lit (.bool false)], args := [d1, d2] }
  | _ => none }
def FnMatchesWrongFalsely : Prop := fnMatchesRow.holds Try.pinned (OpenSpec.ofChange fnMatchesWrong)

/-- 'laws.FnStable': WHATEVER THE INPUT: true; the input reads as it did. -/
def fnStableSpec : ChangeSpec := { name := "fnStable", fn := fun _ => fun
  | [d1, d2] => { results := [.lit (.bool true)], args := [d1, d2] }
  | _ => none }
def fnStableRow : OpenClaim := { program := "ytoipbblhmcpneaa", sum := "504216b313c65cb3d996c429a40baf23057367901fa0a5e766f567934d741014", func := "loop.example/g00575/laws.FnStable", spec := "fnStable", apart := false }
def FnStableSaid : Prop := fnStableRow.holds Try.pinned (OpenSpec.ofChange fnStableSpec)

/-- ITS FALSE NEIGHBOUR: 'it returns false'. Refute it at one input. -/
def fnStableWrong : ChangeSpec := { name := "fnStable", fn := fun _ => fun
  | [d1, d2] => { results := [.lit (.bool false)], args := [d1, d2] }
  | _ => none }
def FnStableWrongFalsely : Prop := fnStableRow.holds Try.pinned (OpenSpec.ofChange fnStableWrong)

/- THE SECOND FORM. 'bulk': how many values and letters a reading holds, each counted each time it is reached (what is shared counts as often as it is met; a slice's spare places count too). A statement '..UptoSaid' is the law's where the arguments, and the package variables that the reading takes, are together of bulk at most 1048576: NARROWER than '..Said'. Prove '..Said' where nothing that the law and all that it calls make is longer than what came in: it says more and counts as full. Else prove '..UptoSaid'. A law counts once. -/
mutual
def uptoBulk {H : Type} : DataW H → Nat
  | .lit (.string bytes) => bytes.length + 1
  | .lit _ => 1
  | .nil => 1
  | .ptr d => uptoBulk d + 1
  | .slice elems spare => uptoBulkAll elems + uptoBulkAll spare + 1
  | .agg parts => uptoBulkAll parts + 1
  | .iface _ d => uptoBulk d + 1
  | .map entries => uptoBulkEntries entries + 1
  | .held _ => 1
def uptoBulkAll {H : Type} : List (DataW H) → Nat
  | [] => 0
  | d :: r => uptoBulk d + uptoBulkAll r
def uptoBulkEntries {H : Type} : List (Lit × DataW H) → Nat
  | [] => 0
  | x :: r => uptoBulkEntry x + uptoBulkEntries r
def uptoBulkEntry {H : Type} : Lit × DataW H → Nat
  | (.string bytes, d) => bytes.length + uptoBulk d + 1
  | (_, d) => uptoBulk d + 1
 end
def uptoSmall : (H : Type) → List (DataW H) → Bool := fun _ ds => decide (uptoBulkAll ds ≤ 1048576)
def OpenSpec.upto (s : _root_.Go.ChangeSpec) : _root_.Go.OpenSpec := { _root_.Go.OpenSpec.ofChange s with cond := some uptoSmall }

/-- 'laws.FnExactPlaceOf', WHERE WHAT IT READS IS OF BULK AT MOST 1048576: true; the input reads as it did. -/
def fnExactPlaceOfUptoRow : OpenClaim := { program := "ytoipbblhmcpneaa", sum := "504216b313c65cb3d996c429a40baf23057367901fa0a5e766f567934d741014", func := "loop.example/g00575/laws.FnExactPlaceOf", spec := "fnExactPlaceOf", apart := false, narrowed := true }
def FnExactPlaceOfUptoSaid : Prop := fnExactPlaceOfUptoRow.holds Try.pinned (OpenSpec.upto fnExactPlaceOfSpec)

/-- 'laws.FnExactGoodWishes', WHERE WHAT IT READS IS OF BULK AT MOST 1048576: true; the input reads as it did. -/
def fnExactGoodWishesUptoRow : OpenClaim := { program := "ytoipbblhmcpneaa", sum := "504216b313c65cb3d996c429a40baf23057367901fa0a5e766f567934d741014", func := "loop.example/g00575/laws.FnExactGoodWishes", spec := "fnExactGoodWishes", apart := false, narrowed := true }
def FnExactGoodWishesUptoSaid : Prop := fnExactGoodWishesUptoRow.holds Try.pinned (OpenSpec.upto fnExactGoodWishesSpec)

/-- 'laws.FnExactGoodMatch', WHERE WHAT IT READS IS OF BULK AT MOST 1048576: true; the input reads as it did. -/
def fnExactGoodMatchUptoRow : OpenClaim := { program := "ytoipbblhmcpneaa", sum := "504216b313c65cb3d996c429a40baf23057367901fa0a5e766f567934d741014", func := "loop.example/g00575/laws.FnExactGoodMatch", spec := "fnExactGoodMatch", apart := false, narrowed := true }
def FnExactGoodMatchUptoSaid : Prop := fnExactGoodMatchUptoRow.holds Try.pinned (OpenSpec.upto fnExactGoodMatchSpec)

/-- 'laws.FnExactLoadOf', WHERE WHAT IT READS IS OF BULK AT MOST 1048576: true; the input reads as it did. -/
def fnExactLoadOfUptoRow : OpenClaim := { program := "ytoipbblhmcpneaa", sum := "504216b313c65cb3d996c429a40baf23057367901fa0a5e766f567934d741014", func := "loop.example/g00575/laws.FnExactLoadOf", spec := "fnExactLoadOf", apart := false, narrowed := true }
def FnExactLoadOfUptoSaid : Prop := fnExactLoadOfUptoRow.holds Try.pinned (OpenSpec.upto fnExactLoadOfSpec)

/-- 'laws.FnExactRanksOf', WHERE WHAT IT READS IS OF BULK AT MOST 1048576: true; the input reads as it did. -/
def fnExactRanksOfUptoRow : OpenClaim := { program := "ytoipbblhmcpneaa", sum := "504216b313c65cb3d996c429a40baf23057367901fa0a5e766f567934d741014", func := "loop.example/g00575/laws.FnExactRanksOf", spec := "fnExactRanksOf", apart := false, narrowed := true }
def FnExactRanksOfUptoSaid : Prop := fnExactRanksOfUptoRow.holds Try.pinned (OpenSpec.upto fnExactRanksOfSpec)

/-- 'laws.FnExactIsStable', WHERE WHAT IT READS IS OF BULK AT MOST 1048576: true; the input reads as it did. -/
def fnExactIsStableUptoRow : OpenClaim := { program := "ytoipbblhmcpneaa", sum := "504216b313c65cb3d996c429a40baf23057367901fa0a5e766f567934d741014", func := "loop.example/g00575/laws.FnExactIsStable", spec := "fnExactIsStable", apart := false, narrowed := true }
def FnExactIsStableUptoSaid : Prop := fnExactIsStableUptoRow.holds Try.pinned (OpenSpec.upto fnExactIsStableSpec)

/-- 'laws.FnExactBlockingIn', WHERE WHAT IT READS IS OF BULK AT MOST 1048576: true; the input reads as it did. -/
def fnExactBlockingInUptoRow : OpenClaim := { program := "ytoipbblhmcpneaa", sum := "504216b313c65cb3d996c429a40baf23057367901fa0a5e766f567934d741014", func := "loop.example/g00575/laws.FnExactBlockingIn", spec := "fnExactBlockingIn", apart := false, narrowed := true }
def FnExactBlockingInUptoSaid : Prop := fnExactBlockingInUptoRow.holds Try.pinned (OpenSpec.upto fnExactBlockingInSpec)

/-- 'laws.FnExactMatchAll', WHERE WHAT IT READS IS OF BULK AT MOST 1048576: true; the input reads as it did. -/
def fnExactMatchAllUptoRow : OpenClaim := { program := "ytoipbblhmcpneaa", sum := "504216b313c65cb3d996c429a40baf23057367901fa0a5e766f567934d741014", func := "loop.example/g00575/laws.FnExactMatchAll", spec := "fnExactMatchAll", apart := false, narrowed := true }
def FnExactMatchAllUptoSaid : Prop := fnExactMatchAllUptoRow.holds Try.pinned (OpenSpec.upto fnExactMatchAllSpec)

/-- 'laws.FnMatches', WHERE WHAT IT READS IS OF BULK AT MOST 1048576: true; the input reads as it did. -/
def fnMatchesUptoRow : OpenClaim := { program := "ytoipbblhmcpneaa", sum := "504216b313c65cb3d996c429a40baf23057367901fa0a5e766f567934d741014", func := "loop.example/g00575/laws.FnMatches", spec := "fnMatches", apart := false, narrowed := true }
def FnMatchesUptoSaid : Prop := fnMatchesUptoRow.holds Try.pinned (OpenSpec.upto fnMatchesSpec)

/-- 'laws.FnStable', WHERE WHAT IT READS IS OF BULK AT MOST 1048576: true; the input reads as it did. -/
def fnStableUptoRow : OpenClaim := { program := "ytoipbblhmcpneaa", sum := "504216b313c65cb3d996c429a40baf23057367901fa0a5e766f567934d741014", func := "loop.example/g00575/laws.FnStable", spec := "fnStable", apart := false, narrowed := true }
def FnStableUptoSaid : Prop := fnStableUptoRow.holds Try.pinned (OpenSpec.upto fnStableSpec)

end Rows
end Go.Proofs.Ytoipbblhmcpneaa
