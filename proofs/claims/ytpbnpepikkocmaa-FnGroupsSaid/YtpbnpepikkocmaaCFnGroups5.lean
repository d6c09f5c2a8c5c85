/- Functions, walks and plain lemmas that the law FnGroups reaches, part 5. -/
import Derived.Test.YtpbnpepikkocmaaCFnGroups4
import Derived.Below
import Derived.Deep.Draws
import Derived.Deep.AppendLies
import Derived.Maps.AppendAt
import Derived.OwnWalk
import Derived.Laws.BytesArg
import Derived.Laws.MakeOwn
import Derived.Laws.OwnMore
import Derived.Deep.OwnRows
import Derived.Tactics
import Derived.Lib.ConvBytes
import Derived.Laws.Slices
import Derived.WalkKit
import Derived.KernelRfl
import Derived.RowKit3
import Derived.Deep.LoopGhost
import Derived.Deep.QuietTactic
import Derived.BigQuiet
import Derived.WideLaws
import Derived.Deep.DeepCutAuto
import Derived.Deep.CutBlock
import Derived.Deep.RegionHeld3
import Derived.Laws.Rows
import Derived.Lib.AppendStr
import Derived.ArgAppend
import Derived.Laws.IdiomCopy
import Derived.OrdersHeld
import Derived.Laws.BitsLemmas
import Derived.RowKit
import Derived.WalkSpells
import Derived.Lib.SliceRun
import Derived.Shelf.Abstract
import Derived.ProofKit
import Derived.OpenShut
import Derived.ShutString
import Derived.ChangeOld
import Derived.SizedLaws
namespace Go.Proofs.Ytpbnpepikkocmaa.P
open Go.RowKit Go.Proofs.YtpbnpepikkocmaaW.PrintWords Go.Proofs.YtpbnpepikkocmaaW.PrintLast Go.Proofs.YtpbnpepikkocmaaW.PrintMore
attribute [local go_sem] max2_int min2_int max_two min_two max_three min_three max_four min_four   -- for this text's walks alone
set_option linter.unusedVariables false
set_option linter.unusedSimpArgs false
mutual
def laws_FnGroups.j0 : Nat → List Int → Int → List (S52) → List Int → Bool → List Int → Bool → Bool → Option (Bool)
  | 0, _, _, _, _, _, _, _, _ => none
  | k + 1, x1, x5, x6, x7, x8, x11, x12, x94 => if x94 = true then (some false) else (if x8 = true then (laws_FnGroups.l0 k x1 x5 x6 x7 x11 x12 0 0 x7 (x7.length : Int) 0) else ((spec_DrawIsOneGroup.f k x1).bind fun bt588 => ((impl_IsOneGroup.f k bt588.1 bt588.2).bind fun bt592 => ((spec_IsOneGroup.f k bt588.1 bt588.2).bind fun bt594 => (if (bt592.2 == bt594.2) = true then (some (bt592.1 == bt594.1)) else (some false))))))
def laws_FnGroups.l0 : Nat → List Int → Int → List (S52) → List Int → List Int → Bool → Int → Int → List Int → Int → Int → Option (Bool)
  | 0, _, _, _, _, _, _, _, _, _, _, _ => none
  | k + 1, x1, x5, x6, x7, x11, x12, x15, x16, x96, x97, x98 => if x98 < x97 then (if 0 ≤ x98 then (if x98 < (x96.length : Int) then (if x98 < (x11.length : Int) then (if (rd x96 x98) = x98 then (if (rd x96 x98) > x98 then (some false) else (if 0 ≤ (rd x96 x98) then (if (rd x96 x98) < (x7.length : Int) then (if (rd x7 (rd x96 x98)) = (rd x96 x98) then (laws_FnGroups.l0 k x1 x5 x6 x7 x11 x12 (wrap64 (x15 + (rd x11 x98))) (wrap64 (x16 + 1)) x96 x97 (wrap64 (x98 + 1))) else (some false)) else (none)) else (none))) else (if (rd x96 x98) > x98 then (some false) else (if 0 ≤ (rd x96 x98) then (if (rd x96 x98) < (x7.length : Int) then (if (rd x7 (rd x96 x98)) = (rd x96 x98) then (laws_FnGroups.l0 k x1 x5 x6 x7 x11 x12 (wrap64 (x15 + (rd x11 x98))) x16 x96 x97 (wrap64 (x98 + 1))) else (some false)) else (none)) else (none)))) else (none)) else (none)) else (none)) else (laws_FnGroups.l1 k x1 x5 x6 x7 x12 x15 x16 x6 (x6.length : Int) 0)
def laws_FnGroups.l1 : Nat → List Int → Int → List (S52) → List Int → Bool → Int → Int → List (S52) → Int → Int → Option (Bool)
  | 0, _, _, _, _, _, _, _, _, _, _ => none
  | k + 1, x1, x5, x6, x7, x12, x15, x16, x126, x127, x128 => if x128 < x127 then (if 0 ≤ x128 then (if x128 < (x126.length : Int) then (if 0 ≤ ((rd_T52 x126 x128).f0) then (if ((rd_T52 x126 x128).f0) < (x7.length : Int) then (if 0 ≤ ((rd_T52 x126 x128).f1) then (if ((rd_T52 x126 x128).f1) < (x7.length : Int) then (if (rd x7 ((rd_T52 x126 x128).f0)) = (rd x7 ((rd_T52 x126 x128).f1)) then (laws_FnGroups.l1 k x1 x5 x6 x7 x12 x15 x16 x126 x127 (wrap64 (x128 + 1))) else (some false)) else (none)) else (none)) else (none)) else (none)) else (none)) else (none)) else (laws_FnGroups.l2 k x1 x5 x6 x12 x15 x16 0 (x6.length : Int) 0)
def laws_FnGroups.l2 : Nat → List Int → Int → List (S52) → Bool → Int → Int → Int → Int → Int → Option (Bool)
  | 0, _, _, _, _, _, _, _, _, _ => none
  | k + 1, x1, x5, x6, x12, x15, x16, x21, x145, x146 => if x146 < x145 then (if 0 ≤ x146 then (if x146 ≤ (x6.length : Int) then ((impl_GroupsOf.f k x5 (x6.take (x146 : Int).toNat)).bind fun bt570 => (if bt570.2 = true then (if x146 < (x6.length : Int) then (if 0 ≤ ((rd_T52 x6 x146).f0) then (if ((rd_T52 x6 x146).f0) < (bt570.1.length : Int) then (if 0 ≤ ((rd_T52 x6 x146).f1) then (if ((rd_T52 x6 x146).f1) < (bt570.1.length : Int) then (if (rd bt570.1 ((rd_T52 x6 x146).f0)) = (rd bt570.1 ((rd_T52 x6 x146).f1)) then (laws_FnGroups.l2 k x1 x5 x6 x12 x15 x16 x21 x145 (wrap64 (x146 + 1))) else (laws_FnGroups.l2 k x1 x5 x6 x12 x15 x16 (wrap64 (x21 + 1)) x145 (wrap64 (x146 + 1)))) else (none)) else (none)) else (none)) else (none)) else (none)) else (some false))) else (none)) else (none)) else ((impl_IsOneGroup.f k x5 x6).bind fun bt578 => (if x12 = true then (if x15 = (wrap64 (2 * (x6.length : Int))) then (if x16 = (wrap64 (x5 - x21)) then (if bt578.2 = true then (laws_FnGroups.j4 k x1 (bt578.1 != (x16 == 1))) else (laws_FnGroups.j4 k x1 true)) else (laws_FnGroups.j4 k x1 true)) else (laws_FnGroups.j4 k x1 true)) else (laws_FnGroups.j4 k x1 true)))
def laws_FnGroups.j4 : Nat → List Int → Bool → Option (Bool)
  | 0, _, _ => none
  | k + 1, x1, x210 => if x210 = true then (some false) else ((spec_DrawIsOneGroup.f k x1).bind fun bt580 => ((impl_IsOneGroup.f k bt580.1 bt580.2).bind fun bt584 => ((spec_IsOneGroup.f k bt580.1 bt580.2).bind fun bt586 => (if (bt584.2 == bt586.2) = true then (some (bt584.1 == bt586.1)) else (some false)))))
end
def laws_FnGroups.f (k : Nat) (l0 : List Int) (l1 : List Int) : Option (Bool) := if (wrap64 ((l0.length : Int) + (l1.length : Int))) > 1048576 then (some true) else ((spec_DrawGroupsOf.f k l0).bind fun bt535 => ((impl_GroupsOf.f k bt535.1 bt535.2).bind fun bt539 => ((spec_GroupsOf.f k bt535.1 bt535.2).bind fun bt543 => ((impl_DegreesOf.f k bt535.1 bt535.2).bind fun bt547 => ((spec_DegreesOf.f k bt535.1 bt535.2).bind fun bt551 => (if (bt539.2 != bt543.2) = true then (laws_FnGroups.j0 k l1 bt535.1 bt535.2 bt539.1 bt539.2 bt547.1 bt547.2 true) else ((laws_sameInts.f k bt539.1 bt543.1).bind fun t555 => (if t555 = true then (if (bt547.2 != bt551.2) = true then (laws_FnGroups.j0 k l1 bt535.1 bt535.2 bt539.1 bt539.2 bt547.1 bt547.2 true) else ((laws_sameInts.f k bt547.1 bt551.1).bind fun t556 => (if t556 = true then ((impl_GoodEdges.f k bt535.1 bt535.2).bind fun t557 => (laws_FnGroups.j0 k l1 bt535.1 bt535.2 bt539.1 bt539.2 bt547.1 bt547.2 (t557 != bt539.2))) else (laws_FnGroups.j0 k l1 bt535.1 bt535.2 bt539.1 bt539.2 bt547.1 bt547.2 true)))) else (laws_FnGroups.j0 k l1 bt535.1 bt535.2 bt539.1 bt539.2 bt547.1 bt547.2 true)))))))))
set_option maxHeartbeats 8000000 in
set_option maxRecDepth 100000 in
theorem laws_FnGroups.calls (k : Nat) (A0 : Option Addr) (c0 : Nat) (l0 : List Int) (A1 : Option Addr) (c1 : Nat) (l1 : List Int) (r : Bool) (w : World) (hr0 : Kd.C (Kd.int .u8) w A0 l0.length l0) (hc0 : l0.length ≤ c0) (hr1 : Kd.C (Kd.int .u8) w A1 l1.length l1) (hc1 : l1.length ≤ c1) (h : laws_FnGroups.f k l0 l1 = some r) :
    Calls Try.prog 8 #[.slice A0 l0.length c0, .slice A1 l1.length c1] w fun e w' => e = .returned (.bool r) ∧ Below w.heap.size w w' := by
  have hu52 := Try.underlying52
  have HR0 := Aside0.mk hr0
  have HC0 := Aside0.mk hc0
  clear hr0 hc0
  have HR1 := Aside0.mk hr1
  have HC1 := Aside0.mk hc1
  clear hr1 hc1
  have HB := Aside0.mk (Below.refl w.heap.size w)
  have H : (if (wrap64 ((l0.length : Int) + (l1.length : Int))) > 1048576 then (some true) else ((spec_DrawGroupsOf.f k l0).bind fun bt535 => ((impl_GroupsOf.f k bt535.1 bt535.2).bind fun bt539 => ((spec_GroupsOf.f k bt535.1 bt535.2).bind fun bt543 => ((impl_DegreesOf.f k bt535.1 bt535.2).bind fun bt547 => ((spec_DegreesOf.f k bt535.1 bt535.2).bind fun bt551 => (if (bt539.2 != bt543.2) = true then (laws_FnGroups.j0 k l1 bt535.1 bt535.2 bt539.1 bt539.2 bt547.1 bt547.2 true) else ((laws_sameInts.f k bt539.1 bt543.1).bind fun t555 => (if t555 = true then (if (bt547.2 != bt551.2) = true then (laws_FnGroups.j0 k l1 bt535.1 bt535.2 bt539.1 bt539.2 bt547.1 bt547.2 true) else ((laws_sameInts.f k bt547.1 bt551.1).bind fun t556 => (if t556 = true then ((impl_GoodEdges.f k bt535.1 bt535.2).bind fun t557 => (laws_FnGroups.j0 k l1 bt535.1 bt535.2 bt539.1 bt539.2 bt547.1 bt547.2 (t557 != bt539.2))) else (laws_FnGroups.j0 k l1 bt535.1 bt535.2 bt539.1 bt539.2 bt547.1 bt547.2 true)))) else (laws_FnGroups.j0 k l1 bt535.1 bt535.2 bt539.1 bt539.2 bt547.1 bt547.2 true)))))))))) = some r := h
  clear h
  by_cases c3 : (wrap64 ((l0.length : Int) + (l1.length : Int))) > 1048576
  · rw [if_pos c3] at H
    have c3b0 : decide (1048576 < (wrap64 ((l0.length : Int) + (l1.length : Int)))) = true := decide_eq_true c3
    clear c3
    as_aux_lemma =>
      obtain rfl := Option.some.inj H
      go_enter Try.func8, Try.ntmps8
      go_wp2
      repeat (go_quiet (fail); try go_wp2)
      go_ret
      exact ⟨by first | rfl | (simp [errW_none, errW_some] <;> rfl) | (simp [*, errW_none, errW_some] <;> rfl), by repeat (first | (with_reducible first | exact HB.out | apply below_alloc | apply pw_below_drewN | apply below_drew1) | exact HB.out)⟩
  · rw [if_neg c3] at H
    have c3b0 : decide (1048576 < (wrap64 ((l0.length : Int) + (l1.length : Int)))) = false := decide_eq_false c3
    clear c3
    replace H := Option.bind_eq_some_iff.mp H
    obtain ⟨⟨t535, t536⟩, A40, H⟩ := H
    replace H : ((impl_GroupsOf.f k t535 t536).bind fun bt539 => ((spec_GroupsOf.f k t535 t536).bind fun bt543 => ((impl_DegreesOf.f k t535 t536).bind fun bt547 => ((spec_DegreesOf.f k t535 t536).bind fun bt551 => (if (bt539.2 != bt543.2) = true then (laws_FnGroups.j0 k l1 t535 t536 bt539.1 bt539.2 bt547.1 bt547.2 true) else ((laws_sameInts.f k bt539.1 bt543.1).bind fun t555 => (if t555 = true then (if (bt547.2 != bt551.2) = true then (laws_FnGroups.j0 k l1 t535 t536 bt539.1 bt539.2 bt547.1 bt547.2 true) else ((laws_sameInts.f k bt547.1 bt551.1).bind fun t556 => (if t556 = true then ((impl_GoodEdges.f k t535 t536).bind fun t557 => (laws_FnGroups.j0 k l1 t535 t536 bt539.1 bt539.2 bt547.1 bt547.2 (t557 != bt539.2))) else (laws_FnGroups.j0 k l1 t535 t536 bt539.1 bt539.2 bt547.1 bt547.2 true)))) else (laws_FnGroups.j0 k l1 t535 t536 bt539.1 bt539.2 bt547.1 bt547.2 true)))))))) = some r := H
    have A4 := Aside0.mk A40
    clear A40
    replace H := Option.bind_eq_some_iff.mp H
    obtain ⟨⟨t539, t540⟩, A50, H⟩ := H
    replace H : ((spec_GroupsOf.f k t535 t536).bind fun bt543 => ((impl_DegreesOf.f k t535 t536).bind fun bt547 => ((spec_DegreesOf.f k t535 t536).bind fun bt551 => (if (t540 != bt543.2) = true then (laws_FnGroups.j0 k l1 t535 t536 t539 t540 bt547.1 bt547.2 true) else ((laws_sameInts.f k t539 bt543.1).bind fun t555 => (if t555 = true then (if (bt547.2 != bt551.2) = true then (laws_FnGroups.j0 k l1 t535 t536 t539 t540 bt547.1 bt547.2 true) else ((laws_sameInts.f k bt547.1 bt551.1).bind fun t556 => (if t556 = true then ((impl_GoodEdges.f k t535 t536).bind fun t557 => (laws_FnGroups.j0 k l1 t535 t536 t539 t540 bt547.1 bt547.2 (t557 != t540))) else (laws_FnGroups.j0 k l1 t535 t536 t539 t540 bt547.1 bt547.2 true)))) else (laws_FnGroups.j0 k l1 t535 t536 t539 t540 bt547.1 bt547.2 true))))))) = some r := H
    have A5 := Aside0.mk A50
    clear A50
    replace H := Option.bind_eq_some_iff.mp H
    obtain ⟨⟨t543, t544⟩, A60, H⟩ := H
    replace H : ((impl_DegreesOf.f k t535 t536).bind fun bt547 => ((spec_DegreesOf.f k t535 t536).bind fun bt551 => (if (t540 != t544) = true then (laws_FnGroups.j0 k l1 t535 t536 t539 t540 bt547.1 bt547.2 true) else ((laws_sameInts.f k t539 t543).bind fun t555 => (if t555 = true then (if (bt547.2 != bt551.2) = true then (laws_FnGroups.j0 k l1 t535 t536 t539 t540 bt547.1 bt547.2 true) else ((laws_sameInts.f k bt547.1 bt551.1).bind fun t556 => (if t556 = true then ((impl_GoodEdges.f k t535 t536).bind fun t557 => (laws_FnGroups.j0 k l1 t535 t536 t539 t540 bt547.1 bt547.2 (t557 != t540))) else (laws_FnGroups.j0 k l1 t535 t536 t539 t540 bt547.1 bt547.2 true)))) else (laws_FnGroups.j0 k l1 t535 t536 t539 t540 bt547.1 bt547.2 true)))))) = some r := H
    have A6 := Aside0.mk A60
    clear A60
    replace H := Option.bind_eq_some_iff.mp H
    obtain ⟨⟨t547, t548⟩, A70, H⟩ := H
    replace H : ((spec_DegreesOf.f k t535 t536).bind fun bt551 => (if (t540 != t544) = true then (laws_FnGroups.j0 k l1 t535 t536 t539 t540 t547 t548 true) else ((laws_sameInts.f k t539 t543).bind fun t555 => (if t555 = true then (if (t548 != bt551.2) = true then (laws_FnGroups.j0 k l1 t535 t536 t539 t540 t547 t548 true) else ((laws_sameInts.f k t547 bt551.1).bind fun t556 => (if t556 = true then ((impl_GoodEdges.f k t535 t536).bind fun t557 => (laws_FnGroups.j0 k l1 t535 t536 t539 t540 t547 t548 (t557 != t540))) else (laws_FnGroups.j0 k l1 t535 t536 t539 t540 t547 t548 true)))) else (laws_FnGroups.j0 k l1 t535 t536 t539 t540 t547 t548 true))))) = some r := H
    have A7 := Aside0.mk A70
    clear A70
    replace H := Option.bind_eq_some_iff.mp H
    obtain ⟨⟨t551, t552⟩, A80, H⟩ := H
    replace H : (if (t540 != t544) = true then (laws_FnGroups.j0 k l1 t535 t536 t539 t540 t547 t548 true) else ((laws_sameInts.f k t539 t543).bind fun t555 => (if t555 = true then (if (t548 != t552) = true then (laws_FnGroups.j0 k l1 t535 t536 t539 t540 t547 t548 true) else ((laws_sameInts.f k t547 t551).bind fun t556 => (if t556 = true then ((impl_GoodEdges.f k t535 t536).bind fun t557 => (laws_FnGroups.j0 k l1 t535 t536 t539 t540 t547 t548 (t557 != t540))) else (laws_FnGroups.j0 k l1 t535 t536 t539 t540 t547 t548 true)))) else (laws_FnGroups.j0 k l1 t535 t536 t539 t540 t547 t548 true)))) = some r := H
    have A8 := Aside0.mk A80
    clear A80
    have HC9 := Aside0.mk H
    clear H
    go_enter Try.func8, Try.ntmps8
    go_upto_region 8 with (first | (go_at_call 32; (with_reducible refine (spec_DrawGroupsOf.calls k _ _ l0 t535 t536 _ ?side1 ?side2 A4.out).mono ?_); (case side1 => repeat (first | exact HR0.out | (with_reducible refine Kd.C_alloc ?_ _) | (with_reducible refine Kd.C_drewN ?_ _) | (with_reducible refine Kd.C_drew ?_))); (case side2 => exact HC0.out); rintro e w10 ⟨v537, rfl, ho0, hb⟩; have n0_ := Aside0.mk (Kd.R_lower ho0 (below_size (by repeat (first | (with_reducible first | exact HB.out | apply below_alloc | apply pw_below_drewN | apply below_drew1) | exact HB.out)))); have n1_ := Aside0.mk (below_step (by repeat (first | (with_reducible first | exact HB.out | apply below_alloc | apply pw_below_drewN | apply below_drew1) | exact HB.out)) hb); clear HB; have HO538 := n0_; have HB := n1_; clear n0_ n1_; (try clear hb); (try clear hb2); (try clear hk); (try clear hi); (try clear ho0); obtain ⟨Ao11, co11, eo11⟩ := Kd.R_slice HO538.out; subst eo11) | (go_at_call 16; (with_reducible refine (impl_GroupsOf.calls k t535 _ _ t536 t539 t540 _ ?side1 ?side2 A5.out).mono ?_); (case side1 => repeat (first | exact (Kd.R_reads' HO538.out).2.2 | (with_reducible refine Kd.C_alloc ?_ _) | (with_reducible refine Kd.C_drewN ?_ _) | (with_reducible refine Kd.C_drew ?_))); (case side2 => exact (Kd.R_reads' HO538.out).2.1); rintro e w12 ⟨v541, rfl, ho0, hb⟩; have n0_ := Aside0.mk (Kd.R_below (by (with_reducible repeat (first | apply Kd.R_alloc | apply Kd.R_drewN | apply Kd.R_drew)); exact HO538.out) hb); have n1_ := Aside0.mk (Kd.R_lower ho0 (below_size (by repeat (first | (with_reducible first | exact HB.out | apply below_alloc | apply pw_below_drewN | apply below_drew1) | exact HB.out)))); have n2_ := Aside0.mk (below_step (by repeat (first | (with_reducible first | exact HB.out | apply below_alloc | apply pw_below_drewN | apply below_drew1) | exact HB.out)) hb); clear HO538; clear HB; have HO538 := n0_; have HO542 := n1_; have HB := n2_; clear n0_ n1_ n2_; (try clear hb); (try clear hb2); (try clear hk); (try clear hi); (try clear ho0)) | (go_at_call 15; (with_reducible refine (spec_GroupsOf.calls k t535 _ _ t536 t543 t544 _ ?side1 ?side2 A6.out).mono ?_); (case side1 => repeat (first | exact (Kd.R_reads' HO538.out).2.2 | (with_reducible refine Kd.C_alloc ?_ _) | (with_reducible refine Kd.C_drewN ?_ _) | (with_reducible refine Kd.C_drew ?_))); (case side2 => exact (Kd.R_reads' HO538.out).2.1); rintro e w13 ⟨v545, rfl, ho0, hb⟩; have n0_ := Aside0.mk (Kd.R_below (by (with_reducible repeat (first | apply Kd.R_alloc | apply Kd.R_drewN | apply Kd.R_drew)); exact HO538.out) hb); have n1_ := Aside0.mk (Kd.R_elder' (by (with_reducible repeat (first | apply Kd.R_alloc | apply Kd.R_drewN | apply Kd.R_drew)); exact HO542.out) (Kd.R_base ho0) hb); have n2_ := Aside0.mk (Kd.R_lower (Kd.R_new' ho0 (Kd.R_lt (by (with_reducible repeat (first | apply Kd.R_alloc | apply Kd.R_drewN | apply Kd.R_drew)); exact HO542.out))) (below_size (by repeat (first | (with_reducible first | exact HB.out | apply below_alloc | apply pw_below_drewN | apply below_drew1) | exact HB.out)))); have n3_ := Aside0.mk (below_step (by repeat (first | (with_reducible first | exact HB.out | apply below_alloc | apply pw_below_drewN | apply below_drew1) | exact HB.out)) hb); clear HO538; clear HO542; clear HB; have HO538 := n0_; have HO542 := n1_; have HO546 := n2_; have HB := n3_; clear n0_ n1_ n2_ n3_; (try clear hb); (try clear hb2); (try clear hk); (try clear hi); (try clear ho0)) | (go_at_call 29; (with_reducible refine (impl_DegreesOf.calls k t535 _ _ t536 t547 t548 _ ?side1 ?side2 A7.out).mono ?_); (case side1 => repeat (first | exact (Kd.R_reads' HO538.out).2.2 | (with_reducible refine Kd.C_alloc ?_ _) | (with_reducible refine Kd.C_drewN ?_ _) | (with_reducible refine Kd.C_drew ?_))); (case side2 => exact (Kd.R_reads' HO538.out).2.1); rintro e w14 ⟨v549, rfl, ho0, hb⟩; have n0_ := Aside0.mk (Kd.R_below (by (with_reducible repeat (first | apply Kd.R_alloc | apply Kd.R_drewN | apply Kd.R_drew)); exact HO538.out) hb); have n1_ := Aside0.mk (Kd.R_elder' (by (with_reducible repeat (first | apply Kd.R_alloc | apply Kd.R_drewN | apply Kd.R_drew)); exact HO542.out) (Kd.R_base ho0) hb); have n2_ := Aside0.mk (Kd.R_elder' (by (with_reducible repeat (first | apply Kd.R_alloc | apply Kd.R_drewN | apply Kd.R_drew)); exact HO546.out) (Kd.R_base ho0) hb); have n3_ := Aside0.mk (Kd.R_lower (Kd.R_new' (Kd.R_new' ho0 (Kd.R_lt (by (with_reducible repeat (first | apply Kd.R_alloc | apply Kd.R_drewN | apply Kd.R_drew)); exact HO542.out))) (Kd.R_lt (by (with_reducible repeat (first | apply Kd.R_alloc | apply Kd.R_drewN | apply Kd.R_drew)); exact HO546.out))) (below_size (by repeat (first | (with_reducible first | exact HB.out | apply below_alloc | apply pw_below_drewN | apply below_drew1) | exact HB.out)))); have n4_ := Aside0.mk (below_step (by repeat (first | (with_reducible first | exact HB.out | apply below_alloc | apply pw_below_drewN | apply below_drew1) | exact HB.out)) hb); clear HO538; clear HO542; clear HO546; clear HB; have HO538 := n0_; have HO542 := n1_; have HO546 := n2_; have HO550 := n3_; have HB := n4_; clear n0_ n1_ n2_ n3_ n4_; (try clear hb); (try clear hb2); (try clear hk); (try clear hi); (try clear ho0)) | (go_at_call 28; (with_reducible refine (spec_DegreesOf.calls k t535 _ _ t536 t551 t552 _ ?side1 ?side2 A8.out).mono ?_); (case side1 => repeat (first | exact (Kd.R_reads' HO538.out).2.2 | (with_reducible refine Kd.C_alloc ?_ _) | (with_reducible refine Kd.C_drewN ?_ _) | (with_reducible refine Kd.C_drew ?_))); (case side2 => exact (Kd.R_reads' HO538.out).2.1); rintro e w15 ⟨v553, rfl, ho0, hb⟩; have n0_ := Aside0.mk (Kd.R_below (by (with_reducible repeat (first | apply Kd.R_alloc | apply Kd.R_drewN | apply Kd.R_drew)); exact HO538.out) hb); have n1_ := Aside0.mk (Kd.R_elder' (by (with_reducible repeat (first | apply Kd.R_alloc | apply Kd.R_drewN | apply Kd.R_drew)); exact HO542.out) (Kd.R_base ho0) hb); have n2_ := Aside0.mk (Kd.R_elder' (by (with_reducible repeat (first | apply Kd.R_alloc | apply Kd.R_drewN | apply Kd.R_drew)); exact HO546.out) (Kd.R_base ho0) hb); have n3_ := Aside0.mk (Kd.R_elder' (by (with_reducible repeat (first | apply Kd.R_alloc | apply Kd.R_drewN | apply Kd.R_drew)); exact HO550.out) (Kd.R_base ho0) hb); have n4_ := Aside0.mk (Kd.R_lower (Kd.R_new' (Kd.R_new' (Kd.R_new' ho0 (Kd.R_lt (by (with_reducible repeat (first | apply Kd.R_alloc | apply Kd.R_drewN | apply Kd.R_drew)); exact HO542.out))) (Kd.R_lt (by (with_reducible repeat (first | apply Kd.R_alloc | apply Kd.R_drewN | apply Kd.R_drew)); exact HO546.out))) (Kd.R_lt (by (with_reducible repeat (first | apply Kd.R_alloc | apply Kd.R_drewN | apply Kd.R_drew)); exact HO550.out))) (below_size (by repeat (first | (with_reducible first | exact HB.out | apply below_alloc | apply pw_below_drewN | apply below_drew1) | exact HB.out)))); have n5_ := Aside0.mk (below_step (by repeat (first | (with_reducible first | exact HB.out | apply below_alloc | apply pw_below_drewN | apply below_drew1) | exact HB.out)) hb); clear HO538; clear HO542; clear HO546; clear HO550; clear HB; have HO538 := n0_; have HO542 := n1_; have HO546 := n2_; have HO550 := n3_; have HO554 := n4_; have HB := n5_; clear n0_ n1_ n2_ n3_ n4_ n5_; (try clear hb); (try clear hb2); (try clear hk); (try clear hi); (try clear ho0)))
    repeat (go_quiet (first | (go_at_call 32; (with_reducible refine (spec_DrawGroupsOf.calls k _ _ l0 t535 t536 _ ?side1 ?side2 A4.out).mono ?_); (case side1 => repeat (first | exact HR0.out | (with_reducible refine Kd.C_alloc ?_ _) | (with_reducible refine Kd.C_drewN ?_ _) | (with_reducible refine Kd.C_drew ?_))); (case side2 => exact HC0.out); rintro e w10 ⟨v537, rfl, ho0, hb⟩; have n0_ := Aside0.mk (Kd.R_lower ho0 (below_size (by repeat (first | (with_reducible first | exact HB.out | apply below_alloc | apply pw_below_drewN | apply below_drew1) | exact HB.out)))); have n1_ := Aside0.mk (below_step (by repeat (first | (with_reducible first | exact HB.out | apply below_alloc | apply pw_below_drewN | apply below_drew1) | exact HB.out)) hb); clear HB; have HO538 := n0_; have HB := n1_; clear n0_ n1_; (try clear hb); (try clear hb2); (try clear hk); (try clear hi); (try clear ho0); obtain ⟨Ao11, co11, eo11⟩ := Kd.R_slice HO538.out; subst eo11) | (go_at_call 16; (with_reducible refine (impl_GroupsOf.calls k t535 _ _ t536 t539 t540 _ ?side1 ?side2 A5.out).mono ?_); (case side1 => repeat (first | exact (Kd.R_reads' HO538.out).2.2 | (with_reducible refine Kd.C_alloc ?_ _) | (with_reducible refine Kd.C_drewN ?_ _) | (with_reducible refine Kd.C_drew ?_))); (case side2 => exact (Kd.R_reads' HO538.out).2.1); rintro e w12 ⟨v541, rfl, ho0, hb⟩; have n0_ := Aside0.mk (Kd.R_below (by (with_reducible repeat (first | apply Kd.R_alloc | apply Kd.R_drewN | apply Kd.R_drew)); exact HO538.out) hb); have n1_ := Aside0.mk (Kd.R_lower ho0 (below_size (by repeat (first | (with_reducible first | exact HB.out | apply below_alloc | apply pw_below_drewN | apply below_drew1) | exact HB.out)))); have n2_ := Aside0.mk (below_step (by repeat (first | (with_reducible first | exact HB.out | apply below_alloc | apply pw_below_drewN | apply below_drew1) | exact HB.out)) hb); clear HO538; clear HB; have HO538 := n0_; have HO542 := n1_; have HB := n2_; clear n0_ n1_ n2_; (try clear hb); (try clear hb2); (try clear hk); (try clear hi); (try clear ho0)) | (go_at_call 15; (with_reducible refine (spec_GroupsOf.calls k t535 _ _ t536 t543 t544 _ ?side1 ?side2 A6.out).mono ?_); (case side1 => repeat (first | exact (Kd.R_reads' HO538.out).2.2 | (with_reducible refine Kd.C_alloc ?_ _) | (with_reducible refine Kd.C_drewN ?_ _) | (with_reducible refine Kd.C_drew ?_))); (case side2 => exact (Kd.R_reads' HO538.out).2.1); rintro e w13 ⟨v545, rfl, ho0, hb⟩; have n0_ := Aside0.mk (Kd.R_below (by (with_reducible repeat (first | apply Kd.R_alloc | apply Kd.R_drewN | apply Kd.R_drew)); exact HO538.out) hb); have n1_ := Aside0.mk (Kd.R_elder' (by (with_reducible repeat (first | apply Kd.R_alloc | apply Kd.R_drewN | apply Kd.R_drew)); exact HO542.out) (Kd.R_base ho0) hb); have n2_ := Aside0.mk (Kd.R_lower (Kd.R_new' ho0 (Kd.R_lt (by (with_reducible repeat (first | apply Kd.R_alloc | apply Kd.R_drewN | apply Kd.R_drew)); exact HO542.out))) (below_size (by repeat (first | (with_reducible first | exact HB.out | apply below_alloc | apply pw_below_drewN | apply below_drew1) | exact HB.out)))); have n3_ := Aside0.mk (below_step (by repeat (first | (with_reducible first | exact HB.out | apply below_alloc | apply pw_below_drewN | apply below_drew1) | exact HB.out)) hb); clear HO538; clear HO542; clear HB; have HO538 := n0_; have HO542 := n1_; have HO546 := n2_; have HB := n3_; clear n0_ n1_ n2_ n3_; (try clear hb); (try clear hb2); (try clear hk); (try clear hi); (try clear ho0)) | (go_at_call 29; (with_reducible refine (impl_DegreesOf.calls k t535 _ _ t536 t547 t548 _ ?side1 ?side2 A7.out).mono ?_); (case side1 => repeat (first | exact (Kd.R_reads' HO538.out).2.2 | (with_reducible refine Kd.C_alloc ?_ _) | (with_reducible refine Kd.C_drewN ?_ _) | (with_reducible refine Kd.C_drew ?_))); (case side2 => exact (Kd.R_reads' HO538.out).2.1); rintro e w14 ⟨v549, rfl, ho0, hb⟩; have n0_ := Aside0.mk (Kd.R_below (by (with_reducible repeat (first | apply Kd.R_alloc | apply Kd.R_drewN | apply Kd.R_drew)); exact HO538.out) hb); have n1_ := Aside0.mk (Kd.R_elder' (by (with_reducible repeat (first | apply Kd.R_alloc | apply Kd.R_drewN | apply Kd.R_drew)); exact HO542.out) (Kd.R_base ho0) hb); have n2_ := Aside0.mk (Kd.R_elder' (by (with_reducible repeat (first | apply Kd.R_alloc | apply Kd.R_drewN | apply Kd.R_drew)); exact HO546.out) (Kd.R_base ho0) hb); have n3_ := Aside0.mk (Kd.R_lower (Kd.R_new' (Kd.R_new' ho0 (Kd.R_lt (by (with_reducible repeat (first | apply Kd.R_alloc | apply Kd.R_drewN | apply Kd.R_drew)); exact HO542.out))) (Kd.R_lt (by (with_reducible repeat (first | apply Kd.R_alloc | apply Kd.R_drewN | apply Kd.R_drew)); exact HO546.out))) (below_size (by repeat (first | (with_reducible first | exact HB.out | apply below_alloc | apply pw_below_drewN | apply below_drew1) | exact HB.out)))); have n4_ := Aside0.mk (below_step (by repeat (first | (with_reducible first | exact HB.out | apply below_alloc | apply pw_below_drewN | apply below_drew1) | exact HB.out)) hb); clear HO538; clear HO542; clear HO546; clear HB; have HO538 := n0_; have HO542 := n1_; have HO546 := n2_; have HO550 := n3_; have HB := n4_; clear n0_ n1_ n2_ n3_ n4_; (try clear hb); (try clear hb2); (try clear hk); (try clear hi); (try clear ho0)) | (go_at_call 28; (with_reducible refine (spec_DegreesOf.calls k t535 _ _ t536 t551 t552 _ ?side1 ?side2 A8.out).mono ?_); (case side1 => repeat (first | exact (Kd.R_reads' HO538.out).2.2 | (with_reducible refine Kd.C_alloc ?_ _) | (with_reducible refine Kd.C_drewN ?_ _) | (with_reducible refine Kd.C_drew ?_))); (case side2 => exact (Kd.R_reads' HO538.out).2.1); rintro e w15 ⟨v553, rfl, ho0, hb⟩; have n0_ := Aside0.mk (Kd.R_below (by (with_reducible repeat (first | apply Kd.R_alloc | apply Kd.R_drewN | apply Kd.R_drew)); exact HO538.out) hb); have n1_ := Aside0.mk (Kd.R_elder' (by (with_reducible repeat (first | apply Kd.R_alloc | apply Kd.R_drewN | apply Kd.R_drew)); exact HO542.out) (Kd.R_base ho0) hb); have n2_ := Aside0.mk (Kd.R_elder' (by (with_reducible repeat (first | apply Kd.R_alloc | apply Kd.R_drewN | apply Kd.R_drew)); exact HO546.out) (Kd.R_base ho0) hb); have n3_ := Aside0.mk (Kd.R_elder' (by (with_reducible repeat (first | apply Kd.R_alloc | apply Kd.R_drewN | apply Kd.R_drew)); exact HO550.out) (Kd.R_base ho0) hb); have n4_ := Aside0.mk (Kd.R_lower (Kd.R_new' (Kd.R_new' (Kd.R_new' ho0 (Kd.R_lt (by (with_reducible repeat (first | apply Kd.R_alloc | apply Kd.R_drewN | apply Kd.R_drew)); exact HO542.out))) (Kd.R_lt (by (with_reducible repeat (first | apply Kd.R_alloc | apply Kd.R_drewN | apply Kd.R_drew)); exact HO546.out))) (Kd.R_lt (by (with_reducible repeat (first | apply Kd.R_alloc | apply Kd.R_drewN | apply Kd.R_drew)); exact HO550.out))) (below_size (by repeat (first | (with_reducible first | exact HB.out | apply below_alloc | apply pw_below_drewN | apply below_drew1) | exact HB.out)))); have n5_ := Aside0.mk (below_step (by repeat (first | (with_reducible first | exact HB.out | apply below_alloc | apply pw_below_drewN | apply below_drew1) | exact HB.out)) hb); clear HO538; clear HO542; clear HO546; clear HO550; clear HB; have HO538 := n0_; have HO542 := n1_; have HO546 := n2_; have HO550 := n3_; have HO554 := n4_; have HB := n5_; clear n0_ n1_ n2_ n3_ n4_ n5_; (try clear hb); (try clear hb2); (try clear hk); (try clear hi); (try clear ho0))); go_upto_region 8 with (first | (go_at_call 32; (with_reducible refine (spec_DrawGroupsOf.calls k _ _ l0 t535 t536 _ ?side1 ?side2 A4.out).mono ?_); (case side1 => repeat (first | exact HR0.out | (with_reducible refine Kd.C_alloc ?_ _) | (with_reducible refine Kd.C_drewN ?_ _) | (with_reducible refine Kd.C_drew ?_))); (case side2 => exact HC0.out); rintro e w10 ⟨v537, rfl, ho0, hb⟩; have n0_ := Aside0.mk (Kd.R_lower ho0 (below_size (by repeat (first | (with_reducible first | exact HB.out | apply below_alloc | apply pw_below_drewN | apply below_drew1) | exact HB.out)))); have n1_ := Aside0.mk (below_step (by repeat (first | (with_reducible first | exact HB.out | apply below_alloc | apply pw_below_drewN | apply below_drew1) | exact HB.out)) hb); clear HB; have HO538 := n0_; have HB := n1_; clear n0_ n1_; (try clear hb); (try clear hb2); (try clear hk); (try clear hi); (try clear ho0); obtain ⟨Ao11, co11, eo11⟩ := Kd.R_slice HO538.out; subst eo11) | (go_at_call 16; (with_reducible refine (impl_GroupsOf.calls k t535 _ _ t536 t539 t540 _ ?side1 ?side2 A5.out).mono ?_); (case side1 => repeat (first | exact (Kd.R_reads' HO538.out).2.2 | (with_reducible refine Kd.C_alloc ?_ _) | (with_reducible refine Kd.C_drewN ?_ _) | (with_reducible refine Kd.C_drew ?_))); (case side2 => exact (Kd.R_reads' HO538.out).2.1); rintro e w12 ⟨v541, rfl, ho0, hb⟩; have n0_ := Aside0.mk (Kd.R_below (by (with_reducible repeat (first | apply Kd.R_alloc | apply Kd.R_drewN | apply Kd.R_drew)); exact HO538.out) hb); have n1_ := Aside0.mk (Kd.R_lower ho0 (below_size (by repeat (first | (with_reducible first | exact HB.out | apply below_alloc | apply pw_below_drewN | apply below_drew1) | exact HB.out)))); have n2_ := Aside0.mk (below_step (by repeat (first | (with_reducible first | exact HB.out | apply below_alloc | apply pw_below_drewN | apply below_drew1) | exact HB.out)) hb); clear HO538; clear HB; have HO538 := n0_; have HO542 := n1_; have HB := n2_; clear n0_ n1_ n2_; (try clear hb); (try clear hb2); (try clear hk); (try clear hi); (try clear ho0)) | (go_at_call 15; (with_reducible refine (spec_GroupsOf.calls k t535 _ _ t536 t543 t544 _ ?side1 ?side2 A6.out).mono ?_); (case side1 => repeat (first | exact (Kd.R_reads' HO538.out).2.2 | (with_reducible refine Kd.C_alloc ?_ _) | (with_reducible refine Kd.C_drewN ?_ _) | (with_reducible refine Kd.C_drew ?_))); (case side2 => exact (Kd.R_reads' HO538.out).2.1); rintro e w13 ⟨v545, rfl, ho0, hb⟩; have n0_ := Aside0.mk (Kd.R_below (by (with_reducible repeat (first | apply Kd.R_alloc | apply Kd.R_drewN | apply Kd.R_drew)); exact HO538.out) hb); have n1_ := Aside0.mk (Kd.R_elder' (by (with_reducible repeat (first | apply Kd.R_alloc | apply Kd.R_drewN | apply Kd.R_drew)); exact HO542.out) (Kd.R_base ho0) hb); have n2_ := Aside0.mk (Kd.R_lower (Kd.R_new' ho0 (Kd.R_lt (by (with_reducible repeat (first | apply Kd.R_alloc | apply Kd.R_drewN | apply Kd.R_drew)); exact HO542.out))) (below_size (by repeat (first | (with_reducible first | exact HB.out | apply below_alloc | apply pw_below_drewN | apply below_drew1) | exact HB.out)))); have n3_ := Aside0.mk (below_step (by repeat (first | (with_reducible first | exact HB.out | apply below_alloc | apply pw_below_drewN | apply below_drew1) | exact HB.out)) hb); clear HO538; clear HO542; clear HB; have HO538 := n0_; have HO542 := n1_; have HO546 := n2_; have HB := n3_; clear n0_ n1_ n2_ n3_; (try clear hb); (try clear hb2); (try clear hk); (try clear hi); (try clear ho0)) | (go_at_call 29; (with_reducible refine (impl_DegreesOf.calls k t535 _ _ t536 t547 t548 _ ?side1 ?side2 A7.out).mono ?_); (case side1 => repeat (first | exact (Kd.R_reads' HO538.out).2.2 | (with_reducible refine Kd.C_alloc ?_ _) | (with_reducible refine Kd.C_drewN ?_ _) | (with_reducible refine Kd.C_drew ?_))); (case side2 => exact (Kd.R_reads' HO538.out).2.1); rintro e w14 ⟨v549, rfl, ho0, hb⟩; have n0_ := Aside0.mk (Kd.R_below (by (with_reducible repeat (first | apply Kd.R_alloc | apply Kd.R_drewN | apply Kd.R_drew)); exact HO538.out) hb); have n1_ := Aside0.mk (Kd.R_elder' (by (with_reducible repeat (first | apply Kd.R_alloc | apply Kd.R_drewN | apply Kd.R_drew)); exact HO542.out) (Kd.R_base ho0) hb); have n2_ := Aside0.mk (Kd.R_elder' (by (with_reducible repeat (first | apply Kd.R_alloc | apply Kd.R_drewN | apply Kd.R_drew)); exact HO546.out) (Kd.R_base ho0) hb); have n3_ := Aside0.mk (Kd.R_lower (Kd.R_new' (Kd.R_new' ho0 (Kd.R_lt (by (with_reducible repeat (first | apply Kd.R_alloc | apply Kd.R_drewN | apply Kd.R_drew)); exact HO542.out))) (Kd.R_lt (by (with_reducible repeat (first | apply Kd.R_alloc | apply Kd.R_drewN | apply Kd.R_drew)); exact HO546.out))) (below_size (by repeat (first | (with_reducible first | exact HB.out | apply below_alloc | apply pw_below_drewN | apply below_drew1) | exact HB.out)))); have n4_ := Aside0.mk (below_step (by repeat (first | (with_reducible first | exact HB.out | apply below_alloc | apply pw_below_drewN | apply below_drew1) | exact HB.out)) hb); clear HO538; clear HO542; clear HO546; clear HB; have HO538 := n0_; have HO542 := n1_; have HO546 := n2_; have HO550 := n3_; have HB := n4_; clear n0_ n1_ n2_ n3_ n4_; (try clear hb); (try clear hb2); (try clear hk); (try clear hi); (try clear ho0)) | (go_at_call 28; (with_reducible refine (spec_DegreesOf.calls k t535 _ _ t536 t551 t552 _ ?side1 ?side2 A8.out).mono ?_); (case side1 => repeat (first | exact (Kd.R_reads' HO538.out).2.2 | (with_reducible refine Kd.C_alloc ?_ _) | (with_reducible refine Kd.C_drewN ?_ _) | (with_reducible refine Kd.C_drew ?_))); (case side2 => exact (Kd.R_reads' HO538.out).2.1); rintro e w15 ⟨v553, rfl, ho0, hb⟩; have n0_ := Aside0.mk (Kd.R_below (by (with_reducible repeat (first | apply Kd.R_alloc | apply Kd.R_drewN | apply Kd.R_drew)); exact HO538.out) hb); have n1_ := Aside0.mk (Kd.R_elder' (by (with_reducible repeat (first | apply Kd.R_alloc | apply Kd.R_drewN | apply Kd.R_drew)); exact HO542.out) (Kd.R_base ho0) hb); have n2_ := Aside0.mk (Kd.R_elder' (by (with_reducible repeat (first | apply Kd.R_alloc | apply Kd.R_drewN | apply Kd.R_drew)); exact HO546.out) (Kd.R_base ho0) hb); have n3_ := Aside0.mk (Kd.R_elder' (by (with_reducible repeat (first | apply Kd.R_alloc | apply Kd.R_drewN | apply Kd.R_drew)); exact HO550.out) (Kd.R_base ho0) hb); have n4_ := Aside0.mk (Kd.R_lower (Kd.R_new' (Kd.R_new' (Kd.R_new' ho0 (Kd.R_lt (by (with_reducible repeat (first | apply Kd.R_alloc | apply Kd.R_drewN | apply Kd.R_drew)); exact HO542.out))) (Kd.R_lt (by (with_reducible repeat (first | apply Kd.R_alloc | apply Kd.R_drewN | apply Kd.R_drew)); exact HO546.out))) (Kd.R_lt (by (with_reducible repeat (first | apply Kd.R_alloc | apply Kd.R_drewN | apply Kd.R_drew)); exact HO550.out))) (below_size (by repeat (first | (with_reducible first | exact HB.out | apply below_alloc | apply pw_below_drewN | apply below_drew1) | exact HB.out)))); have n5_ := Aside0.mk (below_step (by repeat (first | (with_reducible first | exact HB.out | apply below_alloc | apply pw_below_drewN | apply below_drew1) | exact HB.out)) hb); clear HO538; clear HO542; clear HO546; clear HO550; clear HB; have HO538 := n0_; have HO542 := n1_; have HO546 := n2_; have HO550 := n3_; have HO554 := n4_; have HB := n5_; clear n0_ n1_ n2_ n3_ n4_ n5_; (try clear hb); (try clear hb2); (try clear hk); (try clear hi); (try clear ho0))))
    (try simp only [Act.put, List.setIfInBounds_toArray, List.set_cons_zero, List.set_cons_succ])
    go_cut [94] (fun v94 wc => ∃ (kq : Nat) (x94_8 : Bool), v94 = .bool x94_8 ∧ Aside0 (laws_FnGroups.j0 kq l1 t535 t536 t539 t540 t547 t548 x94_8 = some r) ∧ Aside0 (kq ≤ k) ∧ Aside0 (Kd.R k52 52 wc w.heap.size (fun _ => True) (.slice Ao11 t536.length co11) t536) ∧ Aside0 (Kd.R (Kd.int .i64) 3 wc w.heap.size (fun k_ => some k_ ≠ (v549 : Value).ownBlock) v541 t539) ∧ Aside0 (Kd.R (Kd.int .i64) 3 wc w.heap.size (fun k_ => some k_ ≠ (v541 : Value).ownBlock) v549 t547) ∧ Aside0 (Below w.heap.size w wc))
    case first =>
      have H := HC9.out
      clear HC9
      by_cases c16 : (t540 != t544) = true
      · rw [if_pos c16] at H
        have c16b0 : (t540 != t544) = true := c16
        (try (have c16b1 : decide (t540 = t544) = false := by simpa using c16))
        (try (have c16b2 : (t540 == t544) = false := by simpa using c16))
        (try (have c16b3 : ¬ (t540 = t544) := by simpa using c16))
        clear c16
        (first | rw [c16b0] | (simp only [i64_w, i32_w]; rw [c16b0]) | skip)
        as_aux_lemma =>
          have H' := Aside0.mk H
          clear H
          go_wp2
          repeat (go_quiet (fail); try go_wp2)
          go_meet
          case rel => exact ⟨_, (true), (by first | rfl | (simp; done) | (simp [*]; done)), H', ⟨by first | omega | exact Nat.le_refl _⟩, ⟨by (with_reducible repeat (first | apply Kd.R_alloc | apply Kd.R_drewN | apply Kd.R_drew)); exact HO538.out⟩, ⟨by (with_reducible repeat (first | apply Kd.R_alloc | apply Kd.R_drewN | apply Kd.R_drew)); exact Kd.R_mono HO542.out (fun _ hk => hk.1.2)⟩, ⟨by (with_reducible repeat (first | apply Kd.R_alloc | apply Kd.R_drewN | apply Kd.R_drew)); exact Kd.R_mono HO550.out (fun _ hk => hk.1.1.2)⟩, ⟨by repeat (first | (with_reducible first | exact HB.out | apply below_alloc | apply pw_below_drewN | apply below_drew1) | exact HB.out)⟩⟩
      · rw [if_neg c16] at H
        have c16b0 : (t540 != t544) = false := by simpa using c16
        (try (have c16b1 : decide (t540 = t544) = true := by simpa using c16))
        (try (have c16b2 : (t540 == t544) = true := by simpa using c16))
        clear c16
        (first | rw [c16b0] | (simp only [i64_w, i32_w]; rw [c16b0]) | skip)
        replace H := Option.bind_eq_some_iff.mp H
        obtain ⟨t555, A170, H⟩ := H
        replace H : (if t555 = true then (if (t548 != t552) = true then (laws_FnGroups.j0 k l1 t535 t536 t539 t540 t547 t548 true) else ((laws_sameInts.f k t547 t551).bind fun t556 => (if t556 = true then ((impl_GoodEdges.f k t535 t536).bind fun t557 => (laws_FnGroups.j0 k l1 t535 t536 t539 t540 t547 t548 (t557 != t540))) else (laws_FnGroups.j0 k l1 t535 t536 t539 t540 t547 t548 true)))) else (laws_FnGroups.j0 k l1 t535 t536 t539 t540 t547 t548 true)) = some r := H
        have A17 := Aside0.mk A170
        clear A170
        by_cases c18 : t555 = true
        · subst c18
          have H1 : (if (t548 != t552) = true then (laws_FnGroups.j0 k l1 t535 t536 t539 t540 t547 t548 true) else ((laws_sameInts.f k t547 t551).bind fun t556 => (if t556 = true then ((impl_GoodEdges.f k t535 t536).bind fun t557 => (laws_FnGroups.j0 k l1 t535 t536 t539 t540 t547 t548 (t557 != t540))) else (laws_FnGroups.j0 k l1 t535 t536 t539 t540 t547 t548 true)))) = some r := by rw [if_pos rfl] at H; exact H
          clear H
          have H := H1
          clear H1
          by_cases c19 : (t548 != t552) = true
          · rw [if_pos c19] at H
            have c19b0 : (t548 != t552) = true := c19
            (try (have c19b1 : decide (t548 = t552) = false := by simpa using c19))
            (try (have c19b2 : (t548 == t552) = false := by simpa using c19))
            (try (have c19b3 : ¬ (t548 = t552) := by simpa using c19))
            clear c19
            as_aux_lemma =>
              have H' := Aside0.mk H
              clear H
              obtain ⟨Ao20, co20, eo20⟩ := Kd.R_slice HO542.out
              subst eo20
              obtain ⟨Ao21, co21, eo21⟩ := Kd.R_slice HO546.out
              subst eo21
              go_wp2_with (first | (go_at_call 33; (with_reducible refine (laws_sameInts.calls k _ _ t539 _ _ t543 true _ ?side1 ?side2 ?side3 ?side4 A17.out).mono ?_); (case side1 => repeat (first | exact (Kd.R_reads' HO542.out).2.2 | (with_reducible refine Kd.C_alloc ?_ _) | (with_reducible refine Kd.C_drewN ?_ _) | (with_reducible refine Kd.C_drew ?_))); (case side2 => exact (Kd.R_reads' HO542.out).2.1); (case side3 => repeat (first | exact (Kd.R_reads' HO546.out).2.2 | (with_reducible refine Kd.C_alloc ?_ _) | (with_reducible refine Kd.C_drewN ?_ _) | (with_reducible refine Kd.C_drew ?_))); (case side4 => exact (Kd.R_reads' HO546.out).2.1); rintro e w' ⟨rfl, ⟨nd, rfl⟩⟩; (try first | exact ⟨rfl, _, World.drewN_drewN _ _ _⟩ | exact ⟨rfl, _, Eq.trans (World.drewN_drewN _ _ _) (congrArg (World.drewN _) (Nat.add_assoc _ _ _))⟩)))
              repeat (go_quiet (first | (go_at_call 33; (with_reducible refine (laws_sameInts.calls k _ _ t539 _ _ t543 true _ ?side1 ?side2 ?side3 ?side4 A17.out).mono ?_); (case side1 => repeat (first | exact (Kd.R_reads' HO542.out).2.2 | (with_reducible refine Kd.C_alloc ?_ _) | (with_reducible refine Kd.C_drewN ?_ _) | (with_reducible refine Kd.C_drew ?_))); (case side2 => exact (Kd.R_reads' HO542.out).2.1); (case side3 => repeat (first | exact (Kd.R_reads' HO546.out).2.2 | (with_reducible refine Kd.C_alloc ?_ _) | (with_reducible refine Kd.C_drewN ?_ _) | (with_reducible refine Kd.C_drew ?_))); (case side4 => exact (Kd.R_reads' HO546.out).2.1); rintro e w' ⟨rfl, ⟨nd, rfl⟩⟩; (try first | exact ⟨rfl, _, World.drewN_drewN _ _ _⟩ | exact ⟨rfl, _, Eq.trans (World.drewN_drewN _ _ _) (congrArg (World.drewN _) (Nat.add_assoc _ _ _))⟩))); try go_wp2_with (first | (go_at_call 33; (with_reducible refine (laws_sameInts.calls k _ _ t539 _ _ t543 true _ ?side1 ?side2 ?side3 ?side4 A17.out).mono ?_); (case side1 => repeat (first | exact (Kd.R_reads' HO542.out).2.2 | (with_reducible refine Kd.C_alloc ?_ _) | (with_reducible refine Kd.C_drewN ?_ _) | (with_reducible refine Kd.C_drew ?_))); (case side2 => exact (Kd.R_reads' HO542.out).2.1); (case side3 => repeat (first | exact (Kd.R_reads' HO546.out).2.2 | (with_reducible refine Kd.C_alloc ?_ _) | (with_reducible refine Kd.C_drewN ?_ _) | (with_reducible refine Kd.C_drew ?_))); (case side4 => exact (Kd.R_reads' HO546.out).2.1); rintro e w' ⟨rfl, ⟨nd, rfl⟩⟩; (try first | exact ⟨rfl, _, World.drewN_drewN _ _ _⟩ | exact ⟨rfl, _, Eq.trans (World.drewN_drewN _ _ _) (congrArg (World.drewN _) (Nat.add_assoc _ _ _))⟩))))
              go_meet
              case rel => exact ⟨_, (true), (by first | rfl | (simp; done) | (simp [*]; done)), H', ⟨by first | omega | exact Nat.le_refl _⟩, ⟨by (with_reducible repeat (first | apply Kd.R_alloc | apply Kd.R_drewN | apply Kd.R_drew)); exact HO538.out⟩, ⟨by (with_reducible repeat (first | apply Kd.R_alloc | apply Kd.R_drewN | apply Kd.R_drew)); exact Kd.R_mono HO542.out (fun _ hk => hk.1.2)⟩, ⟨by (with_reducible repeat (first | apply Kd.R_alloc | apply Kd.R_drewN | apply Kd.R_drew)); exact Kd.R_mono HO550.out (fun _ hk => hk.1.1.2)⟩, ⟨by repeat (first | (with_reducible first | exact HB.out | apply below_alloc | apply pw_below_drewN | apply below_drew1) | exact HB.out)⟩⟩
          · rw [if_neg c19] at H
            have c19b0 : (t548 != t552) = false := by simpa using c19
            (try (have c19b1 : decide (t548 = t552) = true := by simpa using c19))
            (try (have c19b2 : (t548 == t552) = true := by simpa using c19))
            clear c19
            replace H := Option.bind_eq_some_iff.mp H
            obtain ⟨t556, A220, H⟩ := H
            replace H : (if t556 = true then ((impl_GoodEdges.f k t535 t536).bind fun t557 => (laws_FnGroups.j0 k l1 t535 t536 t539 t540 t547 t548 (t557 != t540))) else (laws_FnGroups.j0 k l1 t535 t536 t539 t540 t547 t548 true)) = some r := H
            have A22 := Aside0.mk A220
            clear A220
            by_cases c23 : t556 = true
            · subst c23
              have H1 : ((impl_GoodEdges.f k t535 t536).bind fun t557 => (laws_FnGroups.j0 k l1 t535 t536 t539 t540 t547 t548 (t557 != t540))) = some r := by rw [if_pos rfl] at H; exact H
              clear H
              have H := H1
              clear H1
              replace H := Option.bind_eq_some_iff.mp H
              obtain ⟨t557, A240, H⟩ := H
              replace H : (laws_FnGroups.j0 k l1 t535 t536 t539 t540 t547 t548 (t557 != t540)) = some r := H
              have A24 := Aside0.mk A240
              clear A240
              as_aux_lemma =>
                have H' := Aside0.mk H
                clear H
                obtain ⟨Ao25, co25, eo25⟩ := Kd.R_slice HO542.out
                subst eo25
                obtain ⟨Ao26, co26, eo26⟩ := Kd.R_slice HO546.out
                subst eo26
                go_wp2_with (first | (go_at_call 33; (with_reducible refine (laws_sameInts.calls k _ _ t539 _ _ t543 true _ ?side1 ?side2 ?side3 ?side4 A17.out).mono ?_); (case side1 => repeat (first | exact (Kd.R_reads' HO542.out).2.2 | (with_reducible refine Kd.C_alloc ?_ _) | (with_reducible refine Kd.C_drewN ?_ _) | (with_reducible refine Kd.C_drew ?_))); (case side2 => exact (Kd.R_reads' HO542.out).2.1); (case side3 => repeat (first | exact (Kd.R_reads' HO546.out).2.2 | (with_reducible refine Kd.C_alloc ?_ _) | (with_reducible refine Kd.C_drewN ?_ _) | (with_reducible refine Kd.C_drew ?_))); (case side4 => exact (Kd.R_reads' HO546.out).2.1); rintro e w' ⟨rfl, ⟨nd, rfl⟩⟩; (try first | exact ⟨rfl, _, World.drewN_drewN _ _ _⟩ | exact ⟨rfl, _, Eq.trans (World.drewN_drewN _ _ _) (congrArg (World.drewN _) (Nat.add_assoc _ _ _))⟩); obtain ⟨Ao27, co27, eo27⟩ := Kd.R_slice HO550.out; subst eo27; obtain ⟨Ao28, co28, eo28⟩ := Kd.R_slice HO554.out; subst eo28) | (go_at_call 33; (with_reducible refine (laws_sameInts.calls k _ _ t547 _ _ t551 true _ ?side1 ?side2 ?side3 ?side4 A22.out).mono ?_); (case side1 => repeat (first | exact (Kd.R_reads' HO550.out).2.2 | (with_reducible refine Kd.C_alloc ?_ _) | (with_reducible refine Kd.C_drewN ?_ _) | (with_reducible refine Kd.C_drew ?_))); (case side2 => exact (Kd.R_reads' HO550.out).2.1); (case side3 => repeat (first | exact (Kd.R_reads' HO554.out).2.2 | (with_reducible refine Kd.C_alloc ?_ _) | (with_reducible refine Kd.C_drewN ?_ _) | (with_reducible refine Kd.C_drew ?_))); (case side4 => exact (Kd.R_reads' HO554.out).2.1); rintro e w' ⟨rfl, ⟨nd, rfl⟩⟩; (try first | exact ⟨rfl, _, World.drewN_drewN _ _ _⟩ | exact ⟨rfl, _, Eq.trans (World.drewN_drewN _ _ _) (congrArg (World.drewN _) (Nat.add_assoc _ _ _))⟩)) | (go_at_call 34; (with_reducible refine (impl_GoodEdges.calls k t535 _ _ t536 t557 _ ?side1 ?side2 A24.out).mono ?_); (case side1 => repeat (first | exact (Kd.R_reads' HO538.out).2.2 | (with_reducible refine Kd.C_alloc ?_ _) | (with_reducible refine Kd.C_drewN ?_ _) | (with_reducible refine Kd.C_drew ?_))); (case side2 => exact (Kd.R_reads' HO538.out).2.1); rintro e w29 ⟨rfl, hb⟩; have n0_ := Aside0.mk (Kd.R_below (by (with_reducible repeat (first | apply Kd.R_alloc | apply Kd.R_drewN | apply Kd.R_drew)); exact HO538.out) hb); have n1_ := Aside0.mk (Kd.R_below (by (with_reducible repeat (first | apply Kd.R_alloc | apply Kd.R_drewN | apply Kd.R_drew)); exact HO542.out) hb); have n2_ := Aside0.mk (Kd.R_below (by (with_reducible repeat (first | apply Kd.R_alloc | apply Kd.R_drewN | apply Kd.R_drew)); exact HO546.out) hb); have n3_ := Aside0.mk (Kd.R_below (by (with_reducible repeat (first | apply Kd.R_alloc | apply Kd.R_drewN | apply Kd.R_drew)); exact HO550.out) hb); have n4_ := Aside0.mk (Kd.R_below (by (with_reducible repeat (first | apply Kd.R_alloc | apply Kd.R_drewN | apply Kd.R_drew)); exact HO554.out) hb); have n5_ := Aside0.mk (below_step (by repeat (first | (with_reducible first | exact HB.out | apply below_alloc | apply pw_below_drewN | apply below_drew1) | exact HB.out)) hb); clear HO538; clear HO542; clear HO546; clear HO550; clear HO554; clear HB; have HO538 := n0_; have HO542 := n1_; have HO546 := n2_; have HO550 := n3_; have HO554 := n4_; have HB := n5_; clear n0_ n1_ n2_ n3_ n4_ n5_; (try clear hb); (try clear hb2); (try clear hk); (try clear hi)))
                repeat (go_quiet (first | (go_at_call 33; (with_reducible refine (laws_sameInts.calls k _ _ t539 _ _ t543 true _ ?side1 ?side2 ?side3 ?side4 A17.out).mono ?_); (case side1 => repeat (first | exact (Kd.R_reads' HO542.out).2.2 | (with_reducible refine Kd.C_alloc ?_ _) | (with_reducible refine Kd.C_drewN ?_ _) | (with_reducible refine Kd.C_drew ?_))); (case side2 => exact (Kd.R_reads' HO542.out).2.1); (case side3 => repeat (first | exact (Kd.R_reads' HO546.out).2.2 | (with_reducible refine Kd.C_alloc ?_ _) | (with_reducible refine Kd.C_drewN ?_ _) | (with_reducible refine Kd.C_drew ?_))); (case side4 => exact (Kd.R_reads' HO546.out).2.1); rintro e w' ⟨rfl, ⟨nd, rfl⟩⟩; (try first | exact ⟨rfl, _, World.drewN_drewN _ _ _⟩ | exact ⟨rfl, _, Eq.trans (World.drewN_drewN _ _ _) (congrArg (World.drewN _) (Nat.add_assoc _ _ _))⟩); obtain ⟨Ao27, co27, eo27⟩ := Kd.R_slice HO550.out; subst eo27; obtain ⟨Ao28, co28, eo28⟩ := Kd.R_slice HO554.out; subst eo28) | (go_at_call 33; (with_reducible refine (laws_sameInts.calls k _ _ t547 _ _ t551 true _ ?side1 ?side2 ?side3 ?side4 A22.out).mono ?_); (case side1 => repeat (first | exact (Kd.R_reads' HO550.out).2.2 | (with_reducible refine Kd.C_alloc ?_ _) | (with_reducible refine Kd.C_drewN ?_ _) | (with_reducible refine Kd.C_drew ?_))); (case side2 => exact (Kd.R_reads' HO550.out).2.1); (case side3 => repeat (first | exact (Kd.R_reads' HO554.out).2.2 | (with_reducible refine Kd.C_alloc ?_ _) | (with_reducible refine Kd.C_drewN ?_ _) | (with_reducible refine Kd.C_drew ?_))); (case side4 => exact (Kd.R_reads' HO554.out).2.1); rintro e w' ⟨rfl, ⟨nd, rfl⟩⟩; (try first | exact ⟨rfl, _, World.drewN_drewN _ _ _⟩ | exact ⟨rfl, _, Eq.trans (World.drewN_drewN _ _ _) (congrArg (World.drewN _) (Nat.add_assoc _ _ _))⟩)) | (go_at_call 34; (with_reducible refine (impl_GoodEdges.calls k t535 _ _ t536 t557 _ ?side1 ?side2 A24.out).mono ?_); (case side1 => repeat (first | exact (Kd.R_reads' HO538.out).2.2 | (with_reducible refine Kd.C_alloc ?_ _) | (with_reducible refine Kd.C_drewN ?_ _) | (with_reducible refine Kd.C_drew ?_))); (case side2 => exact (Kd.R_reads' HO538.out).2.1); rintro e w29 ⟨rfl, hb⟩; have n0_ := Aside0.mk (Kd.R_below (by (with_reducible repeat (first | apply Kd.R_alloc | apply Kd.R_drewN | apply Kd.R_drew)); exact HO538.out) hb); have n1_ := Aside0.mk (Kd.R_below (by (with_reducible repeat (first | apply Kd.R_alloc | apply Kd.R_drewN | apply Kd.R_drew)); exact HO542.out) hb); have n2_ := Aside0.mk (Kd.R_below (by (with_reducible repeat (first | apply Kd.R_alloc | apply Kd.R_drewN | apply Kd.R_drew)); exact HO546.out) hb); have n3_ := Aside0.mk (Kd.R_below (by (with_reducible repeat (first | apply Kd.R_alloc | apply Kd.R_drewN | apply Kd.R_drew)); exact HO550.out) hb); have n4_ := Aside0.mk (Kd.R_below (by (with_reducible repeat (first | apply Kd.R_alloc | apply Kd.R_drewN | apply Kd.R_drew)); exact HO554.out) hb); have n5_ := Aside0.mk (below_step (by repeat (first | (with_reducible first | exact HB.out | apply below_alloc | apply pw_below_drewN | apply below_drew1) | exact HB.out)) hb); clear HO538; clear HO542; clear HO546; clear HO550; clear HO554; clear HB; have HO538 := n0_; have HO542 := n1_; have HO546 := n2_; have HO550 := n3_; have HO554 := n4_; have HB := n5_; clear n0_ n1_ n2_ n3_ n4_ n5_; (try clear hb); (try clear hb2); (try clear hk); (try clear hi))); try go_wp2_with (first | (go_at_call 33; (with_reducible refine (laws_sameInts.calls k _ _ t539 _ _ t543 true _ ?side1 ?side2 ?side3 ?side4 A17.out).mono ?_); (case side1 => repeat (first | exact (Kd.R_reads' HO542.out).2.2 | (with_reducible refine Kd.C_alloc ?_ _) | (with_reducible refine Kd.C_drewN ?_ _) | (with_reducible refine Kd.C_drew ?_))); (case side2 => exact (Kd.R_reads' HO542.out).2.1); (case side3 => repeat (first | exact (Kd.R_reads' HO546.out).2.2 | (with_reducible refine Kd.C_alloc ?_ _) | (with_reducible refine Kd.C_drewN ?_ _) | (with_reducible refine Kd.C_drew ?_))); (case side4 => exact (Kd.R_reads' HO546.out).2.1); rintro e w' ⟨rfl, ⟨nd, rfl⟩⟩; (try first | exact ⟨rfl, _, World.drewN_drewN _ _ _⟩ | exact ⟨rfl, _, Eq.trans (World.drewN_drewN _ _ _) (congrArg (World.drewN _) (Nat.add_assoc _ _ _))⟩); obtain ⟨Ao27, co27, eo27⟩ := Kd.R_slice HO550.out; subst eo27; obtain ⟨Ao28, co28, eo28⟩ := Kd.R_slice HO554.out; subst eo28) | (go_at_call 33; (with_reducible refine (laws_sameInts.calls k _ _ t547 _ _ t551 true _ ?side1 ?side2 ?side3 ?side4 A22.out).mono ?_); (case side1 => repeat (first | exact (Kd.R_reads' HO550.out).2.2 | (with_reducible refine Kd.C_alloc ?_ _) | (with_reducible refine Kd.C_drewN ?_ _) | (with_reducible refine Kd.C_drew ?_))); (case side2 => exact (Kd.R_reads' HO550.out).2.1); (case side3 => repeat (first | exact (Kd.R_reads' HO554.out).2.2 | (with_reducible refine Kd.C_alloc ?_ _) | (with_reducible refine Kd.C_drewN ?_ _) | (with_reducible refine Kd.C_drew ?_))); (case side4 => exact (Kd.R_reads' HO554.out).2.1); rintro e w' ⟨rfl, ⟨nd, rfl⟩⟩; (try first | exact ⟨rfl, _, World.drewN_drewN _ _ _⟩ | exact ⟨rfl, _, Eq.trans (World.drewN_drewN _ _ _) (congrArg (World.drewN _) (Nat.add_assoc _ _ _))⟩)) | (go_at_call 34; (with_reducible refine (impl_GoodEdges.calls k t535 _ _ t536 t557 _ ?side1 ?side2 A24.out).mono ?_); (case side1 => repeat (first | exact (Kd.R_reads' HO538.out).2.2 | (with_reducible refine Kd.C_alloc ?_ _) | (with_reducible refine Kd.C_drewN ?_ _) | (with_reducible refine Kd.C_drew ?_))); (case side2 => exact (Kd.R_reads' HO538.out).2.1); rintro e w29 ⟨rfl, hb⟩; have n0_ := Aside0.mk (Kd.R_below (by (with_reducible repeat (first | apply Kd.R_alloc | apply Kd.R_drewN | apply Kd.R_drew)); exact HO538.out) hb); have n1_ := Aside0.mk (Kd.R_below (by (with_reducible repeat (first | apply Kd.R_alloc | apply Kd.R_drewN | apply Kd.R_drew)); exact HO542.out) hb); have n2_ := Aside0.mk (Kd.R_below (by (with_reducible repeat (first | apply Kd.R_alloc | apply Kd.R_drewN | apply Kd.R_drew)); exact HO546.out) hb); have n3_ := Aside0.mk (Kd.R_below (by (with_reducible repeat (first | apply Kd.R_alloc | apply Kd.R_drewN | apply Kd.R_drew)); exact HO550.out) hb); have n4_ := Aside0.mk (Kd.R_below (by (with_reducible repeat (first | apply Kd.R_alloc | apply Kd.R_drewN | apply Kd.R_drew)); exact HO554.out) hb); have n5_ := Aside0.mk (below_step (by repeat (first | (with_reducible first | exact HB.out | apply below_alloc | apply pw_below_drewN | apply below_drew1) | exact HB.out)) hb); clear HO538; clear HO542; clear HO546; clear HO550; clear HO554; clear HB; have HO538 := n0_; have HO542 := n1_; have HO546 := n2_; have HO550 := n3_; have HO554 := n4_; have HB := n5_; clear n0_ n1_ n2_ n3_ n4_ n5_; (try clear hb); (try clear hb2); (try clear hk); (try clear hi))))
                go_meet
                case rel => exact ⟨_, ((t557 != t540)), (by first | rfl | (simp; done) | (simp [*]; done)), H', ⟨by first | omega | exact Nat.le_refl _⟩, ⟨by (with_reducible repeat (first | apply Kd.R_alloc | apply Kd.R_drewN | apply Kd.R_drew)); exact HO538.out⟩, ⟨by (with_reducible repeat (first | apply Kd.R_alloc | apply Kd.R_drewN | apply Kd.R_drew)); exact Kd.R_mono HO542.out (fun _ hk => hk.1.2)⟩, ⟨by (with_reducible repeat (first | apply Kd.R_alloc | apply Kd.R_drewN | apply Kd.R_drew)); exact Kd.R_mono HO550.out (fun _ hk => hk.1.1.2)⟩, ⟨by repeat (first | (with_reducible first | exact HB.out | apply below_alloc | apply pw_below_drewN | apply below_drew1) | exact HB.out)⟩⟩
            · replace c23 := Bool.eq_false_iff.mpr c23
              subst c23
              have H1 : (laws_FnGroups.j0 k l1 t535 t536 t539 t540 t547 t548 true) = some r := by rw [if_neg (show ¬ (false = true) by decide)] at H; exact H
              clear H
              have H := H1
              clear H1
              as_aux_lemma =>
                have H' := Aside0.mk H
                clear H
                obtain ⟨Ao30, co30, eo30⟩ := Kd.R_slice HO542.out
                subst eo30
                obtain ⟨Ao31, co31, eo31⟩ := Kd.R_slice HO546.out
                subst eo31
                go_wp2_with (first | (go_at_call 33; (with_reducible refine (laws_sameInts.calls k _ _ t539 _ _ t543 true _ ?side1 ?side2 ?side3 ?side4 A17.out).mono ?_); (case side1 => repeat (first | exact (Kd.R_reads' HO542.out).2.2 | (with_reducible refine Kd.C_alloc ?_ _) | (with_reducible refine Kd.C_drewN ?_ _) | (with_reducible refine Kd.C_drew ?_))); (case side2 => exact (Kd.R_reads' HO542.out).2.1); (case side3 => repeat (first | exact (Kd.R_reads' HO546.out).2.2 | (with_reducible refine Kd.C_alloc ?_ _) | (with_reducible refine Kd.C_drewN ?_ _) | (with_reducible refine Kd.C_drew ?_))); (case side4 => exact (Kd.R_reads' HO546.out).2.1); rintro e w' ⟨rfl, ⟨nd, rfl⟩⟩; (try first | exact ⟨rfl, _, World.drewN_drewN _ _ _⟩ | exact ⟨rfl, _, Eq.trans (World.drewN_drewN _ _ _) (congrArg (World.drewN _) (Nat.add_assoc _ _ _))⟩); obtain ⟨Ao32, co32, eo32⟩ := Kd.R_slice HO550.out; subst eo32; obtain ⟨Ao33, co33, eo33⟩ := Kd.R_slice HO554.out; subst eo33) | (go_at_call 33; (with_reducible refine (laws_sameInts.calls k _ _ t547 _ _ t551 false _ ?side1 ?side2 ?side3 ?side4 A22.out).mono ?_); (case side1 => repeat (first | exact (Kd.R_reads' HO550.out).2.2 | (with_reducible refine Kd.C_alloc ?_ _) | (with_reducible refine Kd.C_drewN ?_ _) | (with_reducible refine Kd.C_drew ?_))); (case side2 => exact (Kd.R_reads' HO550.out).2.1); (case side3 => repeat (first | exact (Kd.R_reads' HO554.out).2.2 | (with_reducible refine Kd.C_alloc ?_ _) | (with_reducible refine Kd.C_drewN ?_ _) | (with_reducible refine Kd.C_drew ?_))); (case side4 => exact (Kd.R_reads' HO554.out).2.1); rintro e w' ⟨rfl, ⟨nd, rfl⟩⟩; (try first | exact ⟨rfl, _, World.drewN_drewN _ _ _⟩ | exact ⟨rfl, _, Eq.trans (World.drewN_drewN _ _ _) (congrArg (World.drewN _) (Nat.add_assoc _ _ _))⟩)))
                repeat (go_quiet (first | (go_at_call 33; (with_reducible refine (laws_sameInts.calls k _ _ t539 _ _ t543 true _ ?side1 ?side2 ?side3 ?side4 A17.out).mono ?_); (case side1 => repeat (first | exact (Kd.R_reads' HO542.out).2.2 | (with_reducible refine Kd.C_alloc ?_ _) | (with_reducible refine Kd.C_drewN ?_ _) | (with_reducible refine Kd.C_drew ?_))); (case side2 => exact (Kd.R_reads' HO542.out).2.1); (case side3 => repeat (first | exact (Kd.R_reads' HO546.out).2.2 | (with_reducible refine Kd.C_alloc ?_ _) | (with_reducible refine Kd.C_drewN ?_ _) | (with_reducible refine Kd.C_drew ?_))); (case side4 => exact (Kd.R_reads' HO546.out).2.1); rintro e w' ⟨rfl, ⟨nd, rfl⟩⟩; (try first | exact ⟨rfl, _, World.drewN_drewN _ _ _⟩ | exact ⟨rfl, _, Eq.trans (World.drewN_drewN _ _ _) (congrArg (World.drewN _) (Nat.add_assoc _ _ _))⟩); obtain ⟨Ao32, co32, eo32⟩ := Kd.R_slice HO550.out; subst eo32; obtain ⟨Ao33, co33, eo33⟩ := Kd.R_slice HO554.out; subst eo33) | (go_at_call 33; (with_reducible refine (laws_sameInts.calls k _ _ t547 _ _ t551 false _ ?side1 ?side2 ?side3 ?side4 A22.out).mono ?_); (case side1 => repeat (first | exact (Kd.R_reads' HO550.out).2.2 | (with_reducible refine Kd.C_alloc ?_ _) | (with_reducible refine Kd.C_drewN ?_ _) | (with_reducible refine Kd.C_drew ?_))); (case side2 => exact (Kd.R_reads' HO550.out).2.1); (case side3 => repeat (first | exact (Kd.R_reads' HO554.out).2.2 | (with_reducible refine Kd.C_alloc ?_ _) | (with_reducible refine Kd.C_drewN ?_ _) | (with_reducible refine Kd.C_drew ?_))); (case side4 => exact (Kd.R_reads' HO554.out).2.1); rintro e w' ⟨rfl, ⟨nd, rfl⟩⟩; (try first | exact ⟨rfl, _, World.drewN_drewN _ _ _⟩ | exact ⟨rfl, _, Eq.trans (World.drewN_drewN _ _ _) (congrArg (World.drewN _) (Nat.add_assoc _ _ _))⟩))); try go_wp2_with (first | (go_at_call 33; (with_reducible refine (laws_sameInts.calls k _ _ t539 _ _ t543 true _ ?side1 ?side2 ?side3 ?side4 A17.out).mono ?_); (case side1 => repeat (first | exact (Kd.R_reads' HO542.out).2.2 | (with_reducible refine Kd.C_alloc ?_ _) | (with_reducible refine Kd.C_drewN ?_ _) | (with_reducible refine Kd.C_drew ?_))); (case side2 => exact (Kd.R_reads' HO542.out).2.1); (case side3 => repeat (first | exact (Kd.R_reads' HO546.out).2.2 | (with_reducible refine Kd.C_alloc ?_ _) | (with_reducible refine Kd.C_drewN ?_ _) | (with_reducible refine Kd.C_drew ?_))); (case side4 => exact (Kd.R_reads' HO546.out).2.1); rintro e w' ⟨rfl, ⟨nd, rfl⟩⟩; (try first | exact ⟨rfl, _, World.drewN_drewN _ _ _⟩ | exact ⟨rfl, _, Eq.trans (World.drewN_drewN _ _ _) (congrArg (World.drewN _) (Nat.add_assoc _ _ _))⟩); obtain ⟨Ao32, co32, eo32⟩ := Kd.R_slice HO550.out; subst eo32; obtain ⟨Ao33, co33, eo33⟩ := Kd.R_slice HO554.out; subst eo33) | (go_at_call 33; (with_reducible refine (laws_sameInts.calls k _ _ t547 _ _ t551 false _ ?side1 ?side2 ?side3 ?side4 A22.out).mono ?_); (case side1 => repeat (first | exact (Kd.R_reads' HO550.out).2.2 | (with_reducible refine Kd.C_alloc ?_ _) | (with_reducible refine Kd.C_drewN ?_ _) | (with_reducible refine Kd.C_drew ?_))); (case side2 => exact (Kd.R_reads' HO550.out).2.1); (case side3 => repeat (first | exact (Kd.R_reads' HO554.out).2.2 | (with_reducible refine Kd.C_alloc ?_ _) | (with_reducible refine Kd.C_drewN ?_ _) | (with_reducible refine Kd.C_drew ?_))); (case side4 => exact (Kd.R_reads' HO554.out).2.1); rintro e w' ⟨rfl, ⟨nd, rfl⟩⟩; (try first | exact ⟨rfl, _, World.drewN_drewN _ _ _⟩ | exact ⟨rfl, _, Eq.trans (World.drewN_drewN _ _ _) (congrArg (World.drewN _) (Nat.add_assoc _ _ _))⟩))))
                go_meet
                case rel => exact ⟨_, (true), (by first | rfl | (simp; done) | (simp [*]; done)), H', ⟨by first | omega | exact Nat.le_refl _⟩, ⟨by (with_reducible repeat (first | apply Kd.R_alloc | apply Kd.R_drewN | apply Kd.R_drew)); exact HO538.out⟩, ⟨by (with_reducible repeat (first | apply Kd.R_alloc | apply Kd.R_drewN | apply Kd.R_drew)); exact Kd.R_mono HO542.out (fun _ hk => hk.1.2)⟩, ⟨by (with_reducible repeat (first | apply Kd.R_alloc | apply Kd.R_drewN | apply Kd.R_drew)); exact Kd.R_mono HO550.out (fun _ hk => hk.1.1.2)⟩, ⟨by repeat (first | (with_reducible first | exact HB.out | apply below_alloc | apply pw_below_drewN | apply below_drew1) | exact HB.out)⟩⟩
        · replace c18 := Bool.eq_false_iff.mpr c18
          subst c18
          have H1 : (laws_FnGroups.j0 k l1 t535 t536 t539 t540 t547 t548 true) = some r := by rw [if_neg (show ¬ (false = true) by decide)] at H; exact H
          clear H
          have H := H1
          clear H1
          as_aux_lemma =>
            have H' := Aside0.mk H
            clear H
            obtain ⟨Ao34, co34, eo34⟩ := Kd.R_slice HO542.out
            subst eo34
            obtain ⟨Ao35, co35, eo35⟩ := Kd.R_slice HO546.out
            subst eo35
            go_wp2_with (first | (go_at_call 33; (with_reducible refine (laws_sameInts.calls k _ _ t539 _ _ t543 false _ ?side1 ?side2 ?side3 ?side4 A17.out).mono ?_); (case side1 => repeat (first | exact (Kd.R_reads' HO542.out).2.2 | (with_reducible refine Kd.C_alloc ?_ _) | (with_reducible refine Kd.C_drewN ?_ _) | (with_reducible refine Kd.C_drew ?_))); (case side2 => exact (Kd.R_reads' HO542.out).2.1); (case side3 => repeat (first | exact (Kd.R_reads' HO546.out).2.2 | (with_reducible refine Kd.C_alloc ?_ _) | (with_reducible refine Kd.C_drewN ?_ _) | (with_reducible refine Kd.C_drew ?_))); (case side4 => exact (Kd.R_reads' HO546.out).2.1); rintro e w' ⟨rfl, ⟨nd, rfl⟩⟩; (try first | exact ⟨rfl, _, World.drewN_drewN _ _ _⟩ | exact ⟨rfl, _, Eq.trans (World.drewN_drewN _ _ _) (congrArg (World.drewN _) (Nat.add_assoc _ _ _))⟩)))
            repeat (go_quiet (first | (go_at_call 33; (with_reducible refine (laws_sameInts.calls k _ _ t539 _ _ t543 false _ ?side1 ?side2 ?side3 ?side4 A17.out).mono ?_); (case side1 => repeat (first | exact (Kd.R_reads' HO542.out).2.2 | (with_reducible refine Kd.C_alloc ?_ _) | (with_reducible refine Kd.C_drewN ?_ _) | (with_reducible refine Kd.C_drew ?_))); (case side2 => exact (Kd.R_reads' HO542.out).2.1); (case side3 => repeat (first | exact (Kd.R_reads' HO546.out).2.2 | (with_reducible refine Kd.C_alloc ?_ _) | (with_reducible refine Kd.C_drewN ?_ _) | (with_reducible refine Kd.C_drew ?_))); (case side4 => exact (Kd.R_reads' HO546.out).2.1); rintro e w' ⟨rfl, ⟨nd, rfl⟩⟩; (try first | exact ⟨rfl, _, World.drewN_drewN _ _ _⟩ | exact ⟨rfl, _, Eq.trans (World.drewN_drewN _ _ _) (congrArg (World.drewN _) (Nat.add_assoc _ _ _))⟩))); try go_wp2_with (first | (go_at_call 33; (with_reducible refine (laws_sameInts.calls k _ _ t539 _ _ t543 false _ ?side1 ?side2 ?side3 ?side4 A17.out).mono ?_); (case side1 => repeat (first | exact (Kd.R_reads' HO542.out).2.2 | (with_reducible refine Kd.C_alloc ?_ _) | (with_reducible refine Kd.C_drewN ?_ _) | (with_reducible refine Kd.C_drew ?_))); (case side2 => exact (Kd.R_reads' HO542.out).2.1); (case side3 => repeat (first | exact (Kd.R_reads' HO546.out).2.2 | (with_reducible refine Kd.C_alloc ?_ _) | (with_reducible refine Kd.C_drewN ?_ _) | (with_reducible refine Kd.C_drew ?_))); (case side4 => exact (Kd.R_reads' HO546.out).2.1); rintro e w' ⟨rfl, ⟨nd, rfl⟩⟩; (try first | exact ⟨rfl, _, World.drewN_drewN _ _ _⟩ | exact ⟨rfl, _, Eq.trans (World.drewN_drewN _ _ _) (congrArg (World.drewN _) (Nat.add_assoc _ _ _))⟩))))
            go_meet
            case rel => exact ⟨_, (true), (by first | rfl | (simp; done) | (simp [*]; done)), H', ⟨by first | omega | exact Nat.le_refl _⟩, ⟨by (with_reducible repeat (first | apply Kd.R_alloc | apply Kd.R_drewN | apply Kd.R_drew)); exact HO538.out⟩, ⟨by (with_reducible repeat (first | apply Kd.R_alloc | apply Kd.R_drewN | apply Kd.R_drew)); exact Kd.R_mono HO542.out (fun _ hk => hk.1.2)⟩, ⟨by (with_reducible repeat (first | apply Kd.R_alloc | apply Kd.R_drewN | apply Kd.R_drew)); exact Kd.R_mono HO550.out (fun _ hk => hk.1.1.2)⟩, ⟨by repeat (first | (with_reducible first | exact HB.out | apply below_alloc | apply pw_below_drewN | apply below_drew1) | exact HB.out)⟩⟩
    case rest =>
      clear HC9
      try clear c1
      try clear c2
      try clear p2
      try clear c3
      try clear c3b0
      try clear p6
      try clear c8
      try clear c16
      try clear c16b0
      try clear c16b1
      try clear c16b2
      try clear c18
      try clear c19
      try clear c19b0
      try clear c19b1
      try clear c19b2
      try clear c23
      obtain ⟨kq, x94_8, rfl, HA, HJ8, HO_6, HO_7, HO_11, HB⟩ := hcut
      cases kq with
      | zero => exact absurd HA.out (by simp [laws_FnGroups.j0])
      | succ kj8 =>
        have H := HA.out
        clear HA
        simp only [laws_FnGroups.j0] at H
        by_cases c36 : x94_8 = true
        · subst c36
          have H1 : (some false) = some r := by rw [if_pos rfl] at H; exact H
          clear H
          have H := H1
          clear H1
          as_aux_lemma =>
            obtain rfl := Option.some.inj H
            go_wp2
            repeat (go_quiet (fail); try go_wp2)
            go_ret
            exact ⟨by first | rfl | (simp [errW_none, errW_some] <;> rfl) | (simp [*, errW_none, errW_some] <;> rfl), by repeat (first | (with_reducible first | exact HB.out | apply below_alloc | apply pw_below_drewN | apply below_drew1) | exact HB.out)⟩
        · replace c36 := Bool.eq_false_iff.mpr c36
          subst c36
          have H1 : (if t540 = true then (laws_FnGroups.l0 kj8 l1 t535 t536 t539 t547 t548 0 0 t539 (t539.length : Int) 0) else ((spec_DrawIsOneGroup.f kj8 l1).bind fun bt588 => ((impl_IsOneGroup.f kj8 bt588.1 bt588.2).bind fun bt592 => ((spec_IsOneGroup.f kj8 bt588.1 bt588.2).bind fun bt594 => (if (bt592.2 == bt594.2) = true then (some (bt592.1 == bt594.1)) else (some false)))))) = some r := by rw [if_neg (show ¬ (false = true) by decide)] at H; exact H
          clear H
          have H := H1
          clear H1
          by_cases c37 : t540 = true
          · subst c37
            have H1 : (laws_FnGroups.l0 kj8 l1 t535 t536 t539 t547 t548 0 0 t539 (t539.length : Int) 0) = some r := by rw [if_pos rfl] at H; exact H
            clear H
            have H := H1
            clear H1
            have H' := Aside0.mk H
            clear H
            obtain ⟨Ao38, co38, eo38⟩ := Kd.R_slice HO_7.out
            subst eo38
            go_wp2
            repeat (go_quiet (fail); try go_wp2)
            go_loopg [15, 16, 98] kj8 (fun kq v15 v16 v98 w' => ∃ (x15_2 : Int) (x16_2 : Int) (x98_2 : Int), v15 = .int .i64 x15_2 ∧ v16 = .int .i64 x16_2 ∧ v98 = .int .i64 x98_2 ∧ Aside0 (laws_FnGroups.l0 kq l1 t535 t536 t539 t547 t548 x15_2 x16_2 t539 (t539.length : Int) x98_2 = some r) ∧ Aside0 (kq ≤ kj8) ∧ Aside0 (Kd.R k52 52 w' w.heap.size (fun _ => True) (.slice Ao11 t536.length co11) t536) ∧ Aside0 (Kd.R (Kd.int .i64) 3 w' w.heap.size (fun k_ => some k_ ≠ (v549 : Value).ownBlock) (.slice Ao38 t539.length co38) t539) ∧ Aside0 (Kd.R (Kd.int .i64) 3 w' w.heap.size (fun k_ => some k_ ≠ ((.slice Ao38 t539.length co38) : Value).ownBlock ∧ some k_ ≠ ((.slice Ao38 t539.length co38) : Value).ownBlock) v549 t547) ∧ Aside0 (Kd.R (Kd.int .i64) 3 w' w.heap.size (fun k_ => some k_ ≠ (v549 : Value).ownBlock) (.slice Ao38 t539.length co38) t539) ∧ Aside0 (Below w.heap.size w w'))
            case atStart => exact ⟨(0), (0), (0), (by first | rfl | (simp; done) | (simp [*]; done)), (by first | rfl | (simp; done) | (simp [*]; done)), (by first | rfl | (simp; done) | (simp [*]; done)), H', ⟨Nat.le_refl _⟩, ⟨by (with_reducible repeat (first | apply Kd.R_alloc | apply Kd.R_drewN | apply Kd.R_drew)); exact HO_6.out⟩, ⟨by (with_reducible repeat (first | apply Kd.R_alloc | apply Kd.R_drewN | apply Kd.R_drew)); exact HO_7.out⟩, ⟨by (with_reducible repeat (first | apply Kd.R_alloc | apply Kd.R_drewN | apply Kd.R_drew)); exact Kd.R_mono HO_11.out (fun _ hk => ⟨hk, hk⟩)⟩, ⟨by (with_reducible repeat (first | apply Kd.R_alloc | apply Kd.R_drewN | apply Kd.R_drew)); exact HO_7.out⟩, ⟨by repeat (first | (with_reducible first | exact HB.out | apply below_alloc | apply pw_below_drewN | apply below_drew1) | exact HB.out)⟩⟩
            case round =>
              clear H'
              try clear c1
              try clear c2
              try clear p2
              try clear c3
              try clear c3b0
              try clear p6
              try clear c8
              try clear c16
              try clear c16b0
              try clear c16b1
              try clear c16b2
              try clear c18
              try clear c19
              try clear c19b0
              try clear c19b1
              try clear c19b2
              try clear c23
              try clear c36
              try clear c37
              try clear p2
              try clear p6
              obtain ⟨x15_2, x16_2, x98_2, rfl, rfl, rfl, HA, HK2, HO_6, HO_7, HO_11, HO_96, HB⟩ := hrel
              cases gk with
              | zero => exact absurd HA.out (by simp [laws_FnGroups.l0])
              | succ k2 =>
                have H := HA.out
                clear HA
                simp only [laws_FnGroups.l0] at H
                by_cases c39 : x98_2 < (t539.length : Int)
                · rw [if_pos c39] at H
                  have c39b0 : decide (x98_2 < (t539.length : Int)) = true := decide_eq_true c39
                  clear c39
                  by_cases c40 : 0 ≤ x98_2
                  · rw [if_pos c40] at H
                    have c40b0 : decide (0 ≤ x98_2) = true := decide_eq_true c40
                    clear c40
                    by_cases c41 : x98_2 < (t539.length : Int)
                    · rw [if_pos c41] at H
                      have c41b0 : decide (x98_2 < (t539.length : Int)) = true := decide_eq_true c41
                      clear c41
                      by_cases c42 : x98_2 < (t547.length : Int)
                      · rw [if_pos c42] at H
                        have c42b0 : decide (x98_2 < (t547.length : Int)) = true := decide_eq_true c42
                        clear c42
                        by_cases c43 : (rd t539 x98_2) = x98_2
                        · rw [if_pos c43] at H
                          have c43b0 : ((rd t539 x98_2) == x98_2) = true := beq_iff_eq.mpr c43
                          have c43b1 : ((rd t539 x98_2) != x98_2) = false := bne_eq_false_iff_eq.mpr c43
                          clear c43
                          by_cases c44 : (rd t539 x98_2) > x98_2
                          · rw [if_pos c44] at H
                            have c44b0 : decide (x98_2 < (rd t539 x98_2)) = true := decide_eq_true c44
                            clear c44
                            as_aux_lemma =>
                              obtain rfl := Option.some.inj H
                              have p558 : 0 ≤ (x98_2 : Int) := of_decide_eq_true (by first | (with_reducible assumption) | assumption)
                              have q558 : x98_2 < (t539.length : Int) := of_decide_eq_true (by first | (with_reducible assumption) | assumption)
                              obtain ⟨ad558, e558, hx558_0⟩ := Kd.at_int (Kd.R_reads' HO_96.out).2.2 x98_2 p558 q558
                              cases e558
                              replace p558 := eq_true p558
                              replace q558 := eq_true q558
                              obtain ⟨Ao45, co45, eo45⟩ := Kd.R_slice HO_11.out
                              subst eo45
                              have p559 : 0 ≤ (x98_2 : Int) := of_decide_eq_true (by first | (with_reducible assumption) | assumption)
                              have q559 : x98_2 < (t547.length : Int) := of_decide_eq_true (by first | (with_reducible assumption) | assumption)
                              obtain ⟨ad559, e559, hx559_0⟩ := Kd.at_int (Kd.R_reads' HO_11.out).2.2 x98_2 p559 q559
                              cases e559
                              replace p559 := eq_true p559
                              replace q559 := eq_true q559
                              go_wp2
                              repeat (go_quiet (fail); try go_wp2)
                              go_ret
                              exact ⟨by first | rfl | (simp [errW_none, errW_some] <;> rfl) | (simp [*, errW_none, errW_some] <;> rfl), by repeat (first | (with_reducible first | exact HB.out | apply below_alloc | apply pw_below_drewN | apply below_drew1) | exact HB.out)⟩
                          · rw [if_neg c44] at H
                            have c44b0 : decide (x98_2 < (rd t539 x98_2)) = false := decide_eq_false c44
                            clear c44
                            by_cases c46 : 0 ≤ (rd t539 x98_2)
                            · rw [if_pos c46] at H
                              have c46b0 : decide (0 ≤ (rd t539 x98_2)) = true := decide_eq_true c46
                              clear c46
                              by_cases c47 : (rd t539 x98_2) < (t539.length : Int)
                              · rw [if_pos c47] at H
                                have c47b0 : decide ((rd t539 x98_2) < (t539.length : Int)) = true := decide_eq_true c47
                                clear c47
                                by_cases c48 : (rd t539 (rd t539 x98_2)) = (rd t539 x98_2)
                                · rw [if_pos c48] at H
                                  have c48b0 : ((rd t539 (rd t539 x98_2)) == (rd t539 x98_2)) = true := beq_iff_eq.mpr c48
                                  have c48b1 : ((rd t539 (rd t539 x98_2)) != (rd t539 x98_2)) = false := bne_eq_false_iff_eq.mpr c48
                                  clear c48
                                  as_aux_lemma =>
                                    have H' := Aside0.mk H
                                    clear H
                                    have p558 : 0 ≤ (x98_2 : Int) := of_decide_eq_true (by first | (with_reducible assumption) | assumption)
                                    have q558 : x98_2 < (t539.length : Int) := of_decide_eq_true (by first | (with_reducible assumption) | assumption)
                                    obtain ⟨ad558, e558, hx558_0⟩ := Kd.at_int (Kd.R_reads' HO_96.out).2.2 x98_2 p558 q558
                                    cases e558
                                    replace p558 := eq_true p558
                                    replace q558 := eq_true q558
                                    obtain ⟨Ao49, co49, eo49⟩ := Kd.R_slice HO_11.out
                                    subst eo49
                                    have p559 : 0 ≤ (x98_2 : Int) := of_decide_eq_true (by first | (with_reducible assumption) | assumption)
                                    have q559 : x98_2 < (t547.length : Int) := of_decide_eq_true (by first | (with_reducible assumption) | assumption)
                                    obtain ⟨ad559, e559, hx559_0⟩ := Kd.at_int (Kd.R_reads' HO_11.out).2.2 x98_2 p559 q559
                                    cases e559
                                    replace p559 := eq_true p559
                                    replace q559 := eq_true q559
                                    have p560 : 0 ≤ ((rd t539 x98_2) : Int) := of_decide_eq_true (by first | (with_reducible assumption) | assumption)
                                    have q560 : (rd t539 x98_2) < (t539.length : Int) := of_decide_eq_true (by first | (with_reducible assumption) | assumption)
                                    obtain ⟨ad560, e560, hx560_0⟩ := Kd.at_int (Kd.R_reads' HO_7.out).2.2 (rd t539 x98_2) p560 q560
                                    obtain rfl : ad558 = ad560 := (by injection e560)
                                    replace p560 := eq_true p560
                                    replace q560 := eq_true q560
                                    go_wp2
                                    repeat (go_quiet (fail); try go_wp2)
                                    go_roundg k2
                                    case measure => have := HJ8.out; have := HK2.out; omega
                                    case rel => exact ⟨(wrap64 (x15_2 + (rd t547 x98_2))), (wrap64 (x16_2 + 1)), (wrap64 (x98_2 + 1)), (by first | rfl | (simp; done) | (simp [*]; done)), (by first | rfl | (simp; done) | (simp [*]; done)), (by first | rfl | (simp; done) | (simp [*]; done)), H', ⟨by have := HJ8.out; have := HK2.out; omega⟩, ⟨by (with_reducible repeat (first | apply Kd.R_alloc | apply Kd.R_drewN | apply Kd.R_drew)); exact HO_6.out⟩, ⟨by (with_reducible repeat (first | apply Kd.R_alloc | apply Kd.R_drewN | apply Kd.R_drew)); exact HO_7.out⟩, ⟨by (with_reducible repeat (first | apply Kd.R_alloc | apply Kd.R_drewN | apply Kd.R_drew)); exact HO_11.out⟩, ⟨by (with_reducible repeat (first | apply Kd.R_alloc | apply Kd.R_drewN | apply Kd.R_drew)); exact HO_96.out⟩, ⟨by repeat (first | (with_reducible first | exact HB.out | apply below_alloc | apply pw_below_drewN | apply below_drew1) | exact HB.out)⟩⟩
                                · rw [if_neg c48] at H
                                  have c48b0 : ((rd t539 (rd t539 x98_2)) == (rd t539 x98_2)) = false := beq_eq_false_iff_ne.mpr c48
                                  have c48b1 : ((rd t539 (rd t539 x98_2)) != (rd t539 x98_2)) = true := bne_iff_ne.mpr c48
                                  as_aux_lemma =>
                                    obtain rfl := Option.some.inj H
                                    have p558 : 0 ≤ (x98_2 : Int) := of_decide_eq_true (by first | (with_reducible assumption) | assumption)
                                    have q558 : x98_2 < (t539.length : Int) := of_decide_eq_true (by first | (with_reducible assumption) | assumption)
                                    obtain ⟨ad558, e558, hx558_0⟩ := Kd.at_int (Kd.R_reads' HO_96.out).2.2 x98_2 p558 q558
                                    cases e558
                                    replace p558 := eq_true p558
                                    replace q558 := eq_true q558
                                    obtain ⟨Ao50, co50, eo50⟩ := Kd.R_slice HO_11.out
                                    subst eo50
                                    have p559 : 0 ≤ (x98_2 : Int) := of_decide_eq_true (by first | (with_reducible assumption) | assumption)
                                    have q559 : x98_2 < (t547.length : Int) := of_decide_eq_true (by first | (with_reducible assumption) | assumption)
                                    obtain ⟨ad559, e559, hx559_0⟩ := Kd.at_int (Kd.R_reads' HO_11.out).2.2 x98_2 p559 q559
                                    cases e559
                                    replace p559 := eq_true p559
                                    replace q559 := eq_true q559
                                    have p560 : 0 ≤ ((rd t539 x98_2) : Int) := of_decide_eq_true (by first | (with_reducible assumption) | assumption)
                                    have q560 : (rd t539 x98_2) < (t539.length : Int) := of_decide_eq_true (by first | (with_reducible assumption) | assumption)
                                    obtain ⟨ad560, e560, hx560_0⟩ := Kd.at_int (Kd.R_reads' HO_7.out).2.2 (rd t539 x98_2) p560 q560
                                    obtain rfl : ad558 = ad560 := (by injection e560)
                                    replace p560 := eq_true p560
                                    replace q560 := eq_true q560
                                    go_wp2
                                    repeat (go_quiet (fail); try go_wp2)
                                    go_ret
                                    exact ⟨by first | rfl | (simp [errW_none, errW_some] <;> rfl) | (simp [*, errW_none, errW_some] <;> rfl), by repeat (first | (with_reducible first | exact HB.out | apply below_alloc | apply pw_below_drewN | apply below_drew1) | exact HB.out)⟩
                              · rw [if_neg c47] at H
                                exact absurd H (by simp)
                            · rw [if_neg c46] at H
                              exact absurd H (by simp)
                        · rw [if_neg c43] at H
                          have c43b0 : ((rd t539 x98_2) == x98_2) = false := beq_eq_false_iff_ne.mpr c43
                          have c43b1 : ((rd t539 x98_2) != x98_2) = true := bne_iff_ne.mpr c43
                          by_cases c51 : (rd t539 x98_2) > x98_2
                          · rw [if_pos c51] at H
                            have c51b0 : decide (x98_2 < (rd t539 x98_2)) = true := decide_eq_true c51
                            clear c51
                            as_aux_lemma =>
                              obtain rfl := Option.some.inj H
                              have p558 : 0 ≤ (x98_2 : Int) := of_decide_eq_true (by first | (with_reducible assumption) | assumption)
                              have q558 : x98_2 < (t539.length : Int) := of_decide_eq_true (by first | (with_reducible assumption) | assumption)
                              obtain ⟨ad558, e558, hx558_0⟩ := Kd.at_int (Kd.R_reads' HO_96.out).2.2 x98_2 p558 q558
                              cases e558
                              replace p558 := eq_true p558
                              replace q558 := eq_true q558
                              obtain ⟨Ao52, co52, eo52⟩ := Kd.R_slice HO_11.out
                              subst eo52
                              have p559 : 0 ≤ (x98_2 : Int) := of_decide_eq_true (by first | (with_reducible assumption) | assumption)
                              have q559 : x98_2 < (t547.length : Int) := of_decide_eq_true (by first | (with_reducible assumption) | assumption)
                              obtain ⟨ad559, e559, hx559_0⟩ := Kd.at_int (Kd.R_reads' HO_11.out).2.2 x98_2 p559 q559
                              cases e559
                              replace p559 := eq_true p559
                              replace q559 := eq_true q559
                              go_wp2
                              repeat (go_quiet (fail); try go_wp2)
                              go_ret
                              exact ⟨by first | rfl | (simp [errW_none, errW_some] <;> rfl) | (simp [*, errW_none, errW_some] <;> rfl), by repeat (first | (with_reducible first | exact HB.out | apply below_alloc | apply pw_below_drewN | apply below_drew1) | exact HB.out)⟩
                          · rw [if_neg c51] at H
                            have c51b0 : decide (x98_2 < (rd t539 x98_2)) = false := decide_eq_false c51
                            clear c51
                            by_cases c53 : 0 ≤ (rd t539 x98_2)
                            · rw [if_pos c53] at H
                              have c53b0 : decide (0 ≤ (rd t539 x98_2)) = true := decide_eq_true c53
                              clear c53
                              by_cases c54 : (rd t539 x98_2) < (t539.length : Int)
                              · rw [if_pos c54] at H
                                have c54b0 : decide ((rd t539 x98_2) < (t539.length : Int)) = true := decide_eq_true c54
                                clear c54
                                by_cases c55 : (rd t539 (rd t539 x98_2)) = (rd t539 x98_2)
                                · rw [if_pos c55] at H
                                  have c55b0 : ((rd t539 (rd t539 x98_2)) == (rd t539 x98_2)) = true := beq_iff_eq.mpr c55
                                  have c55b1 : ((rd t539 (rd t539 x98_2)) != (rd t539 x98_2)) = false := bne_eq_false_iff_eq.mpr c55
                                  clear c55
                                  as_aux_lemma =>
                                    have H' := Aside0.mk H
                                    clear H
                                    have p558 : 0 ≤ (x98_2 : Int) := of_decide_eq_true (by first | (with_reducible assumption) | assumption)
                                    have q558 : x98_2 < (t539.length : Int) := of_decide_eq_true (by first | (with_reducible assumption) | assumption)
                                    obtain ⟨ad558, e558, hx558_0⟩ := Kd.at_int (Kd.R_reads' HO_96.out).2.2 x98_2 p558 q558
                                    cases e558
                                    replace p558 := eq_true p558
                                    replace q558 := eq_true q558
                                    obtain ⟨Ao56, co56, eo56⟩ := Kd.R_slice HO_11.out
                                    subst eo56
                                    have p559 : 0 ≤ (x98_2 : Int) := of_decide_eq_true (by first | (with_reducible assumption) | assumption)
                                    have q559 : x98_2 < (t547.length : Int) := of_decide_eq_true (by first | (with_reducible assumption) | assumption)
                                    obtain ⟨ad559, e559, hx559_0⟩ := Kd.at_int (Kd.R_reads' HO_11.out).2.2 x98_2 p559 q559
                                    cases e559
                                    replace p559 := eq_true p559
                                    replace q559 := eq_true q559
                                    have p561 : 0 ≤ ((rd t539 x98_2) : Int) := of_decide_eq_true (by first | (with_reducible assumption) | assumption)
                                    have q561 : (rd t539 x98_2) < (t539.length : Int) := of_decide_eq_true (by first | (with_reducible assumption) | assumption)
                                    obtain ⟨ad561, e561, hx561_0⟩ := Kd.at_int (Kd.R_reads' HO_7.out).2.2 (rd t539 x98_2) p561 q561
                                    obtain rfl : ad558 = ad561 := (by injection e561)
                                    replace p561 := eq_true p561
                                    replace q561 := eq_true q561
                                    go_wp2
                                    repeat (go_quiet (fail); try go_wp2)
                                    go_roundg k2
                                    case measure => have := HJ8.out; have := HK2.out; omega
                                    case rel => exact ⟨(wrap64 (x15_2 + (rd t547 x98_2))), (x16_2), (wrap64 (x98_2 + 1)), (by first | rfl | (simp; done) | (simp [*]; done)), (by first | rfl | (simp; done) | (simp [*]; done)), (by first | rfl | (simp; done) | (simp [*]; done)), H', ⟨by have := HJ8.out; have := HK2.out; omega⟩, ⟨by (with_reducible repeat (first | apply Kd.R_alloc | apply Kd.R_drewN | apply Kd.R_drew)); exact HO_6.out⟩, ⟨by (with_reducible repeat (first | apply Kd.R_alloc | apply Kd.R_drewN | apply Kd.R_drew)); exact HO_7.out⟩, ⟨by (with_reducible repeat (first | apply Kd.R_alloc | apply Kd.R_drewN | apply Kd.R_drew)); exact HO_11.out⟩, ⟨by (with_reducible repeat (first | apply Kd.R_alloc | apply Kd.R_drewN | apply Kd.R_drew)); exact HO_96.out⟩, ⟨by repeat (first | (with_reducible first | exact HB.out | apply below_alloc | apply pw_below_drewN | apply below_drew1) | exact HB.out)⟩⟩
                                · rw [if_neg c55] at H
                                  have c55b0 : ((rd t539 (rd t539 x98_2)) == (rd t539 x98_2)) = false := beq_eq_false_iff_ne.mpr c55
                                  have c55b1 : ((rd t539 (rd t539 x98_2)) != (rd t539 x98_2)) = true := bne_iff_ne.mpr c55
                                  as_aux_lemma =>
                                    obtain rfl := Option.some.inj H
                                    have p558 : 0 ≤ (x98_2 : Int) := of_decide_eq_true (by first | (with_reducible assumption) | assumption)
                                    have q558 : x98_2 < (t539.length : Int) := of_decide_eq_true (by first | (with_reducible assumption) | assumption)
                                    obtain ⟨ad558, e558, hx558_0⟩ := Kd.at_int (Kd.R_reads' HO_96.out).2.2 x98_2 p558 q558
                                    cases e558
                                    replace p558 := eq_true p558
                                    replace q558 := eq_true q558
                                    obtain ⟨Ao57, co57, eo57⟩ := Kd.R_slice HO_11.out
                                    subst eo57
                                    have p559 : 0 ≤ (x98_2 : Int) := of_decide_eq_true (by first | (with_reducible assumption) | assumption)
                                    have q559 : x98_2 < (t547.length : Int) := of_decide_eq_true (by first | (with_reducible assumption) | assumption)
                                    obtain ⟨ad559, e559, hx559_0⟩ := Kd.at_int (Kd.R_reads' HO_11.out).2.2 x98_2 p559 q559
                                    cases e559
                                    replace p559 := eq_true p559
                                    replace q559 := eq_true q559
                                    have p561 : 0 ≤ ((rd t539 x98_2) : Int) := of_decide_eq_true (by first | (with_reducible assumption) | assumption)
                                    have q561 : (rd t539 x98_2) < (t539.length : Int) := of_decide_eq_true (by first | (with_reducible assumption) | assumption)
                                    obtain ⟨ad561, e561, hx561_0⟩ := Kd.at_int (Kd.R_reads' HO_7.out).2.2 (rd t539 x98_2) p561 q561
                                    obtain rfl : ad558 = ad561 := (by injection e561)
                                    replace p561 := eq_true p561
                                    replace q561 := eq_true q561
                                    go_wp2
                                    repeat (go_quiet (fail); try go_wp2)
                                    go_ret
                                    exact ⟨by first | rfl | (simp [errW_none, errW_some] <;> rfl) | (simp [*, errW_none, errW_some] <;> rfl), by repeat (first | (with_reducible first | exact HB.out | apply below_alloc | apply pw_below_drewN | apply below_drew1) | exact HB.out)⟩
                              · rw [if_neg c54] at H
                                exact absurd H (by simp)
                            · rw [if_neg c53] at H
                              exact absurd H (by simp)
                      · rw [if_neg c42] at H
                        exact absurd H (by simp)
                    · rw [if_neg c41] at H
                      exact absurd H (by simp)
                  · rw [if_neg c40] at H
                    exact absurd H (by simp)
                · rw [if_neg c39] at H
                  have c39b0 : decide (x98_2 < (t539.length : Int)) = false := decide_eq_false c39
                  clear c39
                  have H' := Aside0.mk H
                  clear H
                  go_wp2
                  repeat (go_quiet (fail); try go_wp2)
                  go_loopg [128] k2 (fun kq v128 w' => ∃ (x128_3 : Int), v128 = .int .i64 x128_3 ∧ Aside0 (laws_FnGroups.l1 kq l1 t535 t536 t539 t548 x15_2 x16_2 t536 (t536.length : Int) x128_3 = some r) ∧ Aside0 (kq ≤ k2) ∧ Aside0 (Kd.R k52 52 w' w.heap.size (fun _ => True) (.slice Ao11 t536.length co11) t536) ∧ Aside0 (Kd.R (Kd.int .i64) 3 w' w.heap.size (fun _ => True) (.slice Ao38 t539.length co38) t539) ∧ Aside0 (Kd.R k52 52 w' w.heap.size (fun _ => True) (.slice Ao11 t536.length co11) t536) ∧ Aside0 (Below w.heap.size w w'))
                  case atStart => exact ⟨(0), (by first | rfl | (simp; done) | (simp [*]; done)), H', ⟨Nat.le_refl _⟩, ⟨by (with_reducible repeat (first | apply Kd.R_alloc | apply Kd.R_drewN | apply Kd.R_drew)); exact HO_6.out⟩, ⟨by (with_reducible repeat (first | apply Kd.R_alloc | apply Kd.R_drewN | apply Kd.R_drew)); exact Kd.R_mono HO_7.out (fun _ hk => trivial)⟩, ⟨by (with_reducible repeat (first | apply Kd.R_alloc | apply Kd.R_drewN | apply Kd.R_drew)); exact HO_6.out⟩, ⟨by repeat (first | (with_reducible first | exact HB.out | apply below_alloc | apply pw_below_drewN | apply below_drew1) | exact HB.out)⟩⟩
                  case round =>
                    clear H'
                    try clear c1
                    try clear c2
                    try clear p2
                    try clear c3
                    try clear c3b0
                    try clear c4
                    try clear c5
                    try clear p5
                    try clear q5
                    try clear hx5
                    try clear p6
                    try clear c8
                    try clear c16
                    try clear c16b0
                    try clear c16b1
                    try clear c16b2
                    try clear c18
                    try clear c19
                    try clear c19b0
                    try clear c19b1
                    try clear c19b2
                    try clear c23
                    try clear c36
                    try clear c37
                    try clear c39
                    try clear c39b0
                    try clear c40
                    try clear c40b0
                    try clear c41
                    try clear c41b0
                    try clear c42
                    try clear c42b0
                    try clear c43
                    try clear c43b0
                    try clear c43b1
                    try clear c44
                    try clear c44b0
                    try clear c46
                    try clear c46b0
                    try clear c47
                    try clear c47b0
                    try clear c48
                    try clear c48b0
                    try clear c48b1
                    try clear c51
                    try clear c51b0
                    try clear c53
                    try clear c53b0
                    try clear c54
                    try clear c54b0
                    try clear c55
                    try clear c55b0
                    try clear c55b1
                    try clear p55
                    try clear q55
                    try clear hx55
                    try clear p56
                    try clear q56
                    try clear hx56
                    try clear hx558_0
                    try clear hx559_0
                    try clear hx560_0
                    try clear hx561_0
                    try clear p2
                    try clear p558
                    try clear p559
                    try clear p560
                    try clear p561
                    try clear p6
                    try clear q558
                    try clear q559
                    try clear q560
                    try clear q561
                    obtain ⟨x128_3, rfl, HA, HK3, HO_6, HO_7, HO_126, HB⟩ := hrel
                    cases gk with
                    | zero => exact absurd HA.out (by simp [laws_FnGroups.l1])
                    | succ k3 =>
                      have H := HA.out
                      clear HA
                      simp only [laws_FnGroups.l1] at H
                      by_cases c58 : x128_3 < (t536.length : Int)
                      · rw [if_pos c58] at H
                        have c58b0 : decide (x128_3 < (t536.length : Int)) = true := decide_eq_true c58
                        clear c58
                        by_cases c59 : 0 ≤ x128_3
                        · rw [if_pos c59] at H
                          have c59b0 : decide (0 ≤ x128_3) = true := decide_eq_true c59
                          clear c59
                          by_cases c60 : x128_3 < (t536.length : Int)
                          · rw [if_pos c60] at H
                            have c60b0 : decide (x128_3 < (t536.length : Int)) = true := decide_eq_true c60
                            clear c60
                            by_cases c61 : 0 ≤ ((rd_T52 t536 x128_3).f0)
                            · rw [if_pos c61] at H
                              have c61b0 : decide (0 ≤ ((rd_T52 t536 x128_3).f0)) = true := decide_eq_true c61
                              clear c61
                              by_cases c62 : ((rd_T52 t536 x128_3).f0) < (t539.length : Int)
                              · rw [if_pos c62] at H
                                have c62b0 : decide (((rd_T52 t536 x128_3).f0) < (t539.length : Int)) = true := decide_eq_true c62
                                clear c62
                                by_cases c63 : 0 ≤ ((rd_T52 t536 x128_3).f1)
                                · rw [if_pos c63] at H
                                  have c63b0 : decide (0 ≤ ((rd_T52 t536 x128_3).f1)) = true := decide_eq_true c63
                                  clear c63
                                  by_cases c64 : ((rd_T52 t536 x128_3).f1) < (t539.length : Int)
                                  · rw [if_pos c64] at H
                                    have c64b0 : decide (((rd_T52 t536 x128_3).f1) < (t539.length : Int)) = true := decide_eq_true c64
                                    clear c64
                                    by_cases c65 : (rd t539 ((rd_T52 t536 x128_3).f0)) = (rd t539 ((rd_T52 t536 x128_3).f1))
                                    · rw [if_pos c65] at H
                                      have c65b0 : ((rd t539 ((rd_T52 t536 x128_3).f0)) == (rd t539 ((rd_T52 t536 x128_3).f1))) = true := beq_iff_eq.mpr c65
                                      have c65b1 : ((rd t539 ((rd_T52 t536 x128_3).f0)) != (rd t539 ((rd_T52 t536 x128_3).f1))) = false := bne_eq_false_iff_eq.mpr c65
                                      clear c65
                                      as_aux_lemma =>
                                        have H' := Aside0.mk H
                                        clear H
                                        have p562 : 0 ≤ (x128_3 : Int) := of_decide_eq_true (by first | (with_reducible assumption) | assumption)
                                        have q562 : x128_3 < (t536.length : Int) := of_decide_eq_true (by first | (with_reducible assumption) | assumption)
                                        obtain ⟨ad562, e562, hx562_0, hx562_1, hx562_2⟩ := at_T52 (Kd.R_reads' HO_126.out).2.2 x128_3 p562 q562
                                        cases e562
                                        replace p562 := eq_true p562
                                        replace q562 := eq_true q562
                                        go_wp2_with (first | ((with_reducible refine gate_dst (N := 20) rfl ?_); (try (refine gate_guard (by rfl) ?_; dsimp only)); refine box_event ?hg (N := 20) ?hd (cs := #[.int .i64 0, .int .i64 0, .int .i64 0]) (t := 52) ?hr ?_; (case hd => rfl); (case hg => rfl); (case hr => first | (go_simp; done) | (go_simp; rfl)); intro gb563 hg w66 hbox hb; have n0_ := Aside0.mk (Kd.R_below (Kd.R_elderB (by (with_reducible repeat (first | apply Kd.R_alloc | apply Kd.R_drewN | apply Kd.R_drew)); exact HO_6.out) gb563 (Nat.le_of_eq hg.symm)) hb); have n1_ := Aside0.mk (Kd.R_below (by (with_reducible repeat (first | apply Kd.R_alloc | apply Kd.R_drewN | apply Kd.R_drew)); exact HO_7.out) hb); have n2_ := Aside0.mk (Kd.R_below (Kd.R_elderB (by (with_reducible repeat (first | apply Kd.R_alloc | apply Kd.R_drewN | apply Kd.R_drew)); exact HO_126.out) gb563 (Nat.le_of_eq hg.symm)) hb); have n3_ := Aside0.mk (below_step (by repeat (first | (with_reducible first | exact HB.out | apply below_alloc | apply pw_below_drewN | apply below_drew1) | exact HB.out)) hb); have n4_ := Aside0.mk (hbox); have n5_ := Aside0.mk ((by rw [hg]; exact (below_size (by repeat (first | (with_reducible first | exact HB.out | apply below_alloc | apply pw_below_drewN | apply below_drew1) | exact HB.out))) : w.heap.size ≤ gb563)); have n6_ := Aside0.mk ((by rw [hg]; exact (below_size (by repeat (first | (with_reducible first | exact HB.out | apply below_alloc | apply pw_below_drewN | apply below_drew1) | exact HB.out))) : w.heap.size ≤ gb563)); clear HO_6; clear HO_7; clear HO_126; clear HB; have HO_6 := n0_; have HO_7 := n1_; have HO_126 := n2_; have HB := n3_; have BK563 := n4_; have GW563 := n5_; have GE563 := n6_; clear n0_ n1_ n2_ n3_ n4_ n5_ n6_; clear hb hbox hg; have hcz67_0 : w66.cell? ⟨gb563, 0, none⟩ = some (.int .i64 0) := (blk_cell BK563.out 0).trans rfl; have hcz67_1 : w66.cell? ⟨gb563, 1, none⟩ = some (.int .i64 0) := (blk_cell BK563.out 1).trans rfl; have hcz67_2 : w66.cell? ⟨gb563, 2, none⟩ = some (.int .i64 0) := (blk_cell BK563.out 2).trans rfl; have hfz67_0 := blk_frozen BK563.out 0; have hfz67_1 := blk_frozen BK563.out 1; have hfz67_2 := blk_frozen BK563.out 2; have p564 : 0 ≤ (((rd_T52 t536 x128_3).f0) : Int) := of_decide_eq_true (by first | (with_reducible assumption) | assumption); have q564 : ((rd_T52 t536 x128_3).f0) < (t539.length : Int) := of_decide_eq_true (by first | (with_reducible assumption) | assumption); obtain ⟨ad564, e564, hx564_0⟩ := Kd.at_int (Kd.R_reads' HO_7.out).2.2 ((rd_T52 t536 x128_3).f0) p564 q564; cases e564; have hn564_0 : ad564.block ≠ gb563 := Kd.own_blk (Kd.R_ne HO_7.out BK563.out (by decide)); have hn564_1 : ad564.block ≠ gb563 := Kd.own_blk (Kd.R_ne HO_7.out BK563.out (by decide)); have hn564_2 : ad564.block ≠ gb563 := Kd.own_blk (Kd.R_ne HO_7.out BK563.out (by decide)); replace hx564_0 := (cell_far (p := ⟨gb563, 0, none⟩) (by first | (rw [add_block]; exact hn564_0) | (show (Addr.add _ _).block ≠ _; rw [add_block]; exact hn564_0) | exact hn564_0) (.int .i64 ((rd_T52 t536 x128_3).f0))).trans hx564_0; replace hx564_0 := (cell_far (p := ⟨gb563, 1, none⟩) (by first | (rw [add_block]; exact hn564_1) | (show (Addr.add _ _).block ≠ _; rw [add_block]; exact hn564_1) | exact hn564_1) (.int .i64 ((rd_T52 t536 x128_3).f1))).trans hx564_0; replace hx564_0 := (cell_far (p := ⟨gb563, 2, none⟩) (by first | (rw [add_block]; exact hn564_2) | (show (Addr.add _ _).block ≠ _; rw [add_block]; exact hn564_2) | exact hn564_2) (.int .i64 ((rd_T52 t536 x128_3).f2))).trans hx564_0; (try have hy564_0 := fun (n_ : Nat) => (show (((((w66.drewN n_).setCell ⟨gb563, 0, none⟩ (.int .i64 ((rd_T52 t536 x128_3).f0))).setCell ⟨gb563, 1, none⟩ (.int .i64 ((rd_T52 t536 x128_3).f1))).setCell ⟨gb563, 2, none⟩ (.int .i64 ((rd_T52 t536 x128_3).f2)))).cell? _ = some _ from hx564_0)); clear hn564_0; clear hn564_1; clear hn564_2; replace p564 := eq_true p564; replace q564 := eq_true q564; have p565 : 0 ≤ (((rd_T52 t536 x128_3).f1) : Int) := of_decide_eq_true (by first | (with_reducible assumption) | assumption); have q565 : ((rd_T52 t536 x128_3).f1) < (t539.length : Int) := of_decide_eq_true (by first | (with_reducible assumption) | assumption); obtain ⟨ad565, e565, hx565_0⟩ := Kd.at_int (Kd.R_reads' HO_7.out).2.2 ((rd_T52 t536 x128_3).f1) p565 q565; obtain rfl : ad564 = ad565 := (by injection e565); have hn565_0 : ad564.block ≠ gb563 := Kd.own_blk (Kd.R_ne HO_7.out BK563.out (by decide)); have hn565_1 : ad564.block ≠ gb563 := Kd.own_blk (Kd.R_ne HO_7.out BK563.out (by decide)); have hn565_2 : ad564.block ≠ gb563 := Kd.own_blk (Kd.R_ne HO_7.out BK563.out (by decide)); replace hx565_0 := (cell_far (p := ⟨gb563, 0, none⟩) (by first | (rw [add_block]; exact hn565_0) | (show (Addr.add _ _).block ≠ _; rw [add_block]; exact hn565_0) | exact hn565_0) (.int .i64 ((rd_T52 t536 x128_3).f0))).trans hx565_0; replace hx565_0 := (cell_far (p := ⟨gb563, 1, none⟩) (by first | (rw [add_block]; exact hn565_1) | (show (Addr.add _ _).block ≠ _; rw [add_block]; exact hn565_1) | exact hn565_1) (.int .i64 ((rd_T52 t536 x128_3).f1))).trans hx565_0; replace hx565_0 := (cell_far (p := ⟨gb563, 2, none⟩) (by first | (rw [add_block]; exact hn565_2) | (show (Addr.add _ _).block ≠ _; rw [add_block]; exact hn565_2) | exact hn565_2) (.int .i64 ((rd_T52 t536 x128_3).f2))).trans hx565_0; (try have hy565_0 := fun (n_ : Nat) => (show (((((w66.drewN n_).setCell ⟨gb563, 0, none⟩ (.int .i64 ((rd_T52 t536 x128_3).f0))).setCell ⟨gb563, 1, none⟩ (.int .i64 ((rd_T52 t536 x128_3).f1))).setCell ⟨gb563, 2, none⟩ (.int .i64 ((rd_T52 t536 x128_3).f2)))).cell? _ = some _ from hx565_0)); clear hn565_0; clear hn565_1; clear hn565_2; replace p565 := eq_true p565; replace q565 := eq_true q565))
                                        repeat (go_quiet (first | ((with_reducible refine gate_dst (N := 20) rfl ?_); (try (refine gate_guard (by rfl) ?_; dsimp only)); refine box_event ?hg (N := 20) ?hd (cs := #[.int .i64 0, .int .i64 0, .int .i64 0]) (t := 52) ?hr ?_; (case hd => rfl); (case hg => rfl); (case hr => first | (go_simp; done) | (go_simp; rfl)); intro gb563 hg w66 hbox hb; have n0_ := Aside0.mk (Kd.R_below (Kd.R_elderB (by (with_reducible repeat (first | apply Kd.R_alloc | apply Kd.R_drewN | apply Kd.R_drew)); exact HO_6.out) gb563 (Nat.le_of_eq hg.symm)) hb); have n1_ := Aside0.mk (Kd.R_below (by (with_reducible repeat (first | apply Kd.R_alloc | apply Kd.R_drewN | apply Kd.R_drew)); exact HO_7.out) hb); have n2_ := Aside0.mk (Kd.R_below (Kd.R_elderB (by (with_reducible repeat (first | apply Kd.R_alloc | apply Kd.R_drewN | apply Kd.R_drew)); exact HO_126.out) gb563 (Nat.le_of_eq hg.symm)) hb); have n3_ := Aside0.mk (below_step (by repeat (first | (with_reducible first | exact HB.out | apply below_alloc | apply pw_below_drewN | apply below_drew1) | exact HB.out)) hb); have n4_ := Aside0.mk (hbox); have n5_ := Aside0.mk ((by rw [hg]; exact (below_size (by repeat (first | (with_reducible first | exact HB.out | apply below_alloc | apply pw_below_drewN | apply below_drew1) | exact HB.out))) : w.heap.size ≤ gb563)); have n6_ := Aside0.mk ((by rw [hg]; exact (below_size (by repeat (first | (with_reducible first | exact HB.out | apply below_alloc | apply pw_below_drewN | apply below_drew1) | exact HB.out))) : w.heap.size ≤ gb563)); clear HO_6; clear HO_7; clear HO_126; clear HB; have HO_6 := n0_; have HO_7 := n1_; have HO_126 := n2_; have HB := n3_; have BK563 := n4_; have GW563 := n5_; have GE563 := n6_; clear n0_ n1_ n2_ n3_ n4_ n5_ n6_; clear hb hbox hg; have hcz67_0 : w66.cell? ⟨gb563, 0, none⟩ = some (.int .i64 0) := (blk_cell BK563.out 0).trans rfl; have hcz67_1 : w66.cell? ⟨gb563, 1, none⟩ = some (.int .i64 0) := (blk_cell BK563.out 1).trans rfl; have hcz67_2 : w66.cell? ⟨gb563, 2, none⟩ = some (.int .i64 0) := (blk_cell BK563.out 2).trans rfl; have hfz67_0 := blk_frozen BK563.out 0; have hfz67_1 := blk_frozen BK563.out 1; have hfz67_2 := blk_frozen BK563.out 2; have p564 : 0 ≤ (((rd_T52 t536 x128_3).f0) : Int) := of_decide_eq_true (by first | (with_reducible assumption) | assumption); have q564 : ((rd_T52 t536 x128_3).f0) < (t539.length : Int) := of_decide_eq_true (by first | (with_reducible assumption) | assumption); obtain ⟨ad564, e564, hx564_0⟩ := Kd.at_int (Kd.R_reads' HO_7.out).2.2 ((rd_T52 t536 x128_3).f0) p564 q564; cases e564; have hn564_0 : ad564.block ≠ gb563 := Kd.own_blk (Kd.R_ne HO_7.out BK563.out (by decide)); have hn564_1 : ad564.block ≠ gb563 := Kd.own_blk (Kd.R_ne HO_7.out BK563.out (by decide)); have hn564_2 : ad564.block ≠ gb563 := Kd.own_blk (Kd.R_ne HO_7.out BK563.out (by decide)); replace hx564_0 := (cell_far (p := ⟨gb563, 0, none⟩) (by first | (rw [add_block]; exact hn564_0) | (show (Addr.add _ _).block ≠ _; rw [add_block]; exact hn564_0) | exact hn564_0) (.int .i64 ((rd_T52 t536 x128_3).f0))).trans hx564_0; replace hx564_0 := (cell_far (p := ⟨gb563, 1, none⟩) (by first | (rw [add_block]; exact hn564_1) | (show (Addr.add _ _).block ≠ _; rw [add_block]; exact hn564_1) | exact hn564_1) (.int .i64 ((rd_T52 t536 x128_3).f1))).trans hx564_0; replace hx564_0 := (cell_far (p := ⟨gb563, 2, none⟩) (by first | (rw [add_block]; exact hn564_2) | (show (Addr.add _ _).block ≠ _; rw [add_block]; exact hn564_2) | exact hn564_2) (.int .i64 ((rd_T52 t536 x128_3).f2))).trans hx564_0; (try have hy564_0 := fun (n_ : Nat) => (show (((((w66.drewN n_).setCell ⟨gb563, 0, none⟩ (.int .i64 ((rd_T52 t536 x128_3).f0))).setCell ⟨gb563, 1, none⟩ (.int .i64 ((rd_T52 t536 x128_3).f1))).setCell ⟨gb563, 2, none⟩ (.int .i64 ((rd_T52 t536 x128_3).f2)))).cell? _ = some _ from hx564_0)); clear hn564_0; clear hn564_1; clear hn564_2; replace p564 := eq_true p564; replace q564 := eq_true q564; have p565 : 0 ≤ (((rd_T52 t536 x128_3).f1) : Int) := of_decide_eq_true (by first | (with_reducible assumption) | assumption); have q565 : ((rd_T52 t536 x128_3).f1) < (t539.length : Int) := of_decide_eq_true (by first | (with_reducible assumption) | assumption); obtain ⟨ad565, e565, hx565_0⟩ := Kd.at_int (Kd.R_reads' HO_7.out).2.2 ((rd_T52 t536 x128_3).f1) p565 q565; obtain rfl : ad564 = ad565 := (by injection e565); have hn565_0 : ad564.block ≠ gb563 := Kd.own_blk (Kd.R_ne HO_7.out BK563.out (by decide)); have hn565_1 : ad564.block ≠ gb563 := Kd.own_blk (Kd.R_ne HO_7.out BK563.out (by decide)); have hn565_2 : ad564.block ≠ gb563 := Kd.own_blk (Kd.R_ne HO_7.out BK563.out (by decide)); replace hx565_0 := (cell_far (p := ⟨gb563, 0, none⟩) (by first | (rw [add_block]; exact hn565_0) | (show (Addr.add _ _).block ≠ _; rw [add_block]; exact hn565_0) | exact hn565_0) (.int .i64 ((rd_T52 t536 x128_3).f0))).trans hx565_0; replace hx565_0 := (cell_far (p := ⟨gb563, 1, none⟩) (by first | (rw [add_block]; exact hn565_1) | (show (Addr.add _ _).block ≠ _; rw [add_block]; exact hn565_1) | exact hn565_1) (.int .i64 ((rd_T52 t536 x128_3).f1))).trans hx565_0; replace hx565_0 := (cell_far (p := ⟨gb563, 2, none⟩) (by first | (rw [add_block]; exact hn565_2) | (show (Addr.add _ _).block ≠ _; rw [add_block]; exact hn565_2) | exact hn565_2) (.int .i64 ((rd_T52 t536 x128_3).f2))).trans hx565_0; (try have hy565_0 := fun (n_ : Nat) => (show (((((w66.drewN n_).setCell ⟨gb563, 0, none⟩ (.int .i64 ((rd_T52 t536 x128_3).f0))).setCell ⟨gb563, 1, none⟩ (.int .i64 ((rd_T52 t536 x128_3).f1))).setCell ⟨gb563, 2, none⟩ (.int .i64 ((rd_T52 t536 x128_3).f2)))).cell? _ = some _ from hx565_0)); clear hn565_0; clear hn565_1; clear hn565_2; replace p565 := eq_true p565; replace q565 := eq_true q565)); try go_wp2_with (first | ((with_reducible refine gate_dst (N := 20) rfl ?_); (try (refine gate_guard (by rfl) ?_; dsimp only)); refine box_event ?hg (N := 20) ?hd (cs := #[.int .i64 0, .int .i64 0, .int .i64 0]) (t := 52) ?hr ?_; (case hd => rfl); (case hg => rfl); (case hr => first | (go_simp; done) | (go_simp; rfl)); intro gb563 hg w66 hbox hb; have n0_ := Aside0.mk (Kd.R_below (Kd.R_elderB (by (with_reducible repeat (first | apply Kd.R_alloc | apply Kd.R_drewN | apply Kd.R_drew)); exact HO_6.out) gb563 (Nat.le_of_eq hg.symm)) hb); have n1_ := Aside0.mk (Kd.R_below (by (with_reducible repeat (first | apply Kd.R_alloc | apply Kd.R_drewN | apply Kd.R_drew)); exact HO_7.out) hb); have n2_ := Aside0.mk (Kd.R_below (Kd.R_elderB (by (with_reducible repeat (first | apply Kd.R_alloc | apply Kd.R_drewN | apply Kd.R_drew)); exact HO_126.out) gb563 (Nat.le_of_eq hg.symm)) hb); have n3_ := Aside0.mk (below_step (by repeat (first | (with_reducible first | exact HB.out | apply below_alloc | apply pw_below_drewN | apply below_drew1) | exact HB.out)) hb); have n4_ := Aside0.mk (hbox); have n5_ := Aside0.mk ((by rw [hg]; exact (below_size (by repeat (first | (with_reducible first | exact HB.out | apply below_alloc | apply pw_below_drewN | apply below_drew1) | exact HB.out))) : w.heap.size ≤ gb563)); have n6_ := Aside0.mk ((by rw [hg]; exact (below_size (by repeat (first | (with_reducible first | exact HB.out | apply below_alloc | apply pw_below_drewN | apply below_drew1) | exact HB.out))) : w.heap.size ≤ gb563)); clear HO_6; clear HO_7; clear HO_126; clear HB; have HO_6 := n0_; have HO_7 := n1_; have HO_126 := n2_; have HB := n3_; have BK563 := n4_; have GW563 := n5_; have GE563 := n6_; clear n0_ n1_ n2_ n3_ n4_ n5_ n6_; clear hb hbox hg; have hcz67_0 : w66.cell? ⟨gb563, 0, none⟩ = some (.int .i64 0) := (blk_cell BK563.out 0).trans rfl; have hcz67_1 : w66.cell? ⟨gb563, 1, none⟩ = some (.int .i64 0) := (blk_cell BK563.out 1).trans rfl; have hcz67_2 : w66.cell? ⟨gb563, 2, none⟩ = some (.int .i64 0) := (blk_cell BK563.out 2).trans rfl; have hfz67_0 := blk_frozen BK563.out 0; have hfz67_1 := blk_frozen BK563.out 1; have hfz67_2 := blk_frozen BK563.out 2; have p564 : 0 ≤ (((rd_T52 t536 x128_3).f0) : Int) := of_decide_eq_true (by first | (with_reducible assumption) | assumption); have q564 : ((rd_T52 t536 x128_3).f0) < (t539.length : Int) := of_decide_eq_true (by first | (with_reducible assumption) | assumption); obtain ⟨ad564, e564, hx564_0⟩ := Kd.at_int (Kd.R_reads' HO_7.out).2.2 ((rd_T52 t536 x128_3).f0) p564 q564; cases e564; have hn564_0 : ad564.block ≠ gb563 := Kd.own_blk (Kd.R_ne HO_7.out BK563.out (by decide)); have hn564_1 : ad564.block ≠ gb563 := Kd.own_blk (Kd.R_ne HO_7.out BK563.out (by decide)); have hn564_2 : ad564.block ≠ gb563 := Kd.own_blk (Kd.R_ne HO_7.out BK563.out (by decide)); replace hx564_0 := (cell_far (p := ⟨gb563, 0, none⟩) (by first | (rw [add_block]; exact hn564_0) | (show (Addr.add _ _).block ≠ _; rw [add_block]; exact hn564_0) | exact hn564_0) (.int .i64 ((rd_T52 t536 x128_3).f0))).trans hx564_0; replace hx564_0 := (cell_far (p := ⟨gb563, 1, none⟩) (by first | (rw [add_block]; exact hn564_1) | (show (Addr.add _ _).block ≠ _; rw [add_block]; exact hn564_1) | exact hn564_1) (.int .i64 ((rd_T52 t536 x128_3).f1))).trans hx564_0; replace hx564_0 := (cell_far (p := ⟨gb563, 2, none⟩) (by first | (rw [add_block]; exact hn564_2) | (show (Addr.add _ _).block ≠ _; rw [add_block]; exact hn564_2) | exact hn564_2) (.int .i64 ((rd_T52 t536 x128_3).f2))).trans hx564_0; (try have hy564_0 := fun (n_ : Nat) => (show (((((w66.drewN n_).setCell ⟨gb563, 0, none⟩ (.int .i64 ((rd_T52 t536 x128_3).f0))).setCell ⟨gb563, 1, none⟩ (.int .i64 ((rd_T52 t536 x128_3).f1))).setCell ⟨gb563, 2, none⟩ (.int .i64 ((rd_T52 t536 x128_3).f2)))).cell? _ = some _ from hx564_0)); clear hn564_0; clear hn564_1; clear hn564_2; replace p564 := eq_true p564; replace q564 := eq_true q564; have p565 : 0 ≤ (((rd_T52 t536 x128_3).f1) : Int) := of_decide_eq_true (by first | (with_reducible assumption) | assumption); have q565 : ((rd_T52 t536 x128_3).f1) < (t539.length : Int) := of_decide_eq_true (by first | (with_reducible assumption) | assumption); obtain ⟨ad565, e565, hx565_0⟩ := Kd.at_int (Kd.R_reads' HO_7.out).2.2 ((rd_T52 t536 x128_3).f1) p565 q565; obtain rfl : ad564 = ad565 := (by injection e565); have hn565_0 : ad564.block ≠ gb563 := Kd.own_blk (Kd.R_ne HO_7.out BK563.out (by decide)); have hn565_1 : ad564.block ≠ gb563 := Kd.own_blk (Kd.R_ne HO_7.out BK563.out (by decide)); have hn565_2 : ad564.block ≠ gb563 := Kd.own_blk (Kd.R_ne HO_7.out BK563.out (by decide)); replace hx565_0 := (cell_far (p := ⟨gb563, 0, none⟩) (by first | (rw [add_block]; exact hn565_0) | (show (Addr.add _ _).block ≠ _; rw [add_block]; exact hn565_0) | exact hn565_0) (.int .i64 ((rd_T52 t536 x128_3).f0))).trans hx565_0; replace hx565_0 := (cell_far (p := ⟨gb563, 1, none⟩) (by first | (rw [add_block]; exact hn565_1) | (show (Addr.add _ _).block ≠ _; rw [add_block]; exact hn565_1) | exact hn565_1) (.int .i64 ((rd_T52 t536 x128_3).f1))).trans hx565_0; replace hx565_0 := (cell_far (p := ⟨gb563, 2, none⟩) (by first | (rw [add_block]; exact hn565_2) | (show (Addr.add _ _).block ≠ _; rw [add_block]; exact hn565_2) | exact hn565_2) (.int .i64 ((rd_T52 t536 x128_3).f2))).trans hx565_0; (try have hy565_0 := fun (n_ : Nat) => (show (((((w66.drewN n_).setCell ⟨gb563, 0, none⟩ (.int .i64 ((rd_T52 t536 x128_3).f0))).setCell ⟨gb563, 1, none⟩ (.int .i64 ((rd_T52 t536 x128_3).f1))).setCell ⟨gb563, 2, none⟩ (.int .i64 ((rd_T52 t536 x128_3).f2)))).cell? _ = some _ from hx565_0)); clear hn565_0; clear hn565_1; clear hn565_2; replace p565 := eq_true p565; replace q565 := eq_true q565)))
                                        go_roundg k3
                                        case measure => have := HJ8.out; have := HK2.out; have := HK3.out; omega
                                        case rel => exact ⟨(wrap64 (x128_3 + 1)), (by first | rfl | (simp; done) | (simp [*]; done)), H', ⟨by have := HJ8.out; have := HK2.out; have := HK3.out; omega⟩, ⟨by (with_reducible repeat (first | apply Kd.R_alloc | apply Kd.R_drewN | apply Kd.R_drew)); exact Kd.R_mono (Kd.R_far (p := ⟨gb563, 2, none⟩) (Kd.R_far (p := ⟨gb563, 1, none⟩) (Kd.R_far (p := ⟨gb563, 0, none⟩) (Kd.R_mono HO_6.out (fun k_ hk => (⟨hk, hk.2⟩ : _ ∧ k_ ≠ gb563))) (fun _ hk => hk.2) (.int .i64 ((rd_T52 t536 x128_3).f0))) (fun _ hk => hk.2) (.int .i64 ((rd_T52 t536 x128_3).f1))) (fun _ hk => hk.2) (.int .i64 ((rd_T52 t536 x128_3).f2))) (fun _ hk => trivial)⟩, ⟨by (with_reducible repeat (first | apply Kd.R_alloc | apply Kd.R_drewN | apply Kd.R_drew)); exact Kd.R_mono (Kd.R_far (p := ⟨gb563, 2, none⟩) (Kd.R_far (p := ⟨gb563, 1, none⟩) (Kd.R_far (p := ⟨gb563, 0, none⟩) (Kd.R_types HO_7.out BK563.out (by decide)) (fun _ hk => hk.2) (.int .i64 ((rd_T52 t536 x128_3).f0))) (fun _ hk => hk.2) (.int .i64 ((rd_T52 t536 x128_3).f1))) (fun _ hk => hk.2) (.int .i64 ((rd_T52 t536 x128_3).f2))) (fun _ hk => trivial)⟩, ⟨by (with_reducible repeat (first | apply Kd.R_alloc | apply Kd.R_drewN | apply Kd.R_drew)); exact Kd.R_mono (Kd.R_far (p := ⟨gb563, 2, none⟩) (Kd.R_far (p := ⟨gb563, 1, none⟩) (Kd.R_far (p := ⟨gb563, 0, none⟩) (Kd.R_mono HO_126.out (fun k_ hk => (⟨hk, hk.2⟩ : _ ∧ k_ ≠ gb563))) (fun _ hk => hk.2) (.int .i64 ((rd_T52 t536 x128_3).f0))) (fun _ hk => hk.2) (.int .i64 ((rd_T52 t536 x128_3).f1))) (fun _ hk => hk.2) (.int .i64 ((rd_T52 t536 x128_3).f2))) (fun _ hk => trivial)⟩, ⟨by repeat (first | (with_reducible first | exact HB.out | apply below_alloc | apply pw_below_drewN | apply below_drew1 | refine below_set ?_ GE563.out) | exact HB.out)⟩⟩
                                    · rw [if_neg c65] at H
                                      have c65b0 : ((rd t539 ((rd_T52 t536 x128_3).f0)) == (rd t539 ((rd_T52 t536 x128_3).f1))) = false := beq_eq_false_iff_ne.mpr c65
                                      have c65b1 : ((rd t539 ((rd_T52 t536 x128_3).f0)) != (rd t539 ((rd_T52 t536 x128_3).f1))) = true := bne_iff_ne.mpr c65
                                      as_aux_lemma =>
                                        obtain rfl := Option.some.inj H
                                        have p562 : 0 ≤ (x128_3 : Int) := of_decide_eq_true (by first | (with_reducible assumption) | assumption)
                                        have q562 : x128_3 < (t536.length : Int) := of_decide_eq_true (by first | (with_reducible assumption) | assumption)
                                        obtain ⟨ad562, e562, hx562_0, hx562_1, hx562_2⟩ := at_T52 (Kd.R_reads' HO_126.out).2.2 x128_3 p562 q562
                                        cases e562
                                        replace p562 := eq_true p562
                                        replace q562 := eq_true q562
                                        go_wp2_with (first | ((with_reducible refine gate_dst (N := 20) rfl ?_); (try (refine gate_guard (by rfl) ?_; dsimp only)); refine box_event ?hg (N := 20) ?hd (cs := #[.int .i64 0, .int .i64 0, .int .i64 0]) (t := 52) ?hr ?_; (case hd => rfl); (case hg => rfl); (case hr => first | (go_simp; done) | (go_simp; rfl)); intro gb563 hg w68 hbox hb; have n0_ := Aside0.mk (Kd.R_below (Kd.R_elderB (by (with_reducible repeat (first | apply Kd.R_alloc | apply Kd.R_drewN | apply Kd.R_drew)); exact HO_6.out) gb563 (Nat.le_of_eq hg.symm)) hb); have n1_ := Aside0.mk (Kd.R_below (by (with_reducible repeat (first | apply Kd.R_alloc | apply Kd.R_drewN | apply Kd.R_drew)); exact HO_7.out) hb); have n2_ := Aside0.mk (Kd.R_below (Kd.R_elderB (by (with_reducible repeat (first | apply Kd.R_alloc | apply Kd.R_drewN | apply Kd.R_drew)); exact HO_126.out) gb563 (Nat.le_of_eq hg.symm)) hb); have n3_ := Aside0.mk (below_step (by repeat (first | (with_reducible first | exact HB.out | apply below_alloc | apply pw_below_drewN | apply below_drew1) | exact HB.out)) hb); have n4_ := Aside0.mk (hbox); have n5_ := Aside0.mk ((by rw [hg]; exact (below_size (by repeat (first | (with_reducible first | exact HB.out | apply below_alloc | apply pw_below_drewN | apply below_drew1) | exact HB.out))) : w.heap.size ≤ gb563)); have n6_ := Aside0.mk ((by rw [hg]; exact (below_size (by repeat (first | (with_reducible first | exact HB.out | apply below_alloc | apply pw_below_drewN | apply below_drew1) | exact HB.out))) : w.heap.size ≤ gb563)); clear HO_6; clear HO_7; clear HO_126; clear HB; have HO_6 := n0_; have HO_7 := n1_; have HO_126 := n2_; have HB := n3_; have BK563 := n4_; have GW563 := n5_; have GE563 := n6_; clear n0_ n1_ n2_ n3_ n4_ n5_ n6_; clear hb hbox hg; have hcz69_0 : w68.cell? ⟨gb563, 0, none⟩ = some (.int .i64 0) := (blk_cell BK563.out 0).trans rfl; have hcz69_1 : w68.cell? ⟨gb563, 1, none⟩ = some (.int .i64 0) := (blk_cell BK563.out 1).trans rfl; have hcz69_2 : w68.cell? ⟨gb563, 2, none⟩ = some (.int .i64 0) := (blk_cell BK563.out 2).trans rfl; have hfz69_0 := blk_frozen BK563.out 0; have hfz69_1 := blk_frozen BK563.out 1; have hfz69_2 := blk_frozen BK563.out 2; have p564 : 0 ≤ (((rd_T52 t536 x128_3).f0) : Int) := of_decide_eq_true (by first | (with_reducible assumption) | assumption); have q564 : ((rd_T52 t536 x128_3).f0) < (t539.length : Int) := of_decide_eq_true (by first | (with_reducible assumption) | assumption); obtain ⟨ad564, e564, hx564_0⟩ := Kd.at_int (Kd.R_reads' HO_7.out).2.2 ((rd_T52 t536 x128_3).f0) p564 q564; cases e564; have hn564_0 : ad564.block ≠ gb563 := Kd.own_blk (Kd.R_ne HO_7.out BK563.out (by decide)); have hn564_1 : ad564.block ≠ gb563 := Kd.own_blk (Kd.R_ne HO_7.out BK563.out (by decide)); have hn564_2 : ad564.block ≠ gb563 := Kd.own_blk (Kd.R_ne HO_7.out BK563.out (by decide)); replace hx564_0 := (cell_far (p := ⟨gb563, 0, none⟩) (by first | (rw [add_block]; exact hn564_0) | (show (Addr.add _ _).block ≠ _; rw [add_block]; exact hn564_0) | exact hn564_0) (.int .i64 ((rd_T52 t536 x128_3).f0))).trans hx564_0; replace hx564_0 := (cell_far (p := ⟨gb563, 1, none⟩) (by first | (rw [add_block]; exact hn564_1) | (show (Addr.add _ _).block ≠ _; rw [add_block]; exact hn564_1) | exact hn564_1) (.int .i64 ((rd_T52 t536 x128_3).f1))).trans hx564_0; replace hx564_0 := (cell_far (p := ⟨gb563, 2, none⟩) (by first | (rw [add_block]; exact hn564_2) | (show (Addr.add _ _).block ≠ _; rw [add_block]; exact hn564_2) | exact hn564_2) (.int .i64 ((rd_T52 t536 x128_3).f2))).trans hx564_0; (try have hy564_0 := fun (n_ : Nat) => (show (((((w68.drewN n_).setCell ⟨gb563, 0, none⟩ (.int .i64 ((rd_T52 t536 x128_3).f0))).setCell ⟨gb563, 1, none⟩ (.int .i64 ((rd_T52 t536 x128_3).f1))).setCell ⟨gb563, 2, none⟩ (.int .i64 ((rd_T52 t536 x128_3).f2)))).cell? _ = some _ from hx564_0)); clear hn564_0; clear hn564_1; clear hn564_2; replace p564 := eq_true p564; replace q564 := eq_true q564; have p565 : 0 ≤ (((rd_T52 t536 x128_3).f1) : Int) := of_decide_eq_true (by first | (with_reducible assumption) | assumption); have q565 : ((rd_T52 t536 x128_3).f1) < (t539.length : Int) := of_decide_eq_true (by first | (with_reducible assumption) | assumption); obtain ⟨ad565, e565, hx565_0⟩ := Kd.at_int (Kd.R_reads' HO_7.out).2.2 ((rd_T52 t536 x128_3).f1) p565 q565; obtain rfl : ad564 = ad565 := (by injection e565); have hn565_0 : ad564.block ≠ gb563 := Kd.own_blk (Kd.R_ne HO_7.out BK563.out (by decide)); have hn565_1 : ad564.block ≠ gb563 := Kd.own_blk (Kd.R_ne HO_7.out BK563.out (by decide)); have hn565_2 : ad564.block ≠ gb563 := Kd.own_blk (Kd.R_ne HO_7.out BK563.out (by decide)); replace hx565_0 := (cell_far (p := ⟨gb563, 0, none⟩) (by first | (rw [add_block]; exact hn565_0) | (show (Addr.add _ _).block ≠ _; rw [add_block]; exact hn565_0) | exact hn565_0) (.int .i64 ((rd_T52 t536 x128_3).f0))).trans hx565_0; replace hx565_0 := (cell_far (p := ⟨gb563, 1, none⟩) (by first | (rw [add_block]; exact hn565_1) | (show (Addr.add _ _).block ≠ _; rw [add_block]; exact hn565_1) | exact hn565_1) (.int .i64 ((rd_T52 t536 x128_3).f1))).trans hx565_0; replace hx565_0 := (cell_far (p := ⟨gb563, 2, none⟩) (by first | (rw [add_block]; exact hn565_2) | (show (Addr.add _ _).block ≠ _; rw [add_block]; exact hn565_2) | exact hn565_2) (.int .i64 ((rd_T52 t536 x128_3).f2))).trans hx565_0; (try have hy565_0 := fun (n_ : Nat) => (show (((((w68.drewN n_).setCell ⟨gb563, 0, none⟩ (.int .i64 ((rd_T52 t536 x128_3).f0))).setCell ⟨gb563, 1, none⟩ (.int .i64 ((rd_T52 t536 x128_3).f1))).setCell ⟨gb563, 2, none⟩ (.int .i64 ((rd_T52 t536 x128_3).f2)))).cell? _ = some _ from hx565_0)); clear hn565_0; clear hn565_1; clear hn565_2; replace p565 := eq_true p565; replace q565 := eq_true q565))
                                        repeat (go_quiet (first | ((with_reducible refine gate_dst (N := 20) rfl ?_); (try (refine gate_guard (by rfl) ?_; dsimp only)); refine box_event ?hg (N := 20) ?hd (cs := #[.int .i64 0, .int .i64 0, .int .i64 0]) (t := 52) ?hr ?_; (case hd => rfl); (case hg => rfl); (case hr => first | (go_simp; done) | (go_simp; rfl)); intro gb563 hg w68 hbox hb; have n0_ := Aside0.mk (Kd.R_below (Kd.R_elderB (by (with_reducible repeat (first | apply Kd.R_alloc | apply Kd.R_drewN | apply Kd.R_drew)); exact HO_6.out) gb563 (Nat.le_of_eq hg.symm)) hb); have n1_ := Aside0.mk (Kd.R_below (by (with_reducible repeat (first | apply Kd.R_alloc | apply Kd.R_drewN | apply Kd.R_drew)); exact HO_7.out) hb); have n2_ := Aside0.mk (Kd.R_below (Kd.R_elderB (by (with_reducible repeat (first | apply Kd.R_alloc | apply Kd.R_drewN | apply Kd.R_drew)); exact HO_126.out) gb563 (Nat.le_of_eq hg.symm)) hb); have n3_ := Aside0.mk (below_step (by repeat (first | (with_reducible first | exact HB.out | apply below_alloc | apply pw_below_drewN | apply below_drew1) | exact HB.out)) hb); have n4_ := Aside0.mk (hbox); have n5_ := Aside0.mk ((by rw [hg]; exact (below_size (by repeat (first | (with_reducible first | exact HB.out | apply below_alloc | apply pw_below_drewN | apply below_drew1) | exact HB.out))) : w.heap.size ≤ gb563)); have n6_ := Aside0.mk ((by rw [hg]; exact (below_size (by repeat (first | (with_reducible first | exact HB.out | apply below_alloc | apply pw_below_drewN | apply below_drew1) | exact HB.out))) : w.heap.size ≤ gb563)); clear HO_6; clear HO_7; clear HO_126; clear HB; have HO_6 := n0_; have HO_7 := n1_; have HO_126 := n2_; have HB := n3_; have BK563 := n4_; have GW563 := n5_; have GE563 := n6_; clear n0_ n1_ n2_ n3_ n4_ n5_ n6_; clear hb hbox hg; have hcz69_0 : w68.cell? ⟨gb563, 0, none⟩ = some (.int .i64 0) := (blk_cell BK563.out 0).trans rfl; have hcz69_1 : w68.cell? ⟨gb563, 1, none⟩ = some (.int .i64 0) := (blk_cell BK563.out 1).trans rfl; have hcz69_2 : w68.cell? ⟨gb563, 2, none⟩ = some (.int .i64 0) := (blk_cell BK563.out 2).trans rfl; have hfz69_0 := blk_frozen BK563.out 0; have hfz69_1 := blk_frozen BK563.out 1; have hfz69_2 := blk_frozen BK563.out 2; have p564 : 0 ≤ (((rd_T52 t536 x128_3).f0) : Int) := of_decide_eq_true (by first | (with_reducible assumption) | assumption); have q564 : ((rd_T52 t536 x128_3).f0) < (t539.length : Int) := of_decide_eq_true (by first | (with_reducible assumption) | assumption); obtain ⟨ad564, e564, hx564_0⟩ := Kd.at_int (Kd.R_reads' HO_7.out).2.2 ((rd_T52 t536 x128_3).f0) p564 q564; cases e564; have hn564_0 : ad564.block ≠ gb563 := Kd.own_blk (Kd.R_ne HO_7.out BK563.out (by decide)); have hn564_1 : ad564.block ≠ gb563 := Kd.own_blk (Kd.R_ne HO_7.out BK563.out (by decide)); have hn564_2 : ad564.block ≠ gb563 := Kd.own_blk (Kd.R_ne HO_7.out BK563.out (by decide)); replace hx564_0 := (cell_far (p := ⟨gb563, 0, none⟩) (by first | (rw [add_block]; exact hn564_0) | (show (Addr.add _ _).block ≠ _; rw [add_block]; exact hn564_0) | exact hn564_0) (.int .i64 ((rd_T52 t536 x128_3).f0))).trans hx564_0; replace hx564_0 := (cell_far (p := ⟨gb563, 1, none⟩) (by first | (rw [add_block]; exact hn564_1) | (show (Addr.add _ _).block ≠ _; rw [add_block]; exact hn564_1) | exact hn564_1) (.int .i64 ((rd_T52 t536 x128_3).f1))).trans hx564_0; replace hx564_0 := (cell_far (p := ⟨gb563, 2, none⟩) (by first | (rw [add_block]; exact hn564_2) | (show (Addr.add _ _).block ≠ _; rw [add_block]; exact hn564_2) | exact hn564_2) (.int .i64 ((rd_T52 t536 x128_3).f2))).trans hx564_0; (try have hy564_0 := fun (n_ : Nat) => (show (((((w68.drewN n_).setCell ⟨gb563, 0, none⟩ (.int .i64 ((rd_T52 t536 x128_3).f0))).setCell ⟨gb563, 1, none⟩ (.int .i64 ((rd_T52 t536 x128_3).f1))).setCell ⟨gb563, 2, none⟩ (.int .i64 ((rd_T52 t536 x128_3).f2)))).cell? _ = some _ from hx564_0)); clear hn564_0; clear hn564_1; clear hn564_2; replace p564 := eq_true p564; replace q564 := eq_true q564; have p565 : 0 ≤ (((rd_T52 t536 x128_3).f1) : Int) := of_decide_eq_true (by first | (with_reducible assumption) | assumption); have q565 : ((rd_T52 t536 x128_3).f1) < (t539.length : Int) := of_decide_eq_true (by first | (with_reducible assumption) | assumption); obtain ⟨ad565, e565, hx565_0⟩ := Kd.at_int (Kd.R_reads' HO_7.out).2.2 ((rd_T52 t536 x128_3).f1) p565 q565; obtain rfl : ad564 = ad565 := (by injection e565); have hn565_0 : ad564.block ≠ gb563 := Kd.own_blk (Kd.R_ne HO_7.out BK563.out (by decide)); have hn565_1 : ad564.block ≠ gb563 := Kd.own_blk (Kd.R_ne HO_7.out BK563.out (by decide)); have hn565_2 : ad564.block ≠ gb563 := Kd.own_blk (Kd.R_ne HO_7.out BK563.out (by decide)); replace hx565_0 := (cell_far (p := ⟨gb563, 0, none⟩) (by first | (rw [add_block]; exact hn565_0) | (show (Addr.add _ _).block ≠ _; rw [add_block]; exact hn565_0) | exact hn565_0) (.int .i64 ((rd_T52 t536 x128_3).f0))).trans hx565_0; replace hx565_0 := (cell_far (p := ⟨gb563, 1, none⟩) (by first | (rw [add_block]; exact hn565_1) | (show (Addr.add _ _).block ≠ _; rw [add_block]; exact hn565_1) | exact hn565_1) (.int .i64 ((rd_T52 t536 x128_3).f1))).trans hx565_0; replace hx565_0 := (cell_far (p := ⟨gb563, 2, none⟩) (by first | (rw [add_block]; exact hn565_2) | (show (Addr.add _ _).block ≠ _; rw [add_block]; exact hn565_2) | exact hn565_2) (.int .i64 ((rd_T52 t536 x128_3).f2))).trans hx565_0; (try have hy565_0 := fun (n_ : Nat) => (show (((((w68.drewN n_).setCell ⟨gb563, 0, none⟩ (.int .i64 ((rd_T52 t536 x128_3).f0))).setCell ⟨gb563, 1, none⟩ (.int .i64 ((rd_T52 t536 x128_3).f1))).setCell ⟨gb563, 2, none⟩ (.int .i64 ((rd_T52 t536 x128_3).f2)))).cell? _ = some _ from hx565_0)); clear hn565_0; clear hn565_1; clear hn565_2; replace p565 := eq_true p565; replace q565 := eq_true q565)); try go_wp2_with (first | ((with_reducible refine gate_dst (N := 20) rfl ?_); (try (refine gate_guard (by rfl) ?_; dsimp only)); refine box_event ?hg (N := 20) ?hd (cs := #[.int .i64 0, .int .i64 0, .int .i64 0]) (t := 52) ?hr ?_; (case hd => rfl); (case hg => rfl); (case hr => first | (go_simp; done) | (go_simp; rfl)); intro gb563 hg w68 hbox hb; have n0_ := Aside0.mk (Kd.R_below (Kd.R_elderB (by (with_reducible repeat (first | apply Kd.R_alloc | apply Kd.R_drewN | apply Kd.R_drew)); exact HO_6.out) gb563 (Nat.le_of_eq hg.symm)) hb); have n1_ := Aside0.mk (Kd.R_below (by (with_reducible repeat (first | apply Kd.R_alloc | apply Kd.R_drewN | apply Kd.R_drew)); exact HO_7.out) hb); have n2_ := Aside0.mk (Kd.R_below (Kd.R_elderB (by (with_reducible repeat (first | apply Kd.R_alloc | apply Kd.R_drewN | apply Kd.R_drew)); exact HO_126.out) gb563 (Nat.le_of_eq hg.symm)) hb); have n3_ := Aside0.mk (below_step (by repeat (first | (with_reducible first | exact HB.out | apply below_alloc | apply pw_below_drewN | apply below_drew1) | exact HB.out)) hb); have n4_ := Aside0.mk (hbox); have n5_ := Aside0.mk ((by rw [hg]; exact (below_size (by repeat (first | (with_reducible first | exact HB.out | apply below_alloc | apply pw_below_drewN | apply below_drew1) | exact HB.out))) : w.heap.size ≤ gb563)); have n6_ := Aside0.mk ((by rw [hg]; exact (below_size (by repeat (first | (with_reducible first | exact HB.out | apply below_alloc | apply pw_below_drewN | apply below_drew1) | exact HB.out))) : w.heap.size ≤ gb563)); clear HO_6; clear HO_7; clear HO_126; clear HB; have HO_6 := n0_; have HO_7 := n1_; have HO_126 := n2_; have HB := n3_; have BK563 := n4_; have GW563 := n5_; have GE563 := n6_; clear n0_ n1_ n2_ n3_ n4_ n5_ n6_; clear hb hbox hg; have hcz69_0 : w68.cell? ⟨gb563, 0, none⟩ = some (.int .i64 0) := (blk_cell BK563.out 0).trans rfl; have hcz69_1 : w68.cell? ⟨gb563, 1, none⟩ = some (.int .i64 0) := (blk_cell BK563.out 1).trans rfl; have hcz69_2 : w68.cell? ⟨gb563, 2, none⟩ = some (.int .i64 0) := (blk_cell BK563.out 2).trans rfl; have hfz69_0 := blk_frozen BK563.out 0; have hfz69_1 := blk_frozen BK563.out 1; have hfz69_2 := blk_frozen BK563.out 2; have p564 : 0 ≤ (((rd_T52 t536 x128_3).f0) : Int) := of_decide_eq_true (by first | (with_reducible assumption) | assumption); have q564 : ((rd_T52 t536 x128_3).f0) < (t539.length : Int) := of_decide_eq_true (by first | (with_reducible assumption) | assumption); obtain ⟨ad564, e564, hx564_0⟩ := Kd.at_int (Kd.R_reads' HO_7.out).2.2 ((rd_T52 t536 x128_3).f0) p564 q564; cases e564; have hn564_0 : ad564.block ≠ gb563 := Kd.own_blk (Kd.R_ne HO_7.out BK563.out (by decide)); have hn564_1 : ad564.block ≠ gb563 := Kd.own_blk (Kd.R_ne HO_7.out BK563.out (by decide)); have hn564_2 : ad564.block ≠ gb563 := Kd.own_blk (Kd.R_ne HO_7.out BK563.out (by decide)); replace hx564_0 := (cell_far (p := ⟨gb563, 0, none⟩) (by first | (rw [add_block]; exact hn564_0) | (show (Addr.add _ _).block ≠ _; rw [add_block]; exact hn564_0) | exact hn564_0) (.int .i64 ((rd_T52 t536 x128_3).f0))).trans hx564_0; replace hx564_0 := (cell_far (p := ⟨gb563, 1, none⟩) (by first | (rw [add_block]; exact hn564_1) | (show (Addr.add _ _).block ≠ _; rw [add_block]; exact hn564_1) | exact hn564_1) (.int .i64 ((rd_T52 t536 x128_3).f1))).trans hx564_0; replace hx564_0 := (cell_far (p := ⟨gb563, 2, none⟩) (by first | (rw [add_block]; exact hn564_2) | (show (Addr.add _ _).block ≠ _; rw [add_block]; exact hn564_2) | exact hn564_2) (.int .i64 ((rd_T52 t536 x128_3).f2))).trans hx564_0; (try have hy564_0 := fun (n_ : Nat) => (show (((((w68.drewN n_).setCell ⟨gb563, 0, none⟩ (.int .i64 ((rd_T52 t536 x128_3).f0))).setCell ⟨gb563, 1, none⟩ (.int .i64 ((rd_T52 t536 x128_3).f1))).setCell ⟨gb563, 2, none⟩ (.int .i64 ((rd_T52 t536 x128_3).f2)))).cell? _ = some _ from hx564_0)); clear hn564_0; clear hn564_1; clear hn564_2; replace p564 := eq_true p564; replace q564 := eq_true q564; have p565 : 0 ≤ (((rd_T52 t536 x128_3).f1) : Int) := of_decide_eq_true (by first | (with_reducible assumption) | assumption); have q565 : ((rd_T52 t536 x128_3).f1) < (t539.length : Int) := of_decide_eq_true (by first | (with_reducible assumption) | assumption); obtain ⟨ad565, e565, hx565_0⟩ := Kd.at_int (Kd.R_reads' HO_7.out).2.2 ((rd_T52 t536 x128_3).f1) p565 q565; obtain rfl : ad564 = ad565 := (by injection e565); have hn565_0 : ad564.block ≠ gb563 := Kd.own_blk (Kd.R_ne HO_7.out BK563.out (by decide)); have hn565_1 : ad564.block ≠ gb563 := Kd.own_blk (Kd.R_ne HO_7.out BK563.out (by decide)); have hn565_2 : ad564.block ≠ gb563 := Kd.own_blk (Kd.R_ne HO_7.out BK563.out (by decide)); replace hx565_0 := (cell_far (p := ⟨gb563, 0, none⟩) (by first | (rw [add_block]; exact hn565_0) | (show (Addr.add _ _).block ≠ _; rw [add_block]; exact hn565_0) | exact hn565_0) (.int .i64 ((rd_T52 t536 x128_3).f0))).trans hx565_0; replace hx565_0 := (cell_far (p := ⟨gb563, 1, none⟩) (by first | (rw [add_block]; exact hn565_1) | (show (Addr.add _ _).block ≠ _; rw [add_block]; exact hn565_1) | exact hn565_1) (.int .i64 ((rd_T52 t536 x128_3).f1))).trans hx565_0; replace hx565_0 := (cell_far (p := ⟨gb563, 2, none⟩) (by first | (rw [add_block]; exact hn565_2) | (show (Addr.add _ _).block ≠ _; rw [add_block]; exact hn565_2) | exact hn565_2) (.int .i64 ((rd_T52 t536 x128_3).f2))).trans hx565_0; (try have hy565_0 := fun (n_ : Nat) => (show (((((w68.drewN n_).setCell ⟨gb563, 0, none⟩ (.int .i64 ((rd_T52 t536 x128_3).f0))).setCell ⟨gb563, 1, none⟩ (.int .i64 ((rd_T52 t536 x128_3).f1))).setCell ⟨gb563, 2, none⟩ (.int .i64 ((rd_T52 t536 x128_3).f2)))).cell? _ = some _ from hx565_0)); clear hn565_0; clear hn565_1; clear hn565_2; replace p565 := eq_true p565; replace q565 := eq_true q565)))
                                        go_ret
                                        exact ⟨by first | rfl | (simp [errW_none, errW_some] <;> rfl) | (simp [*, errW_none, errW_some] <;> rfl), by repeat (first | (with_reducible first | exact HB.out | apply below_alloc | apply pw_below_drewN | apply below_drew1 | refine below_set ?_ GE563.out) | exact HB.out)⟩
                                  · rw [if_neg c64] at H
                                    exact absurd H (by simp)
                                · rw [if_neg c63] at H
                                  exact absurd H (by simp)
                              · rw [if_neg c62] at H
                                exact absurd H (by simp)
                            · rw [if_neg c61] at H
                              exact absurd H (by simp)
                          · rw [if_neg c60] at H
                            exact absurd H (by simp)
                        · rw [if_neg c59] at H
                          exact absurd H (by simp)
                      · rw [if_neg c58] at H
                        have c58b0 : decide (x128_3 < (t536.length : Int)) = false := decide_eq_false c58
                        clear c58
                        have H' := Aside0.mk H
                        clear H
                        go_wp2
                        repeat (go_quiet (fail); try go_wp2)
                        go_loopg [21, 146] k3 (fun kq v21 v146 w' => ∃ (x21_4 : Int) (x146_4 : Int), v21 = .int .i64 x21_4 ∧ v146 = .int .i64 x146_4 ∧ Aside0 (laws_FnGroups.l2 kq l1 t535 t536 t548 x15_2 x16_2 x21_4 (t536.length : Int) x146_4 = some r) ∧ Aside0 (kq ≤ k3) ∧ Aside0 (Kd.R k52 52 w' w.heap.size (fun _ => True) (.slice Ao11 t536.length co11) t536) ∧ Aside0 (Below w.heap.size w w'))
                        case atStart => exact ⟨(0), (0), (by first | rfl | (simp; done) | (simp [*]; done)), (by first | rfl | (simp; done) | (simp [*]; done)), H', ⟨Nat.le_refl _⟩, ⟨by (with_reducible repeat (first | apply Kd.R_alloc | apply Kd.R_drewN | apply Kd.R_drew)); exact HO_6.out⟩, ⟨by repeat (first | (with_reducible first | exact HB.out | apply below_alloc | apply pw_below_drewN | apply below_drew1) | exact HB.out)⟩⟩
                        case round =>
                          clear H'
                          try clear c1
                          try clear c2
                          try clear p2
                          try clear c3
                          try clear c3b0
                          try clear c4
                          try clear c5
                          try clear p5
                          try clear q5
                          try clear hx5
                          try clear c6
                          try clear p6
                          try clear c8
                          try clear c16
                          try clear c16b0
                          try clear c16b1
                          try clear c16b2
                          try clear c18
                          try clear c19
                          try clear c19b0
                          try clear c19b1
                          try clear c19b2
                          try clear c23
                          try clear c36
                          try clear c37
                          try clear c39
                          try clear c39b0
                          try clear c40
                          try clear c40b0
                          try clear c41
                          try clear c41b0
                          try clear c42
                          try clear c42b0
                          try clear c43
                          try clear c43b0
                          try clear c43b1
                          try clear c44
                          try clear c44b0
                          try clear c46
                          try clear c46b0
                          try clear c47
                          try clear c47b0
                          try clear c48
                          try clear c48b0
                          try clear c48b1
                          try clear c51
                          try clear c51b0
                          try clear c53
                          try clear c53b0
                          try clear c54
                          try clear c54b0
                          try clear c55
                          try clear c55b0
                          try clear c55b1
                          try clear p55
                          try clear q55
                          try clear hx55
                          try clear p56
                          try clear q56
                          try clear hx56
                          try clear c58
                          try clear c58b0
                          try clear c59
                          try clear c59b0
                          try clear c60
                          try clear c60b0
                          try clear c61
                          try clear c61b0
                          try clear c62
                          try clear c62b0
                          try clear c63
                          try clear c63b0
                          try clear c64
                          try clear c64b0
                          try clear p64
                          try clear c65
                          try clear c65b0
                          try clear c65b1
                          try clear hcz67_0
                          try clear hcz67_1
                          try clear hcz67_2
                          try clear hcz69_0
                          try clear hcz69_1
                          try clear hcz69_2
                          try clear hfz67_0
                          try clear hfz67_1
                          try clear hfz67_2
                          try clear hfz69_0
                          try clear hfz69_1
                          try clear hfz69_2
                          try clear hx558_0
                          try clear hx559_0
                          try clear hx560_0
                          try clear hx561_0
                          try clear hx562_0
                          try clear hx562_1
                          try clear hx562_2
                          try clear hx564_0
                          try clear hx565_0
                          try clear p2
                          try clear p5
                          try clear p55
                          try clear p558
                          try clear p559
                          try clear p56
                          try clear p560
                          try clear p561
                          try clear p562
                          try clear p564
                          try clear p565
                          try clear p6
                          try clear q5
                          try clear q55
                          try clear q558
                          try clear q559
                          try clear q56
                          try clear q560
                          try clear q561
                          try clear q562
                          try clear q564
                          try clear q565
                          obtain ⟨x21_4, x146_4, rfl, rfl, HA, HK4, HO_6, HB⟩ := hrel
                          cases gk with
                          | zero => exact absurd HA.out (by simp [laws_FnGroups.l2])
                          | succ k4 =>
                            have H := HA.out
                            clear HA
                            simp only [laws_FnGroups.l2] at H
                            by_cases c70 : x146_4 < (t536.length : Int)
                            · rw [if_pos c70] at H
                              have c70b0 : decide (x146_4 < (t536.length : Int)) = true := decide_eq_true c70
                              clear c70
                              by_cases c71 : 0 ≤ x146_4
                              · rw [if_pos c71] at H
                                have c71b0 := eq_true c71
                                have c71b1 : decide (0 ≤ x146_4) = true := decide_eq_true c71
                                clear c71
                                by_cases c72 : x146_4 ≤ (t536.length : Int)
                                · rw [if_pos c72] at H
                                  have c72b0 := eq_true c72
                                  have c72b1 : decide (x146_4 ≤ (t536.length : Int)) = true := decide_eq_true c72
                                  clear c72
                                  obtain ⟨y566, hy566⟩ : ∃ y_ : List (S52), y_ = (t536.take (x146_4 : Int).toNat) := ⟨_, rfl⟩
                                  replace H : ((impl_GroupsOf.f k4 t535 y566).bind fun bt570 => (if bt570.2 = true then (if x146_4 < (t536.length : Int) then (if 0 ≤ ((rd_T52 t536 x146_4).f0) then (if ((rd_T52 t536 x146_4).f0) < (bt570.1.length : Int) then (if 0 ≤ ((rd_T52 t536 x146_4).f1) then (if ((rd_T52 t536 x146_4).f1) < (bt570.1.length : Int) then (if (rd bt570.1 ((rd_T52 t536 x146_4).f0)) = (rd bt570.1 ((rd_T52 t536 x146_4).f1)) then (laws_FnGroups.l2 k4 l1 t535 t536 t548 x15_2 x16_2 x21_4 (t536.length : Int) (wrap64 (x146_4 + 1))) else (laws_FnGroups.l2 k4 l1 t535 t536 t548 x15_2 x16_2 (wrap64 (x21_4 + 1)) (t536.length : Int) (wrap64 (x146_4 + 1)))) else (none)) else (none)) else (none)) else (none)) else (none)) else (some false))) = some r := by first | (rw [hy566]; with_reducible exact H) | (have H2_ := (Option.bind_some _ _).symm.trans H; rw [hy566]; with_reducible exact H2_) | (have H2_ := (Option.bind_some _ _).symm.trans H; with_reducible exact H2_) | with_reducible exact H | (rw [hy566]; exact H) | exact H
                                  have Ny566 := Aside0.mk hy566
                                  clear hy566
                                  replace H := Option.bind_eq_some_iff.mp H
                                  obtain ⟨⟨t570, t571⟩, A730, H⟩ := H
                                  replace H : (if t571 = true then (if x146_4 < (t536.length : Int) then (if 0 ≤ ((rd_T52 t536 x146_4).f0) then (if ((rd_T52 t536 x146_4).f0) < (t570.length : Int) then (if 0 ≤ ((rd_T52 t536 x146_4).f1) then (if ((rd_T52 t536 x146_4).f1) < (t570.length : Int) then (if (rd t570 ((rd_T52 t536 x146_4).f0)) = (rd t570 ((rd_T52 t536 x146_4).f1)) then (laws_FnGroups.l2 k4 l1 t535 t536 t548 x15_2 x16_2 x21_4 (t536.length : Int) (wrap64 (x146_4 + 1))) else (laws_FnGroups.l2 k4 l1 t535 t536 t548 x15_2 x16_2 (wrap64 (x21_4 + 1)) (t536.length : Int) (wrap64 (x146_4 + 1)))) else (none)) else (none)) else (none)) else (none)) else (none)) else (some false)) = some r := H
                                  have A73 := Aside0.mk A730
                                  clear A730
                                  by_cases c74 : t571 = true
                                  · subst c74
                                    have H1 : (if x146_4 < (t536.length : Int) then (if 0 ≤ ((rd_T52 t536 x146_4).f0) then (if ((rd_T52 t536 x146_4).f0) < (t570.length : Int) then (if 0 ≤ ((rd_T52 t536 x146_4).f1) then (if ((rd_T52 t536 x146_4).f1) < (t570.length : Int) then (if (rd t570 ((rd_T52 t536 x146_4).f0)) = (rd t570 ((rd_T52 t536 x146_4).f1)) then (laws_FnGroups.l2 k4 l1 t535 t536 t548 x15_2 x16_2 x21_4 (t536.length : Int) (wrap64 (x146_4 + 1))) else (laws_FnGroups.l2 k4 l1 t535 t536 t548 x15_2 x16_2 (wrap64 (x21_4 + 1)) (t536.length : Int) (wrap64 (x146_4 + 1)))) else (none)) else (none)) else (none)) else (none)) else (none)) = some r := by rw [if_pos rfl] at H; exact H
                                    clear H
                                    have H := H1
                                    clear H1
                                    by_cases c75 : x146_4 < (t536.length : Int)
                                    · rw [if_pos c75] at H
                                      have c75b0 : decide (x146_4 < (t536.length : Int)) = true := decide_eq_true c75
                                      clear c75
                                      by_cases c76 : 0 ≤ ((rd_T52 t536 x146_4).f0)
                                      · rw [if_pos c76] at H
                                        have c76b0 : decide (0 ≤ ((rd_T52 t536 x146_4).f0)) = true := decide_eq_true c76
                                        clear c76
                                        by_cases c77 : ((rd_T52 t536 x146_4).f0) < (t570.length : Int)
                                        · rw [if_pos c77] at H
                                          have c77b0 : decide (((rd_T52 t536 x146_4).f0) < (t570.length : Int)) = true := decide_eq_true c77
                                          clear c77
                                          by_cases c78 : 0 ≤ ((rd_T52 t536 x146_4).f1)
                                          · rw [if_pos c78] at H
                                            have c78b0 : decide (0 ≤ ((rd_T52 t536 x146_4).f1)) = true := decide_eq_true c78
                                            clear c78
                                            by_cases c79 : ((rd_T52 t536 x146_4).f1) < (t570.length : Int)
                                            · rw [if_pos c79] at H
                                              have c79b0 : decide (((rd_T52 t536 x146_4).f1) < (t570.length : Int)) = true := decide_eq_true c79
                                              clear c79
                                              by_cases c80 : (rd t570 ((rd_T52 t536 x146_4).f0)) = (rd t570 ((rd_T52 t536 x146_4).f1))
                                              · rw [if_pos c80] at H
                                                have c80b0 : ((rd t570 ((rd_T52 t536 x146_4).f0)) == (rd t570 ((rd_T52 t536 x146_4).f1))) = true := beq_iff_eq.mpr c80
                                                have c80b1 : ((rd t570 ((rd_T52 t536 x146_4).f0)) != (rd t570 ((rd_T52 t536 x146_4).f1))) = false := bne_eq_false_iff_eq.mpr c80
                                                clear c80
                                                as_aux_lemma =>
                                                  have H' := Aside0.mk H
                                                  clear H
                                                  have q81 : (x146_4 : Int) ≤ ((t536.length : Int) : Int) := of_decide_eq_true (by first | (with_reducible assumption) | assumption)
                                                  obtain ⟨i081, hi081, _, hsz81, _⟩ := info_parts info52
                                                  have hroom81 : t536.length ≤ co11 := (Kd.R_reads' HO_6.out).2.1
                                                  have hC81 : Kd.C k52 _ Ao11 t536.length t536 := (Kd.R_reads' HO_6.out).2.2
                                                  have hcut81 := cut_to (P := Try.prog) 26 52 .i64 Try.underlying26 hi081 Ao11 t536.length co11 x146_4 (of_decide_eq_true (by first | (with_reducible assumption) | assumption)) q81 hroom81
                                                  have hr81 := Kd.C_take (m := (x146_4 : Int).toNat) hC81 (by omega)
                                                  have hy81 : y566.length = (x146_4 : Int).toNat := (by rw [Ny566.out, List.length_take]; omega)
                                                  rw [← Ny566.out] at hr81
                                                  rw [← hy81] at hcut81
                                                  have HR569 := Aside0.mk hr81
                                                  have HC569 := Aside0.mk (show y566.length ≤ co11 from by omega)
                                                  clear hr81 hC81 hroom81 hi081 hsz81
                                                  have KY81 := Aside0.mk hy81
                                                  clear hy81
                                                  have KL81 := Aside0.mk (show (x146_4 : Int).toNat ≤ t536.length from by omega)
                                                  replace q81 := eq_true q81
                                                  go_wp2_with (first | (go_at_call 16; (with_reducible refine (impl_GroupsOf.calls k4 t535 _ _ y566 t570 true _ ?side1 ?side2 A73.out).mono ?_); (case side1 => repeat (first | exact (by repeat (first | (with_reducible exact HR569.out) | (with_reducible refine Kd.C_alloc ?_ _) | (with_reducible refine Kd.C_drewN ?_ _) | (with_reducible refine Kd.C_drew ?_) | exact HR569.out)) | (with_reducible refine Kd.C_alloc ?_ _) | (with_reducible refine Kd.C_drewN ?_ _) | (with_reducible refine Kd.C_drew ?_))); (case side2 => exact HC569.out); rintro e w82 ⟨v572, rfl, ho0, hb⟩; have n0_ := Aside0.mk (Kd.R_below (by (with_reducible repeat (first | apply Kd.R_alloc | apply Kd.R_drewN | apply Kd.R_drew)); exact HO_6.out) hb); have n1_ := Aside0.mk (Kd.R_lower ho0 (below_size (by repeat (first | (with_reducible first | exact HB.out | apply below_alloc | apply pw_below_drewN | apply below_drew1) | exact HB.out)))); have n2_ := Aside0.mk (Kd.C_below (by repeat (first | (with_reducible exact HR569.out) | (with_reducible refine Kd.C_alloc ?_ _) | (with_reducible refine Kd.C_drewN ?_ _) | (with_reducible refine Kd.C_drew ?_) | exact HR569.out)) hb); have n3_ := Aside0.mk (below_step (by repeat (first | (with_reducible first | exact HB.out | apply below_alloc | apply pw_below_drewN | apply below_drew1) | exact HB.out)) hb); clear HO_6; clear HR569; clear HB; have HO_6 := n0_; have HO573 := n1_; have HR569 := n2_; have HB := n3_; clear n0_ n1_ n2_ n3_; (try clear hb); (try clear hb2); (try clear hk); (try clear hi); (try clear ho0); have p574 : 0 ≤ (x146_4 : Int) := of_decide_eq_true (by first | (with_reducible assumption) | assumption); have q574 : x146_4 < (t536.length : Int) := of_decide_eq_true (by first | (with_reducible assumption) | assumption); obtain ⟨ad574, e574, hx574_0, hx574_1, hx574_2⟩ := at_T52 (Kd.R_reads' HO_6.out).2.2 x146_4 p574 q574; cases e574; replace p574 := eq_true p574; replace q574 := eq_true q574; obtain ⟨Ao83, co83, eo83⟩ := Kd.R_slice HO573.out; subst eo83; have p575 : 0 ≤ (((rd_T52 t536 x146_4).f0) : Int) := of_decide_eq_true (by first | (with_reducible assumption) | assumption); have q575 : ((rd_T52 t536 x146_4).f0) < (t570.length : Int) := of_decide_eq_true (by first | (with_reducible assumption) | assumption); obtain ⟨ad575, e575, hx575_0⟩ := Kd.at_int (Kd.R_reads' HO573.out).2.2 ((rd_T52 t536 x146_4).f0) p575 q575; cases e575; replace p575 := eq_true p575; replace q575 := eq_true q575; have p576 : 0 ≤ (x146_4 : Int) := of_decide_eq_true (by first | (with_reducible assumption) | assumption); have q576 : x146_4 < (t536.length : Int) := of_decide_eq_true (by first | (with_reducible assumption) | assumption); obtain ⟨ad576, e576, hx576_0, hx576_1, hx576_2⟩ := at_T52 (Kd.R_reads' HO_6.out).2.2 x146_4 p576 q576; obtain rfl : ad574 = ad576 := (by injection e576); replace p576 := eq_true p576; replace q576 := eq_true q576; have p577 : 0 ≤ (((rd_T52 t536 x146_4).f1) : Int) := of_decide_eq_true (by first | (with_reducible assumption) | assumption); have q577 : ((rd_T52 t536 x146_4).f1) < (t570.length : Int) := of_decide_eq_true (by first | (with_reducible assumption) | assumption); obtain ⟨ad577, e577, hx577_0⟩ := Kd.at_int (Kd.R_reads' HO573.out).2.2 ((rd_T52 t536 x146_4).f1) p577 q577; obtain rfl : ad575 = ad577 := (by injection e577); replace p577 := eq_true p577; replace q577 := eq_true q577))
                                                  repeat (go_quiet (first | (go_at_call 16; (with_reducible refine (impl_GroupsOf.calls k4 t535 _ _ y566 t570 true _ ?side1 ?side2 A73.out).mono ?_); (case side1 => repeat (first | exact (by repeat (first | (with_reducible exact HR569.out) | (with_reducible refine Kd.C_alloc ?_ _) | (with_reducible refine Kd.C_drewN ?_ _) | (with_reducible refine Kd.C_drew ?_) | exact HR569.out)) | (with_reducible refine Kd.C_alloc ?_ _) | (with_reducible refine Kd.C_drewN ?_ _) | (with_reducible refine Kd.C_drew ?_))); (case side2 => exact HC569.out); rintro e w82 ⟨v572, rfl, ho0, hb⟩; have n0_ := Aside0.mk (Kd.R_below (by (with_reducible repeat (first | apply Kd.R_alloc | apply Kd.R_drewN | apply Kd.R_drew)); exact HO_6.out) hb); have n1_ := Aside0.mk (Kd.R_lower ho0 (below_size (by repeat (first | (with_reducible first | exact HB.out | apply below_alloc | apply pw_below_drewN | apply below_drew1) | exact HB.out)))); have n2_ := Aside0.mk (Kd.C_below (by repeat (first | (with_reducible exact HR569.out) | (with_reducible refine Kd.C_alloc ?_ _) | (with_reducible refine Kd.C_drewN ?_ _) | (with_reducible refine Kd.C_drew ?_) | exact HR569.out)) hb); have n3_ := Aside0.mk (below_step (by repeat (first | (with_reducible first | exact HB.out | apply below_alloc | apply pw_below_drewN | apply below_drew1) | exact HB.out)) hb); clear HO_6; clear HR569; clear HB; have HO_6 := n0_; have HO573 := n1_; have HR569 := n2_; have HB := n3_; clear n0_ n1_ n2_ n3_; (try clear hb); (try clear hb2); (try clear hk); (try clear hi); (try clear ho0); have p574 : 0 ≤ (x146_4 : Int) := of_decide_eq_true (by first | (with_reducible assumption) | assumption); have q574 : x146_4 < (t536.length : Int) := of_decide_eq_true (by first | (with_reducible assumption) | assumption); obtain ⟨ad574, e574, hx574_0, hx574_1, hx574_2⟩ := at_T52 (Kd.R_reads' HO_6.out).2.2 x146_4 p574 q574; cases e574; replace p574 := eq_true p574; replace q574 := eq_true q574; obtain ⟨Ao83, co83, eo83⟩ := Kd.R_slice HO573.out; subst eo83; have p575 : 0 ≤ (((rd_T52 t536 x146_4).f0) : Int) := of_decide_eq_true (by first | (with_reducible assumption) | assumption); have q575 : ((rd_T52 t536 x146_4).f0) < (t570.length : Int) := of_decide_eq_true (by first | (with_reducible assumption) | assumption); obtain ⟨ad575, e575, hx575_0⟩ := Kd.at_int (Kd.R_reads' HO573.out).2.2 ((rd_T52 t536 x146_4).f0) p575 q575; cases e575; replace p575 := eq_true p575; replace q575 := eq_true q575; have p576 : 0 ≤ (x146_4 : Int) := of_decide_eq_true (by first | (with_reducible assumption) | assumption); have q576 : x146_4 < (t536.length : Int) := of_decide_eq_true (by first | (with_reducible assumption) | assumption); obtain ⟨ad576, e576, hx576_0, hx576_1, hx576_2⟩ := at_T52 (Kd.R_reads' HO_6.out).2.2 x146_4 p576 q576; obtain rfl : ad574 = ad576 := (by injection e576); replace p576 := eq_true p576; replace q576 := eq_true q576; have p577 : 0 ≤ (((rd_T52 t536 x146_4).f1) : Int) := of_decide_eq_true (by first | (with_reducible assumption) | assumption); have q577 : ((rd_T52 t536 x146_4).f1) < (t570.length : Int) := of_decide_eq_true (by first | (with_reducible assumption) | assumption); obtain ⟨ad577, e577, hx577_0⟩ := Kd.at_int (Kd.R_reads' HO573.out).2.2 ((rd_T52 t536 x146_4).f1) p577 q577; obtain rfl : ad575 = ad577 := (by injection e577); replace p577 := eq_true p577; replace q577 := eq_true q577)); try go_wp2_with (first | (go_at_call 16; (with_reducible refine (impl_GroupsOf.calls k4 t535 _ _ y566 t570 true _ ?side1 ?side2 A73.out).mono ?_); (case side1 => repeat (first | exact (by repeat (first | (with_reducible exact HR569.out) | (with_reducible refine Kd.C_alloc ?_ _) | (with_reducible refine Kd.C_drewN ?_ _) | (with_reducible refine Kd.C_drew ?_) | exact HR569.out)) | (with_reducible refine Kd.C_alloc ?_ _) | (with_reducible refine Kd.C_drewN ?_ _) | (with_reducible refine Kd.C_drew ?_))); (case side2 => exact HC569.out); rintro e w82 ⟨v572, rfl, ho0, hb⟩; have n0_ := Aside0.mk (Kd.R_below (by (with_reducible repeat (first | apply Kd.R_alloc | apply Kd.R_drewN | apply Kd.R_drew)); exact HO_6.out) hb); have n1_ := Aside0.mk (Kd.R_lower ho0 (below_size (by repeat (first | (with_reducible first | exact HB.out | apply below_alloc | apply pw_below_drewN | apply below_drew1) | exact HB.out)))); have n2_ := Aside0.mk (Kd.C_below (by repeat (first | (with_reducible exact HR569.out) | (with_reducible refine Kd.C_alloc ?_ _) | (with_reducible refine Kd.C_drewN ?_ _) | (with_reducible refine Kd.C_drew ?_) | exact HR569.out)) hb); have n3_ := Aside0.mk (below_step (by repeat (first | (with_reducible first | exact HB.out | apply below_alloc | apply pw_below_drewN | apply below_drew1) | exact HB.out)) hb); clear HO_6; clear HR569; clear HB; have HO_6 := n0_; have HO573 := n1_; have HR569 := n2_; have HB := n3_; clear n0_ n1_ n2_ n3_; (try clear hb); (try clear hb2); (try clear hk); (try clear hi); (try clear ho0); have p574 : 0 ≤ (x146_4 : Int) := of_decide_eq_true (by first | (with_reducible assumption) | assumption); have q574 : x146_4 < (t536.length : Int) := of_decide_eq_true (by first | (with_reducible assumption) | assumption); obtain ⟨ad574, e574, hx574_0, hx574_1, hx574_2⟩ := at_T52 (Kd.R_reads' HO_6.out).2.2 x146_4 p574 q574; cases e574; replace p574 := eq_true p574; replace q574 := eq_true q574; obtain ⟨Ao83, co83, eo83⟩ := Kd.R_slice HO573.out; subst eo83; have p575 : 0 ≤ (((rd_T52 t536 x146_4).f0) : Int) := of_decide_eq_true (by first | (with_reducible assumption) | assumption); have q575 : ((rd_T52 t536 x146_4).f0) < (t570.length : Int) := of_decide_eq_true (by first | (with_reducible assumption) | assumption); obtain ⟨ad575, e575, hx575_0⟩ := Kd.at_int (Kd.R_reads' HO573.out).2.2 ((rd_T52 t536 x146_4).f0) p575 q575; cases e575; replace p575 := eq_true p575; replace q575 := eq_true q575; have p576 : 0 ≤ (x146_4 : Int) := of_decide_eq_true (by first | (with_reducible assumption) | assumption); have q576 : x146_4 < (t536.length : Int) := of_decide_eq_true (by first | (with_reducible assumption) | assumption); obtain ⟨ad576, e576, hx576_0, hx576_1, hx576_2⟩ := at_T52 (Kd.R_reads' HO_6.out).2.2 x146_4 p576 q576; obtain rfl : ad574 = ad576 := (by injection e576); replace p576 := eq_true p576; replace q576 := eq_true q576; have p577 : 0 ≤ (((rd_T52 t536 x146_4).f1) : Int) := of_decide_eq_true (by first | (with_reducible assumption) | assumption); have q577 : ((rd_T52 t536 x146_4).f1) < (t570.length : Int) := of_decide_eq_true (by first | (with_reducible assumption) | assumption); obtain ⟨ad577, e577, hx577_0⟩ := Kd.at_int (Kd.R_reads' HO573.out).2.2 ((rd_T52 t536 x146_4).f1) p577 q577; obtain rfl : ad575 = ad577 := (by injection e577); replace p577 := eq_true p577; replace q577 := eq_true q577)))
                                                  go_roundg k4
                                                  case measure => have := HJ8.out; have := HK2.out; have := HK3.out; have := HK4.out; omega
                                                  case rel => exact ⟨(x21_4), (wrap64 (x146_4 + 1)), (by first | rfl | (simp; done) | (simp [*]; done)), (by first | rfl | (simp; done) | (simp [*]; done)), H', ⟨by have := HJ8.out; have := HK2.out; have := HK3.out; have := HK4.out; omega⟩, ⟨by (with_reducible repeat (first | apply Kd.R_alloc | apply Kd.R_drewN | apply Kd.R_drew)); exact HO_6.out⟩, ⟨by repeat (first | (with_reducible first | exact HB.out | apply below_alloc | apply pw_below_drewN | apply below_drew1) | exact HB.out)⟩⟩
                                              · rw [if_neg c80] at H
                                                have c80b0 : ((rd t570 ((rd_T52 t536 x146_4).f0)) == (rd t570 ((rd_T52 t536 x146_4).f1))) = false := beq_eq_false_iff_ne.mpr c80
                                                have c80b1 : ((rd t570 ((rd_T52 t536 x146_4).f0)) != (rd t570 ((rd_T52 t536 x146_4).f1))) = true := bne_iff_ne.mpr c80
                                                as_aux_lemma =>
                                                  have H' := Aside0.mk H
                                                  clear H
                                                  have q84 : (x146_4 : Int) ≤ ((t536.length : Int) : Int) := of_decide_eq_true (by first | (with_reducible assumption) | assumption)
                                                  obtain ⟨i084, hi084, _, hsz84, _⟩ := info_parts info52
                                                  have hroom84 : t536.length ≤ co11 := (Kd.R_reads' HO_6.out).2.1
                                                  have hC84 : Kd.C k52 _ Ao11 t536.length t536 := (Kd.R_reads' HO_6.out).2.2
                                                  have hcut84 := cut_to (P := Try.prog) 26 52 .i64 Try.underlying26 hi084 Ao11 t536.length co11 x146_4 (of_decide_eq_true (by first | (with_reducible assumption) | assumption)) q84 hroom84
                                                  have hr84 := Kd.C_take (m := (x146_4 : Int).toNat) hC84 (by omega)
                                                  have hy84 : y566.length = (x146_4 : Int).toNat := (by rw [Ny566.out, List.length_take]; omega)
                                                  rw [← Ny566.out] at hr84
                                                  rw [← hy84] at hcut84
                                                  have HR569 := Aside0.mk hr84
                                                  have HC569 := Aside0.mk (show y566.length ≤ co11 from by omega)
                                                  clear hr84 hC84 hroom84 hi084 hsz84
                                                  have KY84 := Aside0.mk hy84
                                                  clear hy84
                                                  have KL84 := Aside0.mk (show (x146_4 : Int).toNat ≤ t536.length from by omega)
                                                  replace q84 := eq_true q84
                                                  go_wp2_with (first | (go_at_call 16; (with_reducible refine (impl_GroupsOf.calls k4 t535 _ _ y566 t570 true _ ?side1 ?side2 A73.out).mono ?_); (case side1 => repeat (first | exact (by repeat (first | (with_reducible exact HR569.out) | (with_reducible refine Kd.C_alloc ?_ _) | (with_reducible refine Kd.C_drewN ?_ _) | (with_reducible refine Kd.C_drew ?_) | exact HR569.out)) | (with_reducible refine Kd.C_alloc ?_ _) | (with_reducible refine Kd.C_drewN ?_ _) | (with_reducible refine Kd.C_drew ?_))); (case side2 => exact HC569.out); rintro e w85 ⟨v572, rfl, ho0, hb⟩; have n0_ := Aside0.mk (Kd.R_below (by (with_reducible repeat (first | apply Kd.R_alloc | apply Kd.R_drewN | apply Kd.R_drew)); exact HO_6.out) hb); have n1_ := Aside0.mk (Kd.R_lower ho0 (below_size (by repeat (first | (with_reducible first | exact HB.out | apply below_alloc | apply pw_below_drewN | apply below_drew1) | exact HB.out)))); have n2_ := Aside0.mk (Kd.C_below (by repeat (first | (with_reducible exact HR569.out) | (with_reducible refine Kd.C_alloc ?_ _) | (with_reducible refine Kd.C_drewN ?_ _) | (with_reducible refine Kd.C_drew ?_) | exact HR569.out)) hb); have n3_ := Aside0.mk (below_step (by repeat (first | (with_reducible first | exact HB.out | apply below_alloc | apply pw_below_drewN | apply below_drew1) | exact HB.out)) hb); clear HO_6; clear HR569; clear HB; have HO_6 := n0_; have HO573 := n1_; have HR569 := n2_; have HB := n3_; clear n0_ n1_ n2_ n3_; (try clear hb); (try clear hb2); (try clear hk); (try clear hi); (try clear ho0); have p574 : 0 ≤ (x146_4 : Int) := of_decide_eq_true (by first | (with_reducible assumption) | assumption); have q574 : x146_4 < (t536.length : Int) := of_decide_eq_true (by first | (with_reducible assumption) | assumption); obtain ⟨ad574, e574, hx574_0, hx574_1, hx574_2⟩ := at_T52 (Kd.R_reads' HO_6.out).2.2 x146_4 p574 q574; cases e574; replace p574 := eq_true p574; replace q574 := eq_true q574; obtain ⟨Ao86, co86, eo86⟩ := Kd.R_slice HO573.out; subst eo86; have p575 : 0 ≤ (((rd_T52 t536 x146_4).f0) : Int) := of_decide_eq_true (by first | (with_reducible assumption) | assumption); have q575 : ((rd_T52 t536 x146_4).f0) < (t570.length : Int) := of_decide_eq_true (by first | (with_reducible assumption) | assumption); obtain ⟨ad575, e575, hx575_0⟩ := Kd.at_int (Kd.R_reads' HO573.out).2.2 ((rd_T52 t536 x146_4).f0) p575 q575; cases e575; replace p575 := eq_true p575; replace q575 := eq_true q575; have p576 : 0 ≤ (x146_4 : Int) := of_decide_eq_true (by first | (with_reducible assumption) | assumption); have q576 : x146_4 < (t536.length : Int) := of_decide_eq_true (by first | (with_reducible assumption) | assumption); obtain ⟨ad576, e576, hx576_0, hx576_1, hx576_2⟩ := at_T52 (Kd.R_reads' HO_6.out).2.2 x146_4 p576 q576; obtain rfl : ad574 = ad576 := (by injection e576); replace p576 := eq_true p576; replace q576 := eq_true q576; have p577 : 0 ≤ (((rd_T52 t536 x146_4).f1) : Int) := of_decide_eq_true (by first | (with_reducible assumption) | assumption); have q577 : ((rd_T52 t536 x146_4).f1) < (t570.length : Int) := of_decide_eq_true (by first | (with_reducible assumption) | assumption); obtain ⟨ad577, e577, hx577_0⟩ := Kd.at_int (Kd.R_reads' HO573.out).2.2 ((rd_T52 t536 x146_4).f1) p577 q577; obtain rfl : ad575 = ad577 := (by injection e577); replace p577 := eq_true p577; replace q577 := eq_true q577))
                                                  repeat (go_quiet (first | (go_at_call 16; (with_reducible refine (impl_GroupsOf.calls k4 t535 _ _ y566 t570 true _ ?side1 ?side2 A73.out).mono ?_); (case side1 => repeat (first | exact (by repeat (first | (with_reducible exact HR569.out) | (with_reducible refine Kd.C_alloc ?_ _) | (with_reducible refine Kd.C_drewN ?_ _) | (with_reducible refine Kd.C_drew ?_) | exact HR569.out)) | (with_reducible refine Kd.C_alloc ?_ _) | (with_reducible refine Kd.C_drewN ?_ _) | (with_reducible refine Kd.C_drew ?_))); (case side2 => exact HC569.out); rintro e w85 ⟨v572, rfl, ho0, hb⟩; have n0_ := Aside0.mk (Kd.R_below (by (with_reducible repeat (first | apply Kd.R_alloc | apply Kd.R_drewN | apply Kd.R_drew)); exact HO_6.out) hb); have n1_ := Aside0.mk (Kd.R_lower ho0 (below_size (by repeat (first | (with_reducible first | exact HB.out | apply below_alloc | apply pw_below_drewN | apply below_drew1) | exact HB.out)))); have n2_ := Aside0.mk (Kd.C_below (by repeat (first | (with_reducible exact HR569.out) | (with_reducible refine Kd.C_alloc ?_ _) | (with_reducible refine Kd.C_drewN ?_ _) | (with_reducible refine Kd.C_drew ?_) | exact HR569.out)) hb); have n3_ := Aside0.mk (below_step (by repeat (first | (with_reducible first | exact HB.out | apply below_alloc | apply pw_below_drewN | apply below_drew1) | exact HB.out)) hb); clear HO_6; clear HR569; clear HB; have HO_6 := n0_; have HO573 := n1_; have HR569 := n2_; have HB := n3_; clear n0_ n1_ n2_ n3_; (try clear hb); (try clear hb2); (try clear hk); (try clear hi); (try clear ho0); have p574 : 0 ≤ (x146_4 : Int) := of_decide_eq_true (by first | (with_reducible assumption) | assumption); have q574 : x146_4 < (t536.length : Int) := of_decide_eq_true (by first | (with_reducible assumption) | assumption); obtain ⟨ad574, e574, hx574_0, hx574_1, hx574_2⟩ := at_T52 (Kd.R_reads' HO_6.out).2.2 x146_4 p574 q574; cases e574; replace p574 := eq_true p574; replace q574 := eq_true q574; obtain ⟨Ao86, co86, eo86⟩ := Kd.R_slice HO573.out; subst eo86; have p575 : 0 ≤ (((rd_T52 t536 x146_4).f0) : Int) := of_decide_eq_true (by first | (with_reducible assumption) | assumption); have q575 : ((rd_T52 t536 x146_4).f0) < (t570.length : Int) := of_decide_eq_true (by first | (with_reducible assumption) | assumption); obtain ⟨ad575, e575, hx575_0⟩ := Kd.at_int (Kd.R_reads' HO573.out).2.2 ((rd_T52 t536 x146_4).f0) p575 q575; cases e575; replace p575 := eq_true p575; replace q575 := eq_true q575; have p576 : 0 ≤ (x146_4 : Int) := of_decide_eq_true (by first | (with_reducible assumption) | assumption); have q576 : x146_4 < (t536.length : Int) := of_decide_eq_true (by first | (with_reducible assumption) | assumption); obtain ⟨ad576, e576, hx576_0, hx576_1, hx576_2⟩ := at_T52 (Kd.R_reads' HO_6.out).2.2 x146_4 p576 q576; obtain rfl : ad574 = ad576 := (by injection e576); replace p576 := eq_true p576; replace q576 := eq_true q576; have p577 : 0 ≤ (((rd_T52 t536 x146_4).f1) : Int) := of_decide_eq_true (by first | (with_reducible assumption) | assumption); have q577 : ((rd_T52 t536 x146_4).f1) < (t570.length : Int) := of_decide_eq_true (by first | (with_reducible assumption) | assumption); obtain ⟨ad577, e577, hx577_0⟩ := Kd.at_int (Kd.R_reads' HO573.out).2.2 ((rd_T52 t536 x146_4).f1) p577 q577; obtain rfl : ad575 = ad577 := (by injection e577); replace p577 := eq_true p577; replace q577 := eq_true q577)); try go_wp2_with (first | (go_at_call 16; (with_reducible refine (impl_GroupsOf.calls k4 t535 _ _ y566 t570 true _ ?side1 ?side2 A73.out).mono ?_); (case side1 => repeat (first | exact (by repeat (first | (with_reducible exact HR569.out) | (with_reducible refine Kd.C_alloc ?_ _) | (with_reducible refine Kd.C_drewN ?_ _) | (with_reducible refine Kd.C_drew ?_) | exact HR569.out)) | (with_reducible refine Kd.C_alloc ?_ _) | (with_reducible refine Kd.C_drewN ?_ _) | (with_reducible refine Kd.C_drew ?_))); (case side2 => exact HC569.out); rintro e w85 ⟨v572, rfl, ho0, hb⟩; have n0_ := Aside0.mk (Kd.R_below (by (with_reducible repeat (first | apply Kd.R_alloc | apply Kd.R_drewN | apply Kd.R_drew)); exact HO_6.out) hb); have n1_ := Aside0.mk (Kd.R_lower ho0 (below_size (by repeat (first | (with_reducible first | exact HB.out | apply below_alloc | apply pw_below_drewN | apply below_drew1) | exact HB.out)))); have n2_ := Aside0.mk (Kd.C_below (by repeat (first | (with_reducible exact HR569.out) | (with_reducible refine Kd.C_alloc ?_ _) | (with_reducible refine Kd.C_drewN ?_ _) | (with_reducible refine Kd.C_drew ?_) | exact HR569.out)) hb); have n3_ := Aside0.mk (below_step (by repeat (first | (with_reducible first | exact HB.out | apply below_alloc | apply pw_below_drewN | apply below_drew1) | exact HB.out)) hb); clear HO_6; clear HR569; clear HB; have HO_6 := n0_; have HO573 := n1_; have HR569 := n2_; have HB := n3_; clear n0_ n1_ n2_ n3_; (try clear hb); (try clear hb2); (try clear hk); (try clear hi); (try clear ho0); have p574 : 0 ≤ (x146_4 : Int) := of_decide_eq_true (by first | (with_reducible assumption) | assumption); have q574 : x146_4 < (t536.length : Int) := of_decide_eq_true (by first | (with_reducible assumption) | assumption); obtain ⟨ad574, e574, hx574_0, hx574_1, hx574_2⟩ := at_T52 (Kd.R_reads' HO_6.out).2.2 x146_4 p574 q574; cases e574; replace p574 := eq_true p574; replace q574 := eq_true q574; obtain ⟨Ao86, co86, eo86⟩ := Kd.R_slice HO573.out; subst eo86; have p575 : 0 ≤ (((rd_T52 t536 x146_4).f0) : Int) := of_decide_eq_true (by first | (with_reducible assumption) | assumption); have q575 : ((rd_T52 t536 x146_4).f0) < (t570.length : Int) := of_decide_eq_true (by first | (with_reducible assumption) | assumption); obtain ⟨ad575, e575, hx575_0⟩ := Kd.at_int (Kd.R_reads' HO573.out).2.2 ((rd_T52 t536 x146_4).f0) p575 q575; cases e575; replace p575 := eq_true p575; replace q575 := eq_true q575; have p576 : 0 ≤ (x146_4 : Int) := of_decide_eq_true (by first | (with_reducible assumption) | assumption); have q576 : x146_4 < (t536.length : Int) := of_decide_eq_true (by first | (with_reducible assumption) | assumption); obtain ⟨ad576, e576, hx576_0, hx576_1, hx576_2⟩ := at_T52 (Kd.R_reads' HO_6.out).2.2 x146_4 p576 q576; obtain rfl : ad574 = ad576 := (by injection e576); replace p576 := eq_true p576; replace q576 := eq_true q576; have p577 : 0 ≤ (((rd_T52 t536 x146_4).f1) : Int) := of_decide_eq_true (by first | (with_reducible assumption) | assumption); have q577 : ((rd_T52 t536 x146_4).f1) < (t570.length : Int) := of_decide_eq_true (by first | (with_reducible assumption) | assumption); obtain ⟨ad577, e577, hx577_0⟩ := Kd.at_int (Kd.R_reads' HO573.out).2.2 ((rd_T52 t536 x146_4).f1) p577 q577; obtain rfl : ad575 = ad577 := (by injection e577); replace p577 := eq_true p577; replace q577 := eq_true q577)))
                                                  go_roundg k4
                                                  case measure => have := HJ8.out; have := HK2.out; have := HK3.out; have := HK4.out; omega
                                                  case rel => exact ⟨(wrap64 (x21_4 + 1)), (wrap64 (x146_4 + 1)), (by first | rfl | (simp; done) | (simp [*]; done)), (by first | rfl | (simp; done) | (simp [*]; done)), H', ⟨by have := HJ8.out; have := HK2.out; have := HK3.out; have := HK4.out; omega⟩, ⟨by (with_reducible repeat (first | apply Kd.R_alloc | apply Kd.R_drewN | apply Kd.R_drew)); exact HO_6.out⟩, ⟨by repeat (first | (with_reducible first | exact HB.out | apply below_alloc | apply pw_below_drewN | apply below_drew1) | exact HB.out)⟩⟩
                                            · rw [if_neg c79] at H
                                              exact absurd H (by simp)
                                          · rw [if_neg c78] at H
                                            exact absurd H (by simp)
                                        · rw [if_neg c77] at H
                                          exact absurd H (by simp)
                                      · rw [if_neg c76] at H
                                        exact absurd H (by simp)
                                    · rw [if_neg c75] at H
                                      exact absurd H (by simp)
                                  · replace c74 := Bool.eq_false_iff.mpr c74
                                    subst c74
                                    have H1 : (some false) = some r := by rw [if_neg (show ¬ (false = true) by decide)] at H; exact H
                                    clear H
                                    have H := H1
                                    clear H1
                                    as_aux_lemma =>
                                      obtain rfl := Option.some.inj H
                                      have q87 : (x146_4 : Int) ≤ ((t536.length : Int) : Int) := of_decide_eq_true (by first | (with_reducible assumption) | assumption)
                                      obtain ⟨i087, hi087, _, hsz87, _⟩ := info_parts info52
                                      have hroom87 : t536.length ≤ co11 := (Kd.R_reads' HO_6.out).2.1
                                      have hC87 : Kd.C k52 _ Ao11 t536.length t536 := (Kd.R_reads' HO_6.out).2.2
                                      have hcut87 := cut_to (P := Try.prog) 26 52 .i64 Try.underlying26 hi087 Ao11 t536.length co11 x146_4 (of_decide_eq_true (by first | (with_reducible assumption) | assumption)) q87 hroom87
                                      have hr87 := Kd.C_take (m := (x146_4 : Int).toNat) hC87 (by omega)
                                      have hy87 : y566.length = (x146_4 : Int).toNat := (by rw [Ny566.out, List.length_take]; omega)
                                      rw [← Ny566.out] at hr87
                                      rw [← hy87] at hcut87
                                      have HR569 := Aside0.mk hr87
                                      have HC569 := Aside0.mk (show y566.length ≤ co11 from by omega)
                                      clear hr87 hC87 hroom87 hi087 hsz87
                                      have KY87 := Aside0.mk hy87
                                      clear hy87
                                      have KL87 := Aside0.mk (show (x146_4 : Int).toNat ≤ t536.length from by omega)
                                      replace q87 := eq_true q87
                                      go_wp2_with (first | (go_at_call 16; (with_reducible refine (impl_GroupsOf.calls k4 t535 _ _ y566 t570 false _ ?side1 ?side2 A73.out).mono ?_); (case side1 => repeat (first | exact (by repeat (first | (with_reducible exact HR569.out) | (with_reducible refine Kd.C_alloc ?_ _) | (with_reducible refine Kd.C_drewN ?_ _) | (with_reducible refine Kd.C_drew ?_) | exact HR569.out)) | (with_reducible refine Kd.C_alloc ?_ _) | (with_reducible refine Kd.C_drewN ?_ _) | (with_reducible refine Kd.C_drew ?_))); (case side2 => exact HC569.out); rintro e w88 ⟨v572, rfl, ho0, hb⟩; have n0_ := Aside0.mk (Kd.R_below (by (with_reducible repeat (first | apply Kd.R_alloc | apply Kd.R_drewN | apply Kd.R_drew)); exact HO_6.out) hb); have n1_ := Aside0.mk (Kd.R_lower ho0 (below_size (by repeat (first | (with_reducible first | exact HB.out | apply below_alloc | apply pw_below_drewN | apply below_drew1) | exact HB.out)))); have n2_ := Aside0.mk (Kd.C_below (by repeat (first | (with_reducible exact HR569.out) | (with_reducible refine Kd.C_alloc ?_ _) | (with_reducible refine Kd.C_drewN ?_ _) | (with_reducible refine Kd.C_drew ?_) | exact HR569.out)) hb); have n3_ := Aside0.mk (below_step (by repeat (first | (with_reducible first | exact HB.out | apply below_alloc | apply pw_below_drewN | apply below_drew1) | exact HB.out)) hb); clear HO_6; clear HR569; clear HB; have HO_6 := n0_; have HO573 := n1_; have HR569 := n2_; have HB := n3_; clear n0_ n1_ n2_ n3_; (try clear hb); (try clear hb2); (try clear hk); (try clear hi); (try clear ho0)))
                                      repeat (go_quiet (first | (go_at_call 16; (with_reducible refine (impl_GroupsOf.calls k4 t535 _ _ y566 t570 false _ ?side1 ?side2 A73.out).mono ?_); (case side1 => repeat (first | exact (by repeat (first | (with_reducible exact HR569.out) | (with_reducible refine Kd.C_alloc ?_ _) | (with_reducible refine Kd.C_drewN ?_ _) | (with_reducible refine Kd.C_drew ?_) | exact HR569.out)) | (with_reducible refine Kd.C_alloc ?_ _) | (with_reducible refine Kd.C_drewN ?_ _) | (with_reducible refine Kd.C_drew ?_))); (case side2 => exact HC569.out); rintro e w88 ⟨v572, rfl, ho0, hb⟩; have n0_ := Aside0.mk (Kd.R_below (by (with_reducible repeat (first | apply Kd.R_alloc | apply Kd.R_drewN | apply Kd.R_drew)); exact HO_6.out) hb); have n1_ := Aside0.mk (Kd.R_lower ho0 (below_size (by repeat (first | (with_reducible first | exact HB.out | apply below_alloc | apply pw_below_drewN | apply below_drew1) | exact HB.out)))); have n2_ := Aside0.mk (Kd.C_below (by repeat (first | (with_reducible exact HR569.out) | (with_reducible refine Kd.C_alloc ?_ _) | (with_reducible refine Kd.C_drewN ?_ _) | (with_reducible refine Kd.C_drew ?_) | exact HR569.out)) hb); have n3_ := Aside0.mk (below_step (by repeat (first | (with_reducible first | exact HB.out | apply below_alloc | apply pw_below_drewN | apply below_drew1) | exact HB.out)) hb); clear HO_6; clear HR569; clear HB; have HO_6 := n0_; have HO573 := n1_; have HR569 := n2_; have HB := n3_; clear n0_ n1_ n2_ n3_; (try clear hb); (try clear hb2); (try clear hk); (try clear hi); (try clear ho0))); try go_wp2_with (first | (go_at_call 16; (with_reducible refine (impl_GroupsOf.calls k4 t535 _ _ y566 t570 false _ ?side1 ?side2 A73.out).mono ?_); (case side1 => repeat (first | exact (by repeat (first | (with_reducible exact HR569.out) | (with_reducible refine Kd.C_alloc ?_ _) | (with_reducible refine Kd.C_drewN ?_ _) | (with_reducible refine Kd.C_drew ?_) | exact HR569.out)) | (with_reducible refine Kd.C_alloc ?_ _) | (with_reducible refine Kd.C_drewN ?_ _) | (with_reducible refine Kd.C_drew ?_))); (case side2 => exact HC569.out); rintro e w88 ⟨v572, rfl, ho0, hb⟩; have n0_ := Aside0.mk (Kd.R_below (by (with_reducible repeat (first | apply Kd.R_alloc | apply Kd.R_drewN | apply Kd.R_drew)); exact HO_6.out) hb); have n1_ := Aside0.mk (Kd.R_lower ho0 (below_size (by repeat (first | (with_reducible first | exact HB.out | apply below_alloc | apply pw_below_drewN | apply below_drew1) | exact HB.out)))); have n2_ := Aside0.mk (Kd.C_below (by repeat (first | (with_reducible exact HR569.out) | (with_reducible refine Kd.C_alloc ?_ _) | (with_reducible refine Kd.C_drewN ?_ _) | (with_reducible refine Kd.C_drew ?_) | exact HR569.out)) hb); have n3_ := Aside0.mk (below_step (by repeat (first | (with_reducible first | exact HB.out | apply below_alloc | apply pw_below_drewN | apply below_drew1) | exact HB.out)) hb); clear HO_6; clear HR569; clear HB; have HO_6 := n0_; have HO573 := n1_; have HR569 := n2_; have HB := n3_; clear n0_ n1_ n2_ n3_; (try clear hb); (try clear hb2); (try clear hk); (try clear hi); (try clear ho0))))
                                      go_ret
                                      exact ⟨by first | rfl | (simp [errW_none, errW_some] <;> rfl) | (simp [*, errW_none, errW_some] <;> rfl), by repeat (first | (with_reducible first | exact HB.out | apply below_alloc | apply pw_below_drewN | apply below_drew1) | exact HB.out)⟩
                                · rw [if_neg c72] at H
                                  exact absurd H (by simp)
                              · rw [if_neg c71] at H
                                exact absurd H (by simp)
                            · rw [if_neg c70] at H
                              have c70b0 : decide (x146_4 < (t536.length : Int)) = false := decide_eq_false c70
                              clear c70
                              replace H := Option.bind_eq_some_iff.mp H
                              obtain ⟨⟨t578, t579⟩, A890, H⟩ := H
                              replace H : (if t548 = true then (if x15_2 = (wrap64 (2 * (t536.length : Int))) then (if x16_2 = (wrap64 (t535 - x21_4)) then (if t579 = true then (laws_FnGroups.j4 k4 l1 (t578 != (x16_2 == 1))) else (laws_FnGroups.j4 k4 l1 true)) else (laws_FnGroups.j4 k4 l1 true)) else (laws_FnGroups.j4 k4 l1 true)) else (laws_FnGroups.j4 k4 l1 true)) = some r := H
                              have A89 := Aside0.mk A890
                              clear A890
                              have HC90 := Aside0.mk H
                              clear H
                              go_upto_region 39 with (first | (go_at_call 13; (with_reducible refine (impl_IsOneGroup.calls k4 t535 _ _ t536 t578 t579 _ ?side1 ?side2 A89.out).mono ?_); (case side1 => repeat (first | exact (Kd.R_reads' HO_6.out).2.2 | (with_reducible refine Kd.C_alloc ?_ _) | (with_reducible refine Kd.C_drewN ?_ _) | (with_reducible refine Kd.C_drew ?_))); (case side2 => exact (Kd.R_reads' HO_6.out).2.1); rintro e w91 ⟨rfl, hb⟩; have n0_ := Aside0.mk (Kd.R_below (by (with_reducible repeat (first | apply Kd.R_alloc | apply Kd.R_drewN | apply Kd.R_drew)); exact HO_6.out) hb); have n1_ := Aside0.mk (below_step (by repeat (first | (with_reducible first | exact HB.out | apply below_alloc | apply pw_below_drewN | apply below_drew1) | exact HB.out)) hb); clear HO_6; clear HB; have HO_6 := n0_; have HB := n1_; clear n0_ n1_; (try clear hb); (try clear hb2); (try clear hk); (try clear hi)))
                              repeat (go_quiet (first | (go_at_call 13; (with_reducible refine (impl_IsOneGroup.calls k4 t535 _ _ t536 t578 t579 _ ?side1 ?side2 A89.out).mono ?_); (case side1 => repeat (first | exact (Kd.R_reads' HO_6.out).2.2 | (with_reducible refine Kd.C_alloc ?_ _) | (with_reducible refine Kd.C_drewN ?_ _) | (with_reducible refine Kd.C_drew ?_))); (case side2 => exact (Kd.R_reads' HO_6.out).2.1); rintro e w91 ⟨rfl, hb⟩; have n0_ := Aside0.mk (Kd.R_below (by (with_reducible repeat (first | apply Kd.R_alloc | apply Kd.R_drewN | apply Kd.R_drew)); exact HO_6.out) hb); have n1_ := Aside0.mk (below_step (by repeat (first | (with_reducible first | exact HB.out | apply below_alloc | apply pw_below_drewN | apply below_drew1) | exact HB.out)) hb); clear HO_6; clear HB; have HO_6 := n0_; have HB := n1_; clear n0_ n1_; (try clear hb); (try clear hb2); (try clear hk); (try clear hi))); go_upto_region 39 with (first | (go_at_call 13; (with_reducible refine (impl_IsOneGroup.calls k4 t535 _ _ t536 t578 t579 _ ?side1 ?side2 A89.out).mono ?_); (case side1 => repeat (first | exact (Kd.R_reads' HO_6.out).2.2 | (with_reducible refine Kd.C_alloc ?_ _) | (with_reducible refine Kd.C_drewN ?_ _) | (with_reducible refine Kd.C_drew ?_))); (case side2 => exact (Kd.R_reads' HO_6.out).2.1); rintro e w91 ⟨rfl, hb⟩; have n0_ := Aside0.mk (Kd.R_below (by (with_reducible repeat (first | apply Kd.R_alloc | apply Kd.R_drewN | apply Kd.R_drew)); exact HO_6.out) hb); have n1_ := Aside0.mk (below_step (by repeat (first | (with_reducible first | exact HB.out | apply below_alloc | apply pw_below_drewN | apply below_drew1) | exact HB.out)) hb); clear HO_6; clear HB; have HO_6 := n0_; have HB := n1_; clear n0_ n1_; (try clear hb); (try clear hb2); (try clear hk); (try clear hi))))
                              (try simp only [Act.put, List.setIfInBounds_toArray, List.set_cons_zero, List.set_cons_succ])
                              go_cut [210] (fun v210 wc => ∃ (kq : Nat) (x210_89 : Bool), v210 = .bool x210_89 ∧ Aside0 (laws_FnGroups.j4 kq l1 x210_89 = some r) ∧ Aside0 (kq ≤ k4) ∧ Aside0 (Below w.heap.size w wc))
                              case first =>
                                have H := HC90.out
                                clear HC90
                                by_cases c92 : t548 = true
                                · subst c92
                                  have H1 : (if x15_2 = (wrap64 (2 * (t536.length : Int))) then (if x16_2 = (wrap64 (t535 - x21_4)) then (if t579 = true then (laws_FnGroups.j4 k4 l1 (t578 != (x16_2 == 1))) else (laws_FnGroups.j4 k4 l1 true)) else (laws_FnGroups.j4 k4 l1 true)) else (laws_FnGroups.j4 k4 l1 true)) = some r := by rw [if_pos rfl] at H; exact H
                                  clear H
                                  have H := H1
                                  clear H1
                                  by_cases c93 : x15_2 = (wrap64 (2 * (t536.length : Int)))
                                  · rw [if_pos c93] at H
                                    have c93b0 : (x15_2 == (wrap64 (2 * (t536.length : Int)))) = true := beq_iff_eq.mpr c93
                                    have c93b1 : (x15_2 != (wrap64 (2 * (t536.length : Int)))) = false := bne_eq_false_iff_eq.mpr c93
                                    clear c93
                                    (first | rw [c93b0] | (simp only [i64_w, i32_w]; rw [c93b0]) | skip)
                                    by_cases c94 : x16_2 = (wrap64 (t535 - x21_4))
                                    · rw [if_pos c94] at H
                                      have c94b0 : (x16_2 == (wrap64 (t535 - x21_4))) = true := beq_iff_eq.mpr c94
                                      have c94b1 : (x16_2 != (wrap64 (t535 - x21_4))) = false := bne_eq_false_iff_eq.mpr c94
                                      clear c94
                                      by_cases c95 : t579 = true
                                      · subst c95
                                        have H1 : (laws_FnGroups.j4 k4 l1 (t578 != (x16_2 == 1))) = some r := by rw [if_pos rfl] at H; exact H
                                        clear H
                                        have H := H1
                                        clear H1
                                        as_aux_lemma =>
                                          have H' := Aside0.mk H
                                          clear H
                                          go_wp2
                                          repeat (go_quiet (fail); try go_wp2)
                                          go_meet
                                          case rel => exact ⟨_, ((t578 != (x16_2 == 1))), (by first | rfl | (simp; done) | (simp [*]; done)), H', ⟨by have := HJ8.out; have := HK2.out; have := HK3.out; have := HK4.out; first | omega | exact Nat.le_refl _⟩, ⟨by repeat (first | (with_reducible first | exact HB.out | apply below_alloc | apply pw_below_drewN | apply below_drew1) | exact HB.out)⟩⟩
                                      · replace c95 := Bool.eq_false_iff.mpr c95
                                        subst c95
                                        have H1 : (laws_FnGroups.j4 k4 l1 true) = some r := by rw [if_neg (show ¬ (false = true) by decide)] at H; exact H
                                        clear H
                                        have H := H1
                                        clear H1
                                        as_aux_lemma =>
                                          have H' := Aside0.mk H
                                          clear H
                                          go_wp2
                                          repeat (go_quiet (fail); try go_wp2)
                                          go_meet
                                          case rel => exact ⟨_, (true), (by first | rfl | (simp; done) | (simp [*]; done)), H', ⟨by have := HJ8.out; have := HK2.out; have := HK3.out; have := HK4.out; first | omega | exact Nat.le_refl _⟩, ⟨by repeat (first | (with_reducible first | exact HB.out | apply below_alloc | apply pw_below_drewN | apply below_drew1) | exact HB.out)⟩⟩
                                    · rw [if_neg c94] at H
                                      have c94b0 : (x16_2 == (wrap64 (t535 - x21_4))) = false := beq_eq_false_iff_ne.mpr c94
                                      have c94b1 : (x16_2 != (wrap64 (t535 - x21_4))) = true := bne_iff_ne.mpr c94
                                      as_aux_lemma =>
                                        have H' := Aside0.mk H
                                        clear H
                                        go_wp2
                                        repeat (go_quiet (fail); try go_wp2)
                                        go_meet
                                        case rel => exact ⟨_, (true), (by first | rfl | (simp; done) | (simp [*]; done)), H', ⟨by have := HJ8.out; have := HK2.out; have := HK3.out; have := HK4.out; first | omega | exact Nat.le_refl _⟩, ⟨by repeat (first | (with_reducible first | exact HB.out | apply below_alloc | apply pw_below_drewN | apply below_drew1) | exact HB.out)⟩⟩
                                  · rw [if_neg c93] at H
                                    have c93b0 : (x15_2 == (wrap64 (2 * (t536.length : Int)))) = false := beq_eq_false_iff_ne.mpr c93
                                    have c93b1 : (x15_2 != (wrap64 (2 * (t536.length : Int)))) = true := bne_iff_ne.mpr c93
                                    (first | rw [c93b0] | (simp only [i64_w, i32_w]; rw [c93b0]) | skip)
                                    as_aux_lemma =>
                                      have H' := Aside0.mk H
                                      clear H
                                      go_wp2
                                      repeat (go_quiet (fail); try go_wp2)
                                      go_meet
                                      case rel => exact ⟨_, (true), (by first | rfl | (simp; done) | (simp [*]; done)), H', ⟨by have := HJ8.out; have := HK2.out; have := HK3.out; have := HK4.out; first | omega | exact Nat.le_refl _⟩, ⟨by repeat (first | (with_reducible first | exact HB.out | apply below_alloc | apply pw_below_drewN | apply below_drew1) | exact HB.out)⟩⟩
                                · replace c92 := Bool.eq_false_iff.mpr c92
                                  subst c92
                                  have H1 : (laws_FnGroups.j4 k4 l1 true) = some r := by rw [if_neg (show ¬ (false = true) by decide)] at H; exact H
                                  clear H
                                  have H := H1
                                  clear H1
                                  as_aux_lemma =>
                                    have H' := Aside0.mk H
                                    clear H
                                    go_wp2
                                    repeat (go_quiet (fail); try go_wp2)
                                    go_meet
                                    case rel => exact ⟨_, (true), (by first | rfl | (simp; done) | (simp [*]; done)), H', ⟨by have := HJ8.out; have := HK2.out; have := HK3.out; have := HK4.out; first | omega | exact Nat.le_refl _⟩, ⟨by repeat (first | (with_reducible first | exact HB.out | apply below_alloc | apply pw_below_drewN | apply below_drew1) | exact HB.out)⟩⟩
                              case rest =>
                                clear HC90
                                try clear c1
                                try clear c2
                                try clear p2
                                try clear c3
                                try clear c3b0
                                try clear c4
                                try clear c5
                                try clear p5
                                try clear q5
                                try clear hx5
                                try clear c6
                                try clear p6
                                try clear c7
                                try clear c8
                                try clear q8
                                try clear c9
                                try clear c16
                                try clear c16b0
                                try clear c16b1
                                try clear c16b2
                                try clear c18
                                try clear c19
                                try clear c19b0
                                try clear c19b1
                                try clear c19b2
                                try clear c23
                                try clear c36
                                try clear c37
                                try clear c39
                                try clear c39b0
                                try clear c40
                                try clear c40b0
                                try clear c41
                                try clear c41b0
                                try clear c42
                                try clear c42b0
                                try clear c43
                                try clear c43b0
                                try clear c43b1
                                try clear c44
                                try clear c44b0
                                try clear c46
                                try clear c46b0
                                try clear c47
                                try clear c47b0
                                try clear c48
                                try clear c48b0
                                try clear c48b1
                                try clear c51
                                try clear c51b0
                                try clear c53
                                try clear c53b0
                                try clear c54
                                try clear c54b0
                                try clear c55
                                try clear c55b0
                                try clear c55b1
                                try clear p55
                                try clear q55
                                try clear hx55
                                try clear p56
                                try clear q56
                                try clear hx56
                                try clear p57
                                try clear q57
                                try clear hx57
                                try clear c58
                                try clear c58b0
                                try clear c59
                                try clear c59b0
                                try clear c60
                                try clear c60b0
                                try clear c61
                                try clear c61b0
                                try clear c62
                                try clear c62b0
                                try clear c63
                                try clear c63b0
                                try clear c64
                                try clear c64b0
                                try clear p64
                                try clear c65
                                try clear c65b0
                                try clear c65b1
                                try clear c70
                                try clear c70b0
                                try clear c71
                                try clear c71b0
                                try clear c71b1
                                try clear c72
                                try clear c72b0
                                try clear c72b1
                                try clear c74
                                try clear c75
                                try clear c75b0
                                try clear c76
                                try clear c76b0
                                try clear c77
                                try clear c77b0
                                try clear c78
                                try clear c78b0
                                try clear c79
                                try clear c79b0
                                try clear c80
                                try clear c80b0
                                try clear c80b1
                                try clear q81
                                try clear q84
                                try clear q87
                                try clear c92
                                try clear c93
                                try clear c93b0
                                try clear c93b1
                                try clear c94
                                try clear c94b0
                                try clear c94b1
                                try clear c95
                                try clear hcz67_0
                                try clear hcz67_1
                                try clear hcz67_2
                                try clear hcz69_0
                                try clear hcz69_1
                                try clear hcz69_2
                                try clear hfz67_0
                                try clear hfz67_1
                                try clear hfz67_2
                                try clear hfz69_0
                                try clear hfz69_1
                                try clear hfz69_2
                                try clear hx558_0
                                try clear hx559_0
                                try clear hx560_0
                                try clear hx561_0
                                try clear hx562_0
                                try clear hx562_1
                                try clear hx562_2
                                try clear hx564_0
                                try clear hx565_0
                                try clear hx574_0
                                try clear hx574_1
                                try clear hx574_2
                                try clear hx575_0
                                try clear hx576_0
                                try clear hx576_1
                                try clear hx576_2
                                try clear hx577_0
                                try clear p2
                                try clear p5
                                try clear p55
                                try clear p558
                                try clear p559
                                try clear p56
                                try clear p560
                                try clear p561
                                try clear p562
                                try clear p564
                                try clear p565
                                try clear p574
                                try clear p575
                                try clear p576
                                try clear p577
                                try clear p6
                                try clear p64
                                try clear q5
                                try clear q55
                                try clear q558
                                try clear q559
                                try clear q56
                                try clear q560
                                try clear q561
                                try clear q562
                                try clear q564
                                try clear q565
                                try clear q574
                                try clear q575
                                try clear q576
                                try clear q577
                                try clear q81
                                try clear q84
                                try clear q87
                                obtain ⟨kq, x210_89, rfl, HA, HJ89, HB⟩ := hcut
                                cases kq with
                                | zero => exact absurd HA.out (by simp [laws_FnGroups.j4])
                                | succ kj89 =>
                                  have H := HA.out
                                  clear HA
                                  simp only [laws_FnGroups.j4] at H
                                  by_cases c96 : x210_89 = true
                                  · subst c96
                                    have H1 : (some false) = some r := by rw [if_pos rfl] at H; exact H
                                    clear H
                                    have H := H1
                                    clear H1
                                    as_aux_lemma =>
                                      obtain rfl := Option.some.inj H
                                      go_wp2
                                      repeat (go_quiet (fail); try go_wp2)
                                      go_ret
                                      exact ⟨by first | rfl | (simp [errW_none, errW_some] <;> rfl) | (simp [*, errW_none, errW_some] <;> rfl), by repeat (first | (with_reducible first | exact HB.out | apply below_alloc | apply pw_below_drewN | apply below_drew1) | exact HB.out)⟩
                                  · replace c96 := Bool.eq_false_iff.mpr c96
                                    subst c96
                                    have H1 : ((spec_DrawIsOneGroup.f kj89 l1).bind fun bt580 => ((impl_IsOneGroup.f kj89 bt580.1 bt580.2).bind fun bt584 => ((spec_IsOneGroup.f kj89 bt580.1 bt580.2).bind fun bt586 => (if (bt584.2 == bt586.2) = true then (some (bt584.1 == bt586.1)) else (some false))))) = some r := by rw [if_neg (show ¬ (false = true) by decide)] at H; exact H
                                    clear H
                                    have H := H1
                                    clear H1
                                    replace H := Option.bind_eq_some_iff.mp H
                                    obtain ⟨⟨t580, t581⟩, A970, H⟩ := H
                                    replace H : ((impl_IsOneGroup.f kj89 t580 t581).bind fun bt584 => ((spec_IsOneGroup.f kj89 t580 t581).bind fun bt586 => (if (bt584.2 == bt586.2) = true then (some (bt584.1 == bt586.1)) else (some false)))) = some r := H
                                    have A97 := Aside0.mk A970
                                    clear A970
                                    replace H := Option.bind_eq_some_iff.mp H
                                    obtain ⟨⟨t584, t585⟩, A980, H⟩ := H
                                    replace H : ((spec_IsOneGroup.f kj89 t580 t581).bind fun bt586 => (if (t585 == bt586.2) = true then (some (t584 == bt586.1)) else (some false))) = some r := H
                                    have A98 := Aside0.mk A980
                                    clear A980
                                    replace H := Option.bind_eq_some_iff.mp H
                                    obtain ⟨⟨t586, t587⟩, A990, H⟩ := H
                                    replace H : (if (t585 == t587) = true then (some (t584 == t586)) else (some false)) = some r := H
                                    have A99 := Aside0.mk A990
                                    clear A990
                                    by_cases c100 : (t585 == t587) = true
                                    · rw [if_pos c100] at H
                                      have c100b0 : (t585 == t587) = true := c100
                                      (try (have c100b1 : decide (t585 = t587) = true := by simpa using c100))
                                      (try (have c100b2 : (t585 == t587) = true := by simpa using c100))
                                      clear c100
                                      as_aux_lemma =>
                                        obtain rfl := Option.some.inj H
                                        go_wp2_with (first | (go_at_call 35; (with_reducible refine (spec_DrawIsOneGroup.calls kj89 _ _ l1 t580 t581 _ ?side1 ?side2 A97.out).mono ?_); (case side1 => repeat (first | exact (Kd.C_below HR1.out HB.out) | (with_reducible refine Kd.C_alloc ?_ _) | (with_reducible refine Kd.C_drewN ?_ _) | (with_reducible refine Kd.C_drew ?_))); (case side2 => exact HC1.out); rintro e w101 ⟨v582, rfl, ho0, hb⟩; have n0_ := Aside0.mk (Kd.R_lower ho0 (below_size (by repeat (first | (with_reducible first | exact HB.out | apply below_alloc | apply pw_below_drewN | apply below_drew1) | exact HB.out)))); have n1_ := Aside0.mk (below_step (by repeat (first | (with_reducible first | exact HB.out | apply below_alloc | apply pw_below_drewN | apply below_drew1) | exact HB.out)) hb); clear HB; have HO583 := n0_; have HB := n1_; clear n0_ n1_; (try clear hb); (try clear hb2); (try clear hk); (try clear hi); (try clear ho0); obtain ⟨Ao102, co102, eo102⟩ := Kd.R_slice HO583.out; subst eo102) | (go_at_call 13; (with_reducible refine (impl_IsOneGroup.calls kj89 t580 _ _ t581 t584 t585 _ ?side1 ?side2 A98.out).mono ?_); (case side1 => repeat (first | exact (Kd.R_reads' HO583.out).2.2 | (with_reducible refine Kd.C_alloc ?_ _) | (with_reducible refine Kd.C_drewN ?_ _) | (with_reducible refine Kd.C_drew ?_))); (case side2 => exact (Kd.R_reads' HO583.out).2.1); rintro e w103 ⟨rfl, hb⟩; have n0_ := Aside0.mk (Kd.R_below (by (with_reducible repeat (first | apply Kd.R_alloc | apply Kd.R_drewN | apply Kd.R_drew)); exact HO583.out) hb); have n1_ := Aside0.mk (below_step (by repeat (first | (with_reducible first | exact HB.out | apply below_alloc | apply pw_below_drewN | apply below_drew1) | exact HB.out)) hb); clear HO583; clear HB; have HO583 := n0_; have HB := n1_; clear n0_ n1_; (try clear hb); (try clear hb2); (try clear hk); (try clear hi)) | (go_at_call 11; (with_reducible refine (spec_IsOneGroup.calls kj89 t580 _ _ t581 t586 t587 _ ?side1 ?side2 A99.out).mono ?_); (case side1 => repeat (first | exact (Kd.R_reads' HO583.out).2.2 | (with_reducible refine Kd.C_alloc ?_ _) | (with_reducible refine Kd.C_drewN ?_ _) | (with_reducible refine Kd.C_drew ?_))); (case side2 => exact (Kd.R_reads' HO583.out).2.1); rintro e w104 ⟨rfl, hb⟩; have n0_ := Aside0.mk (Kd.R_below (by (with_reducible repeat (first | apply Kd.R_alloc | apply Kd.R_drewN | apply Kd.R_drew)); exact HO583.out) hb); have n1_ := Aside0.mk (below_step (by repeat (first | (with_reducible first | exact HB.out | apply below_alloc | apply pw_below_drewN | apply below_drew1) | exact HB.out)) hb); clear HO583; clear HB; have HO583 := n0_; have HB := n1_; clear n0_ n1_; (try clear hb); (try clear hb2); (try clear hk); (try clear hi)))
                                        repeat (go_quiet (first | (go_at_call 35; (with_reducible refine (spec_DrawIsOneGroup.calls kj89 _ _ l1 t580 t581 _ ?side1 ?side2 A97.out).mono ?_); (case side1 => repeat (first | exact (Kd.C_below HR1.out HB.out) | (with_reducible refine Kd.C_alloc ?_ _) | (with_reducible refine Kd.C_drewN ?_ _) | (with_reducible refine Kd.C_drew ?_))); (case side2 => exact HC1.out); rintro e w101 ⟨v582, rfl, ho0, hb⟩; have n0_ := Aside0.mk (Kd.R_lower ho0 (below_size (by repeat (first | (with_reducible first | exact HB.out | apply below_alloc | apply pw_below_drewN | apply below_drew1) | exact HB.out)))); have n1_ := Aside0.mk (below_step (by repeat (first | (with_reducible first | exact HB.out | apply below_alloc | apply pw_below_drewN | apply below_drew1) | exact HB.out)) hb); clear HB; have HO583 := n0_; have HB := n1_; clear n0_ n1_; (try clear hb); (try clear hb2); (try clear hk); (try clear hi); (try clear ho0); obtain ⟨Ao102, co102, eo102⟩ := Kd.R_slice HO583.out; subst eo102) | (go_at_call 13; (with_reducible refine (impl_IsOneGroup.calls kj89 t580 _ _ t581 t584 t585 _ ?side1 ?side2 A98.out).mono ?_); (case side1 => repeat (first | exact (Kd.R_reads' HO583.out).2.2 | (with_reducible refine Kd.C_alloc ?_ _) | (with_reducible refine Kd.C_drewN ?_ _) | (with_reducible refine Kd.C_drew ?_))); (case side2 => exact (Kd.R_reads' HO583.out).2.1); rintro e w103 ⟨rfl, hb⟩; have n0_ := Aside0.mk (Kd.R_below (by (with_reducible repeat (first | apply Kd.R_alloc | apply Kd.R_drewN | apply Kd.R_drew)); exact HO583.out) hb); have n1_ := Aside0.mk (below_step (by repeat (first | (with_reducible first | exact HB.out | apply below_alloc | apply pw_below_drewN | apply below_drew1) | exact HB.out)) hb); clear HO583; clear HB; have HO583 := n0_; have HB := n1_; clear n0_ n1_; (try clear hb); (try clear hb2); (try clear hk); (try clear hi)) | (go_at_call 11; (with_reducible refine (spec_IsOneGroup.calls kj89 t580 _ _ t581 t586 t587 _ ?side1 ?side2 A99.out).mono ?_); (case side1 => repeat (first | exact (Kd.R_reads' HO583.out).2.2 | (with_reducible refine Kd.C_alloc ?_ _) | (with_reducible refine Kd.C_drewN ?_ _) | (with_reducible refine Kd.C_drew ?_))); (case side2 => exact (Kd.R_reads' HO583.out).2.1); rintro e w104 ⟨rfl, hb⟩; have n0_ := Aside0.mk (Kd.R_below (by (with_reducible repeat (first | apply Kd.R_alloc | apply Kd.R_drewN | apply Kd.R_drew)); exact HO583.out) hb); have n1_ := Aside0.mk (below_step (by repeat (first | (with_reducible first | exact HB.out | apply below_alloc | apply pw_below_drewN | apply below_drew1) | exact HB.out)) hb); clear HO583; clear HB; have HO583 := n0_; have HB := n1_; clear n0_ n1_; (try clear hb); (try clear hb2); (try clear hk); (try clear hi))); try go_wp2_with (first | (go_at_call 35; (with_reducible refine (spec_DrawIsOneGroup.calls kj89 _ _ l1 t580 t581 _ ?side1 ?side2 A97.out).mono ?_); (case side1 => repeat (first | exact (Kd.C_below HR1.out HB.out) | (with_reducible refine Kd.C_alloc ?_ _) | (with_reducible refine Kd.C_drewN ?_ _) | (with_reducible refine Kd.C_drew ?_))); (case side2 => exact HC1.out); rintro e w101 ⟨v582, rfl, ho0, hb⟩; have n0_ := Aside0.mk (Kd.R_lower ho0 (below_size (by repeat (first | (with_reducible first | exact HB.out | apply below_alloc | apply pw_below_drewN | apply below_drew1) | exact HB.out)))); have n1_ := Aside0.mk (below_step (by repeat (first | (with_reducible first | exact HB.out | apply below_alloc | apply pw_below_drewN | apply below_drew1) | exact HB.out)) hb); clear HB; have HO583 := n0_; have HB := n1_; clear n0_ n1_; (try clear hb); (try clear hb2); (try clear hk); (try clear hi); (try clear ho0); obtain ⟨Ao102, co102, eo102⟩ := Kd.R_slice HO583.out; subst eo102) | (go_at_call 13; (with_reducible refine (impl_IsOneGroup.calls kj89 t580 _ _ t581 t584 t585 _ ?side1 ?side2 A98.out).mono ?_); (case side1 => repeat (first | exact (Kd.R_reads' HO583.out).2.2 | (with_reducible refine Kd.C_alloc ?_ _) | (with_reducible refine Kd.C_drewN ?_ _) | (with_reducible refine Kd.C_drew ?_))); (case side2 => exact (Kd.R_reads' HO583.out).2.1); rintro e w103 ⟨rfl, hb⟩; have n0_ := Aside0.mk (Kd.R_below (by (with_reducible repeat (first | apply Kd.R_alloc | apply Kd.R_drewN | apply Kd.R_drew)); exact HO583.out) hb); have n1_ := Aside0.mk (below_step (by repeat (first | (with_reducible first | exact HB.out | apply below_alloc | apply pw_below_drewN | apply below_drew1) | exact HB.out)) hb); clear HO583; clear HB; have HO583 := n0_; have HB := n1_; clear n0_ n1_; (try clear hb); (try clear hb2); (try clear hk); (try clear hi)) | (go_at_call 11; (with_reducible refine (spec_IsOneGroup.calls kj89 t580 _ _ t581 t586 t587 _ ?side1 ?side2 A99.out).mono ?_); (case side1 => repeat (first | exact (Kd.R_reads' HO583.out).2.2 | (with_reducible refine Kd.C_alloc ?_ _) | (with_reducible refine Kd.C_drewN ?_ _) | (with_reducible refine Kd.C_drew ?_))); (case side2 => exact (Kd.R_reads' HO583.out).2.1); rintro e w104 ⟨rfl, hb⟩; have n0_ := Aside0.mk (Kd.R_below (by (with_reducible repeat (first | apply Kd.R_alloc | apply Kd.R_drewN | apply Kd.R_drew)); exact HO583.out) hb); have n1_ := Aside0.mk (below_step (by repeat (first | (with_reducible first | exact HB.out | apply below_alloc | apply pw_below_drewN | apply below_drew1) | exact HB.out)) hb); clear HO583; clear HB; have HO583 := n0_; have HB := n1_; clear n0_ n1_; (try clear hb); (try clear hb2); (try clear hk); (try clear hi))))
                                        go_ret
                                        exact ⟨by first | rfl | (simp [errW_none, errW_some] <;> rfl) | (simp [*, errW_none, errW_some] <;> rfl), by repeat (first | (with_reducible first | exact HB.out | apply below_alloc | apply pw_below_drewN | apply below_drew1) | exact HB.out)⟩
                                    · rw [if_neg c100] at H
                                      have c100b0 : (t585 == t587) = false := by simpa using c100
                                      (try (have c100b1 : decide (t585 = t587) = false := by simpa using c100))
                                      (try (have c100b2 : (t585 == t587) = false := by simpa using c100))
                                      (try (have c100b3 : ¬ (t585 = t587) := by simpa using c100))
                                      clear c100
                                      as_aux_lemma =>
                                        obtain rfl := Option.some.inj H
                                        go_wp2_with (first | (go_at_call 35; (with_reducible refine (spec_DrawIsOneGroup.calls kj89 _ _ l1 t580 t581 _ ?side1 ?side2 A97.out).mono ?_); (case side1 => repeat (first | exact (Kd.C_below HR1.out HB.out) | (with_reducible refine Kd.C_alloc ?_ _) | (with_reducible refine Kd.C_drewN ?_ _) | (with_reducible refine Kd.C_drew ?_))); (case side2 => exact HC1.out); rintro e w105 ⟨v582, rfl, ho0, hb⟩; have n0_ := Aside0.mk (Kd.R_lower ho0 (below_size (by repeat (first | (with_reducible first | exact HB.out | apply below_alloc | apply pw_below_drewN | apply below_drew1) | exact HB.out)))); have n1_ := Aside0.mk (below_step (by repeat (first | (with_reducible first | exact HB.out | apply below_alloc | apply pw_below_drewN | apply below_drew1) | exact HB.out)) hb); clear HB; have HO583 := n0_; have HB := n1_; clear n0_ n1_; (try clear hb); (try clear hb2); (try clear hk); (try clear hi); (try clear ho0); obtain ⟨Ao106, co106, eo106⟩ := Kd.R_slice HO583.out; subst eo106) | (go_at_call 13; (with_reducible refine (impl_IsOneGroup.calls kj89 t580 _ _ t581 t584 t585 _ ?side1 ?side2 A98.out).mono ?_); (case side1 => repeat (first | exact (Kd.R_reads' HO583.out).2.2 | (with_reducible refine Kd.C_alloc ?_ _) | (with_reducible refine Kd.C_drewN ?_ _) | (with_reducible refine Kd.C_drew ?_))); (case side2 => exact (Kd.R_reads' HO583.out).2.1); rintro e w107 ⟨rfl, hb⟩; have n0_ := Aside0.mk (Kd.R_below (by (with_reducible repeat (first | apply Kd.R_alloc | apply Kd.R_drewN | apply Kd.R_drew)); exact HO583.out) hb); have n1_ := Aside0.mk (below_step (by repeat (first | (with_reducible first | exact HB.out | apply below_alloc | apply pw_below_drewN | apply below_drew1) | exact HB.out)) hb); clear HO583; clear HB; have HO583 := n0_; have HB := n1_; clear n0_ n1_; (try clear hb); (try clear hb2); (try clear hk); (try clear hi)) | (go_at_call 11; (with_reducible refine (spec_IsOneGroup.calls kj89 t580 _ _ t581 t586 t587 _ ?side1 ?side2 A99.out).mono ?_); (case side1 => repeat (first | exact (Kd.R_reads' HO583.out).2.2 | (with_reducible refine Kd.C_alloc ?_ _) | (with_reducible refine Kd.C_drewN ?_ _) | (with_reducible refine Kd.C_drew ?_))); (case side2 => exact (Kd.R_reads' HO583.out).2.1); rintro e w108 ⟨rfl, hb⟩; have n0_ := Aside0.mk (Kd.R_below (by (with_reducible repeat (first | apply Kd.R_alloc | apply Kd.R_drewN | apply Kd.R_drew)); exact HO583.out) hb); have n1_ := Aside0.mk (below_step (by repeat (first | (with_reducible first | exact HB.out | apply below_alloc | apply pw_below_drewN | apply below_drew1) | exact HB.out)) hb); clear HO583; clear HB; have HO583 := n0_; have HB := n1_; clear n0_ n1_; (try clear hb); (try clear hb2); (try clear hk); (try clear hi)))
                                        repeat (go_quiet (first | (go_at_call 35; (with_reducible refine (spec_DrawIsOneGroup.calls kj89 _ _ l1 t580 t581 _ ?side1 ?side2 A97.out).mono ?_); (case side1 => repeat (first | exact (Kd.C_below HR1.out HB.out) | (with_reducible refine Kd.C_alloc ?_ _) | (with_reducible refine Kd.C_drewN ?_ _) | (with_reducible refine Kd.C_drew ?_))); (case side2 => exact HC1.out); rintro e w105 ⟨v582, rfl, ho0, hb⟩; have n0_ := Aside0.mk (Kd.R_lower ho0 (below_size (by repeat (first | (with_reducible first | exact HB.out | apply below_alloc | apply pw_below_drewN | apply below_drew1) | exact HB.out)))); have n1_ := Aside0.mk (below_step (by repeat (first | (with_reducible first | exact HB.out | apply below_alloc | apply pw_below_drewN | apply below_drew1) | exact HB.out)) hb); clear HB; have HO583 := n0_; have HB := n1_; clear n0_ n1_; (try clear hb); (try clear hb2); (try clear hk); (try clear hi); (try clear ho0); obtain ⟨Ao106, co106, eo106⟩ := Kd.R_slice HO583.out; subst eo106) | (go_at_call 13; (with_reducible refine (impl_IsOneGroup.calls kj89 t580 _ _ t581 t584 t585 _ ?side1 ?side2 A98.out).mono ?_); (case side1 => repeat (first | exact (Kd.R_reads' HO583.out).2.2 | (with_reducible refine Kd.C_alloc ?_ _) | (with_reducible refine Kd.C_drewN ?_ _) | (with_reducible refine Kd.C_drew ?_))); (case side2 => exact (Kd.R_reads' HO583.out).2.1); rintro e w107 ⟨rfl, hb⟩; have n0_ := Aside0.mk (Kd.R_below (by (with_reducible repeat (first | apply Kd.R_alloc | apply Kd.R_drewN | apply Kd.R_drew)); exact HO583.out) hb); have n1_ := Aside0.mk (below_step (by repeat (first | (with_reducible first | exact HB.out | apply below_alloc | apply pw_below_drewN | apply below_drew1) | exact HB.out)) hb); clear HO583; clear HB; have HO583 := n0_; have HB := n1_; clear n0_ n1_; (try clear hb); (try clear hb2); (try clear hk); (try clear hi)) | (go_at_call 11; (with_reducible refine (spec_IsOneGroup.calls kj89 t580 _ _ t581 t586 t587 _ ?side1 ?side2 A99.out).mono ?_); (case side1 => repeat (first | exact (Kd.R_reads' HO583.out).2.2 | (with_reducible refine Kd.C_alloc ?_ _) | (with_reducible refine Kd.C_drewN ?_ _) | (with_reducible refine Kd.C_drew ?_))); (case side2 => exact (Kd.R_reads' HO583.out).2.1); rintro e w108 ⟨rfl, hb⟩; have n0_ := Aside0.mk (Kd.R_below (by (with_reducible repeat (first | apply Kd.R_alloc | apply Kd.R_drewN | apply Kd.R_drew)); exact HO583.out) hb); have n1_ := Aside0.mk (below_step (by repeat (first | (with_reducible first | exact HB.out | apply below_alloc | apply pw_below_drewN | apply below_drew1) | exact HB.out)) hb); clear HO583; clear HB; have HO583 := n0_; have HB := n1_; clear n0_ n1_; (try clear hb); (try clear hb2); (try clear hk); (try clear hi))); try go_wp2_with (first | (go_at_call 35; (with_reducible refine (spec_DrawIsOneGroup.calls kj89 _ _ l1 t580 t581 _ ?side1 ?side2 A97.out).mono ?_); (case side1 => repeat (first | exact (Kd.C_below HR1.out HB.out) | (with_reducible refine Kd.C_alloc ?_ _) | (with_reducible refine Kd.C_drewN ?_ _) | (with_reducible refine Kd.C_drew ?_))); (case side2 => exact HC1.out); rintro e w105 ⟨v582, rfl, ho0, hb⟩; have n0_ := Aside0.mk (Kd.R_lower ho0 (below_size (by repeat (first | (with_reducible first | exact HB.out | apply below_alloc | apply pw_below_drewN | apply below_drew1) | exact HB.out)))); have n1_ := Aside0.mk (below_step (by repeat (first | (with_reducible first | exact HB.out | apply below_alloc | apply pw_below_drewN | apply below_drew1) | exact HB.out)) hb); clear HB; have HO583 := n0_; have HB := n1_; clear n0_ n1_; (try clear hb); (try clear hb2); (try clear hk); (try clear hi); (try clear ho0); obtain ⟨Ao106, co106, eo106⟩ := Kd.R_slice HO583.out; subst eo106) | (go_at_call 13; (with_reducible refine (impl_IsOneGroup.calls kj89 t580 _ _ t581 t584 t585 _ ?side1 ?side2 A98.out).mono ?_); (case side1 => repeat (first | exact (Kd.R_reads' HO583.out).2.2 | (with_reducible refine Kd.C_alloc ?_ _) | (with_reducible refine Kd.C_drewN ?_ _) | (with_reducible refine Kd.C_drew ?_))); (case side2 => exact (Kd.R_reads' HO583.out).2.1); rintro e w107 ⟨rfl, hb⟩; have n0_ := Aside0.mk (Kd.R_below (by (with_reducible repeat (first | apply Kd.R_alloc | apply Kd.R_drewN | apply Kd.R_drew)); exact HO583.out) hb); have n1_ := Aside0.mk (below_step (by repeat (first | (with_reducible first | exact HB.out | apply below_alloc | apply pw_below_drewN | apply below_drew1) | exact HB.out)) hb); clear HO583; clear HB; have HO583 := n0_; have HB := n1_; clear n0_ n1_; (try clear hb); (try clear hb2); (try clear hk); (try clear hi)) | (go_at_call 11; (with_reducible refine (spec_IsOneGroup.calls kj89 t580 _ _ t581 t586 t587 _ ?side1 ?side2 A99.out).mono ?_); (case side1 => repeat (first | exact (Kd.R_reads' HO583.out).2.2 | (with_reducible refine Kd.C_alloc ?_ _) | (with_reducible refine Kd.C_drewN ?_ _) | (with_reducible refine Kd.C_drew ?_))); (case side2 => exact (Kd.R_reads' HO583.out).2.1); rintro e w108 ⟨rfl, hb⟩; have n0_ := Aside0.mk (Kd.R_below (by (with_reducible repeat (first | apply Kd.R_alloc | apply Kd.R_drewN | apply Kd.R_drew)); exact HO583.out) hb); have n1_ := Aside0.mk (below_step (by repeat (first | (with_reducible first | exact HB.out | apply below_alloc | apply pw_below_drewN | apply below_drew1) | exact HB.out)) hb); clear HO583; clear HB; have HO583 := n0_; have HB := n1_; clear n0_ n1_; (try clear hb); (try clear hb2); (try clear hk); (try clear hi))))
                                        go_ret
                                        exact ⟨by first | rfl | (simp [errW_none, errW_some] <;> rfl) | (simp [*, errW_none, errW_some] <;> rfl), by repeat (first | (with_reducible first | exact HB.out | apply below_alloc | apply pw_below_drewN | apply below_drew1) | exact HB.out)⟩
          · replace c37 := Bool.eq_false_iff.mpr c37
            subst c37
            have H1 : ((spec_DrawIsOneGroup.f kj8 l1).bind fun bt588 => ((impl_IsOneGroup.f kj8 bt588.1 bt588.2).bind fun bt592 => ((spec_IsOneGroup.f kj8 bt588.1 bt588.2).bind fun bt594 => (if (bt592.2 == bt594.2) = true then (some (bt592.1 == bt594.1)) else (some false))))) = some r := by rw [if_neg (show ¬ (false = true) by decide)] at H; exact H
            clear H
            have H := H1
            clear H1
            replace H := Option.bind_eq_some_iff.mp H
            obtain ⟨⟨t588, t589⟩, A1090, H⟩ := H
            replace H : ((impl_IsOneGroup.f kj8 t588 t589).bind fun bt592 => ((spec_IsOneGroup.f kj8 t588 t589).bind fun bt594 => (if (bt592.2 == bt594.2) = true then (some (bt592.1 == bt594.1)) else (some false)))) = some r := H
            have A109 := Aside0.mk A1090
            clear A1090
            replace H := Option.bind_eq_some_iff.mp H
            obtain ⟨⟨t592, t593⟩, A1100, H⟩ := H
            replace H : ((spec_IsOneGroup.f kj8 t588 t589).bind fun bt594 => (if (t593 == bt594.2) = true then (some (t592 == bt594.1)) else (some false))) = some r := H
            have A110 := Aside0.mk A1100
            clear A1100
            replace H := Option.bind_eq_some_iff.mp H
            obtain ⟨⟨t594, t595⟩, A1110, H⟩ := H
            replace H : (if (t593 == t595) = true then (some (t592 == t594)) else (some false)) = some r := H
            have A111 := Aside0.mk A1110
            clear A1110
            by_cases c112 : (t593 == t595) = true
            · rw [if_pos c112] at H
              have c112b0 : (t593 == t595) = true := c112
              (try (have c112b1 : decide (t593 = t595) = true := by simpa using c112))
              (try (have c112b2 : (t593 == t595) = true := by simpa using c112))
              clear c112
              as_aux_lemma =>
                obtain rfl := Option.some.inj H
                go_wp2_with (first | (go_at_call 35; (with_reducible refine (spec_DrawIsOneGroup.calls kj8 _ _ l1 t588 t589 _ ?side1 ?side2 A109.out).mono ?_); (case side1 => repeat (first | exact (Kd.C_below HR1.out HB.out) | (with_reducible refine Kd.C_alloc ?_ _) | (with_reducible refine Kd.C_drewN ?_ _) | (with_reducible refine Kd.C_drew ?_))); (case side2 => exact HC1.out); rintro e w113 ⟨v590, rfl, ho0, hb⟩; have n0_ := Aside0.mk (Kd.R_elder' (by (with_reducible repeat (first | apply Kd.R_alloc | apply Kd.R_drewN | apply Kd.R_drew)); exact HO_6.out) (Kd.R_base ho0) hb); have n1_ := Aside0.mk (Kd.R_below (by (with_reducible repeat (first | apply Kd.R_alloc | apply Kd.R_drewN | apply Kd.R_drew)); exact HO_7.out) hb); have n2_ := Aside0.mk (Kd.R_below (by (with_reducible repeat (first | apply Kd.R_alloc | apply Kd.R_drewN | apply Kd.R_drew)); exact HO_11.out) hb); have n3_ := Aside0.mk (Kd.R_lower (Kd.R_new' ho0 (Kd.R_lt (by (with_reducible repeat (first | apply Kd.R_alloc | apply Kd.R_drewN | apply Kd.R_drew)); exact HO_6.out))) (below_size (by repeat (first | (with_reducible first | exact HB.out | apply below_alloc | apply pw_below_drewN | apply below_drew1) | exact HB.out)))); have n4_ := Aside0.mk (below_step (by repeat (first | (with_reducible first | exact HB.out | apply below_alloc | apply pw_below_drewN | apply below_drew1) | exact HB.out)) hb); clear HO_6; clear HO_7; clear HO_11; clear HB; have HO_6 := n0_; have HO_7 := n1_; have HO_11 := n2_; have HO591 := n3_; have HB := n4_; clear n0_ n1_ n2_ n3_ n4_; (try clear hb); (try clear hb2); (try clear hk); (try clear hi); (try clear ho0); obtain ⟨Ao114, co114, eo114⟩ := Kd.R_slice HO591.out; subst eo114) | (go_at_call 13; (with_reducible refine (impl_IsOneGroup.calls kj8 t588 _ _ t589 t592 t593 _ ?side1 ?side2 A110.out).mono ?_); (case side1 => repeat (first | exact (Kd.R_reads' HO591.out).2.2 | (with_reducible refine Kd.C_alloc ?_ _) | (with_reducible refine Kd.C_drewN ?_ _) | (with_reducible refine Kd.C_drew ?_))); (case side2 => exact (Kd.R_reads' HO591.out).2.1); rintro e w115 ⟨rfl, hb⟩; have n0_ := Aside0.mk (Kd.R_below (by (with_reducible repeat (first | apply Kd.R_alloc | apply Kd.R_drewN | apply Kd.R_drew)); exact HO_6.out) hb); have n1_ := Aside0.mk (Kd.R_below (by (with_reducible repeat (first | apply Kd.R_alloc | apply Kd.R_drewN | apply Kd.R_drew)); exact HO_7.out) hb); have n2_ := Aside0.mk (Kd.R_below (by (with_reducible repeat (first | apply Kd.R_alloc | apply Kd.R_drewN | apply Kd.R_drew)); exact HO_11.out) hb); have n3_ := Aside0.mk (Kd.R_below (by (with_reducible repeat (first | apply Kd.R_alloc | apply Kd.R_drewN | apply Kd.R_drew)); exact HO591.out) hb); have n4_ := Aside0.mk (below_step (by repeat (first | (with_reducible first | exact HB.out | apply below_alloc | apply pw_below_drewN | apply below_drew1) | exact HB.out)) hb); clear HO_6; clear HO_7; clear HO_11; clear HO591; clear HB; have HO_6 := n0_; have HO_7 := n1_; have HO_11 := n2_; have HO591 := n3_; have HB := n4_; clear n0_ n1_ n2_ n3_ n4_; (try clear hb); (try clear hb2); (try clear hk); (try clear hi)) | (go_at_call 11; (with_reducible refine (spec_IsOneGroup.calls kj8 t588 _ _ t589 t594 t595 _ ?side1 ?side2 A111.out).mono ?_); (case side1 => repeat (first | exact (Kd.R_reads' HO591.out).2.2 | (with_reducible refine Kd.C_alloc ?_ _) | (with_reducible refine Kd.C_drewN ?_ _) | (with_reducible refine Kd.C_drew ?_))); (case side2 => exact (Kd.R_reads' HO591.out).2.1); rintro e w116 ⟨rfl, hb⟩; have n0_ := Aside0.mk (Kd.R_below (by (with_reducible repeat (first | apply Kd.R_alloc | apply Kd.R_drewN | apply Kd.R_drew)); exact HO_6.out) hb); have n1_ := Aside0.mk (Kd.R_below (by (with_reducible repeat (first | apply Kd.R_alloc | apply Kd.R_drewN | apply Kd.R_drew)); exact HO_7.out) hb); have n2_ := Aside0.mk (Kd.R_below (by (with_reducible repeat (first | apply Kd.R_alloc | apply Kd.R_drewN | apply Kd.R_drew)); exact HO_11.out) hb); have n3_ := Aside0.mk (Kd.R_below (by (with_reducible repeat (first | apply Kd.R_alloc | apply Kd.R_drewN | apply Kd.R_drew)); exact HO591.out) hb); have n4_ := Aside0.mk (below_step (by repeat (first | (with_reducible first | exact HB.out | apply below_alloc | apply pw_below_drewN | apply below_drew1) | exact HB.out)) hb); clear HO_6; clear HO_7; clear HO_11; clear HO591; clear HB; have HO_6 := n0_; have HO_7 := n1_; have HO_11 := n2_; have HO591 := n3_; have HB := n4_; clear n0_ n1_ n2_ n3_ n4_; (try clear hb); (try clear hb2); (try clear hk); (try clear hi)))
                repeat (go_quiet (first | (go_at_call 35; (with_reducible refine (spec_DrawIsOneGroup.calls kj8 _ _ l1 t588 t589 _ ?side1 ?side2 A109.out).mono ?_); (case side1 => repeat (first | exact (Kd.C_below HR1.out HB.out) | (with_reducible refine Kd.C_alloc ?_ _) | (with_reducible refine Kd.C_drewN ?_ _) | (with_reducible refine Kd.C_drew ?_))); (case side2 => exact HC1.out); rintro e w113 ⟨v590, rfl, ho0, hb⟩; have n0_ := Aside0.mk (Kd.R_elder' (by (with_reducible repeat (first | apply Kd.R_alloc | apply Kd.R_drewN | apply Kd.R_drew)); exact HO_6.out) (Kd.R_base ho0) hb); have n1_ := Aside0.mk (Kd.R_below (by (with_reducible repeat (first | apply Kd.R_alloc | apply Kd.R_drewN | apply Kd.R_drew)); exact HO_7.out) hb); have n2_ := Aside0.mk (Kd.R_below (by (with_reducible repeat (first | apply Kd.R_alloc | apply Kd.R_drewN | apply Kd.R_drew)); exact HO_11.out) hb); have n3_ := Aside0.mk (Kd.R_lower (Kd.R_new' ho0 (Kd.R_lt (by (with_reducible repeat (first | apply Kd.R_alloc | apply Kd.R_drewN | apply Kd.R_drew)); exact HO_6.out))) (below_size (by repeat (first | (with_reducible first | exact HB.out | apply below_alloc | apply pw_below_drewN | apply below_drew1) | exact HB.out)))); have n4_ := Aside0.mk (below_step (by repeat (first | (with_reducible first | exact HB.out | apply below_alloc | apply pw_below_drewN | apply below_drew1) | exact HB.out)) hb); clear HO_6; clear HO_7; clear HO_11; clear HB; have HO_6 := n0_; have HO_7 := n1_; have HO_11 := n2_; have HO591 := n3_; have HB := n4_; clear n0_ n1_ n2_ n3_ n4_; (try clear hb); (try clear hb2); (try clear hk); (try clear hi); (try clear ho0); obtain ⟨Ao114, co114, eo114⟩ := Kd.R_slice HO591.out; subst eo114) | (go_at_call 13; (with_reducible refine (impl_IsOneGroup.calls kj8 t588 _ _ t589 t592 t593 _ ?side1 ?side2 A110.out).mono ?_); (case side1 => repeat (first | exact (Kd.R_reads' HO591.out).2.2 | (with_reducible refine Kd.C_alloc ?_ _) | (with_reducible refine Kd.C_drewN ?_ _) | (with_reducible refine Kd.C_drew ?_))); (case side2 => exact (Kd.R_reads' HO591.out).2.1); rintro e w115 ⟨rfl, hb⟩; have n0_ := Aside0.mk (Kd.R_below (by (with_reducible repeat (first | apply Kd.R_alloc | apply Kd.R_drewN | apply Kd.R_drew)); exact HO_6.out) hb); have n1_ := Aside0.mk (Kd.R_below (by (with_reducible repeat (first | apply Kd.R_alloc | apply Kd.R_drewN | apply Kd.R_drew)); exact HO_7.out) hb); have n2_ := Aside0.mk (Kd.R_below (by (with_reducible repeat (first | apply Kd.R_alloc | apply Kd.R_drewN | apply Kd.R_drew)); exact HO_11.out) hb); have n3_ := Aside0.mk (Kd.R_below (by (with_reducible repeat (first | apply Kd.R_alloc | apply Kd.R_drewN | apply Kd.R_drew)); exact HO591.out) hb); have n4_ := Aside0.mk (below_step (by repeat (first | (with_reducible first | exact HB.out | apply below_alloc | apply pw_below_drewN | apply below_drew1) | exact HB.out)) hb); clear HO_6; clear HO_7; clear HO_11; clear HO591; clear HB; have HO_6 := n0_; have HO_7 := n1_; have HO_11 := n2_; have HO591 := n3_; have HB := n4_; clear n0_ n1_ n2_ n3_ n4_; (try clear hb); (try clear hb2); (try clear hk); (try clear hi)) | (go_at_call 11; (with_reducible refine (spec_IsOneGroup.calls kj8 t588 _ _ t589 t594 t595 _ ?side1 ?side2 A111.out).mono ?_); (case side1 => repeat (first | exact (Kd.R_reads' HO591.out).2.2 | (with_reducible refine Kd.C_alloc ?_ _) | (with_reducible refine Kd.C_drewN ?_ _) | (with_reducible refine Kd.C_drew ?_))); (case side2 => exact (Kd.R_reads' HO591.out).2.1); rintro e w116 ⟨rfl, hb⟩; have n0_ := Aside0.mk (Kd.R_below (by (with_reducible repeat (first | apply Kd.R_alloc | apply Kd.R_drewN | apply Kd.R_drew)); exact HO_6.out) hb); have n1_ := Aside0.mk (Kd.R_below (by (with_reducible repeat (first | apply Kd.R_alloc | apply Kd.R_drewN | apply Kd.R_drew)); exact HO_7.out) hb); have n2_ := Aside0.mk (Kd.R_below (by (with_reducible repeat (first | apply Kd.R_alloc | apply Kd.R_drewN | apply Kd.R_drew)); exact HO_11.out) hb); have n3_ := Aside0.mk (Kd.R_below (by (with_reducible repeat (first | apply Kd.R_alloc | apply Kd.R_drewN | apply Kd.R_drew)); exact HO591.out) hb); have n4_ := Aside0.mk (below_step (by repeat (first | (with_reducible first | exact HB.out | apply below_alloc | apply pw_below_drewN | apply below_drew1) | exact HB.out)) hb); clear HO_6; clear HO_7; clear HO_11; clear HO591; clear HB; have HO_6 := n0_; have HO_7 := n1_; have HO_11 := n2_; have HO591 := n3_; have HB := n4_; clear n0_ n1_ n2_ n3_ n4_; (try clear hb); (try clear hb2); (try clear hk); (try clear hi))); try go_wp2_with (first | (go_at_call 35; (with_reducible refine (spec_DrawIsOneGroup.calls kj8 _ _ l1 t588 t589 _ ?side1 ?side2 A109.out).mono ?_); (case side1 => repeat (first | exact (Kd.C_below HR1.out HB.out) | (with_reducible refine Kd.C_alloc ?_ _) | (with_reducible refine Kd.C_drewN ?_ _) | (with_reducible refine Kd.C_drew ?_))); (case side2 => exact HC1.out); rintro e w113 ⟨v590, rfl, ho0, hb⟩; have n0_ := Aside0.mk (Kd.R_elder' (by (with_reducible repeat (first | apply Kd.R_alloc | apply Kd.R_drewN | apply Kd.R_drew)); exact HO_6.out) (Kd.R_base ho0) hb); have n1_ := Aside0.mk (Kd.R_below (by (with_reducible repeat (first | apply Kd.R_alloc | apply Kd.R_drewN | apply Kd.R_drew)); exact HO_7.out) hb); have n2_ := Aside0.mk (Kd.R_below (by (with_reducible repeat (first | apply Kd.R_alloc | apply Kd.R_drewN | apply Kd.R_drew)); exact HO_11.out) hb); have n3_ := Aside0.mk (Kd.R_lower (Kd.R_new' ho0 (Kd.R_lt (by (with_reducible repeat (first | apply Kd.R_alloc | apply Kd.R_drewN | apply Kd.R_drew)); exact HO_6.out))) (below_size (by repeat (first | (with_reducible first | exact HB.out | apply below_alloc | apply pw_below_drewN | apply below_drew1) | exact HB.out)))); have n4_ := Aside0.mk (below_step (by repeat (first | (with_reducible first | exact HB.out | apply below_alloc | apply pw_below_drewN | apply below_drew1) | exact HB.out)) hb); clear HO_6; clear HO_7; clear HO_11; clear HB; have HO_6 := n0_; have HO_7 := n1_; have HO_11 := n2_; have HO591 := n3_; have HB := n4_; clear n0_ n1_ n2_ n3_ n4_; (try clear hb); (try clear hb2); (try clear hk); (try clear hi); (try clear ho0); obtain ⟨Ao114, co114, eo114⟩ := Kd.R_slice HO591.out; subst eo114) | (go_at_call 13; (with_reducible refine (impl_IsOneGroup.calls kj8 t588 _ _ t589 t592 t593 _ ?side1 ?side2 A110.out).mono ?_); (case side1 => repeat (first | exact (Kd.R_reads' HO591.out).2.2 | (with_reducible refine Kd.C_alloc ?_ _) | (with_reducible refine Kd.C_drewN ?_ _) | (with_reducible refine Kd.C_drew ?_))); (case side2 => exact (Kd.R_reads' HO591.out).2.1); rintro e w115 ⟨rfl, hb⟩; have n0_ := Aside0.mk (Kd.R_below (by (with_reducible repeat (first | apply Kd.R_alloc | apply Kd.R_drewN | apply Kd.R_drew)); exact HO_6.out) hb); have n1_ := Aside0.mk (Kd.R_below (by (with_reducible repeat (first | apply Kd.R_alloc | apply Kd.R_drewN | apply Kd.R_drew)); exact HO_7.out) hb); have n2_ := Aside0.mk (Kd.R_below (by (with_reducible repeat (first | apply Kd.R_alloc | apply Kd.R_drewN | apply Kd.R_drew)); exact HO_11.out) hb); have n3_ := Aside0.mk (Kd.R_below (by (with_reducible repeat (first | apply Kd.R_alloc | apply Kd.R_drewN | apply Kd.R_drew)); exact HO591.out) hb); have n4_ := Aside0.mk (below_step (by repeat (first | (with_reducible first | exact HB.out | apply below_alloc | apply pw_below_drewN | apply below_drew1) | exact HB.out)) hb); clear HO_6; clear HO_7; clear HO_11; clear HO591; clear HB; have HO_6 := n0_; have HO_7 := n1_; have HO_11 := n2_; have HO591 := n3_; have HB := n4_; clear n0_ n1_ n2_ n3_ n4_; (try clear hb); (try clear hb2); (try clear hk); (try clear hi)) | (go_at_call 11; (with_reducible refine (spec_IsOneGroup.calls kj8 t588 _ _ t589 t594 t595 _ ?side1 ?side2 A111.out).mono ?_); (case side1 => repeat (first | exact (Kd.R_reads' HO591.out).2.2 | (with_reducible refine Kd.C_alloc ?_ _) | (with_reducible refine Kd.C_drewN ?_ _) | (with_reducible refine Kd.C_drew ?_))); (case side2 => exact (Kd.R_reads' HO591.out).2.1); rintro e w116 ⟨rfl, hb⟩; have n0_ := Aside0.mk (Kd.R_below (by (with_reducible repeat (first | apply Kd.R_alloc | apply Kd.R_drewN | apply Kd.R_drew)); exact HO_6.out) hb); have n1_ := Aside0.mk (Kd.R_below (by (with_reducible repeat (first | apply Kd.R_alloc | apply Kd.R_drewN | apply Kd.R_drew)); exact HO_7.out) hb); have n2_ := Aside0.mk (Kd.R_below (by (with_reducible repeat (first | apply Kd.R_alloc | apply Kd.R_drewN | apply Kd.R_drew)); exact HO_11.out) hb); have n3_ := Aside0.mk (Kd.R_below (by (with_reducible repeat (first | apply Kd.R_alloc | apply Kd.R_drewN | apply Kd.R_drew)); exact HO591.out) hb); have n4_ := Aside0.mk (below_step (by repeat (first | (with_reducible first | exact HB.out | apply below_alloc | apply pw_below_drewN | apply below_drew1) | exact HB.out)) hb); clear HO_6; clear HO_7; clear HO_11; clear HO591; clear HB; have HO_6 := n0_; have HO_7 := n1_; have HO_11 := n2_; have HO591 := n3_; have HB := n4_; clear n0_ n1_ n2_ n3_ n4_; (try clear hb); (try clear hb2); (try clear hk); (try clear hi))))
                go_ret
                exact ⟨by first | rfl | (simp [errW_none, errW_some] <;> rfl) | (simp [*, errW_none, errW_some] <;> rfl), by repeat (first | (with_reducible first | exact HB.out | apply below_alloc | apply pw_below_drewN | apply below_drew1) | exact HB.out)⟩
            · rw [if_neg c112] at H
              have c112b0 : (t593 == t595) = false := by simpa using c112
              (try (have c112b1 : decide (t593 = t595) = false := by simpa using c112))
              (try (have c112b2 : (t593 == t595) = false := by simpa using c112))
              (try (have c112b3 : ¬ (t593 = t595) := by simpa using c112))
              clear c112
              as_aux_lemma =>
                obtain rfl := Option.some.inj H
                go_wp2_with (first | (go_at_call 35; (with_reducible refine (spec_DrawIsOneGroup.calls kj8 _ _ l1 t588 t589 _ ?side1 ?side2 A109.out).mono ?_); (case side1 => repeat (first | exact (Kd.C_below HR1.out HB.out) | (with_reducible refine Kd.C_alloc ?_ _) | (with_reducible refine Kd.C_drewN ?_ _) | (with_reducible refine Kd.C_drew ?_))); (case side2 => exact HC1.out); rintro e w117 ⟨v590, rfl, ho0, hb⟩; have n0_ := Aside0.mk (Kd.R_elder' (by (with_reducible repeat (first | apply Kd.R_alloc | apply Kd.R_drewN | apply Kd.R_drew)); exact HO_6.out) (Kd.R_base ho0) hb); have n1_ := Aside0.mk (Kd.R_below (by (with_reducible repeat (first | apply Kd.R_alloc | apply Kd.R_drewN | apply Kd.R_drew)); exact HO_7.out) hb); have n2_ := Aside0.mk (Kd.R_below (by (with_reducible repeat (first | apply Kd.R_alloc | apply Kd.R_drewN | apply Kd.R_drew)); exact HO_11.out) hb); have n3_ := Aside0.mk (Kd.R_lower (Kd.R_new' ho0 (Kd.R_lt (by (with_reducible repeat (first | apply Kd.R_alloc | apply Kd.R_drewN | apply Kd.R_drew)); exact HO_6.out))) (below_size (by repeat (first | (with_reducible first | exact HB.out | apply below_alloc | apply pw_below_drewN | apply below_drew1) | exact HB.out)))); have n4_ := Aside0.mk (below_step (by repeat (first | (with_reducible first | exact HB.out | apply below_alloc | apply pw_below_drewN | apply below_drew1) | exact HB.out)) hb); clear HO_6; clear HO_7; clear HO_11; clear HB; have HO_6 := n0_; have HO_7 := n1_; have HO_11 := n2_; have HO591 := n3_; have HB := n4_; clear n0_ n1_ n2_ n3_ n4_; (try clear hb); (try clear hb2); (try clear hk); (try clear hi); (try clear ho0); obtain ⟨Ao118, co118, eo118⟩ := Kd.R_slice HO591.out; subst eo118) | (go_at_call 13; (with_reducible refine (impl_IsOneGroup.calls kj8 t588 _ _ t589 t592 t593 _ ?side1 ?side2 A110.out).mono ?_); (case side1 => repeat (first | exact (Kd.R_reads' HO591.out).2.2 | (with_reducible refine Kd.C_alloc ?_ _) | (with_reducible refine Kd.C_drewN ?_ _) | (with_reducible refine Kd.C_drew ?_))); (case side2 => exact (Kd.R_reads' HO591.out).2.1); rintro e w119 ⟨rfl, hb⟩; have n0_ := Aside0.mk (Kd.R_below (by (with_reducible repeat (first | apply Kd.R_alloc | apply Kd.R_drewN | apply Kd.R_drew)); exact HO_6.out) hb); have n1_ := Aside0.mk (Kd.R_below (by (with_reducible repeat (first | apply Kd.R_alloc | apply Kd.R_drewN | apply Kd.R_drew)); exact HO_7.out) hb); have n2_ := Aside0.mk (Kd.R_below (by (with_reducible repeat (first | apply Kd.R_alloc | apply Kd.R_drewN | apply Kd.R_drew)); exact HO_11.out) hb); have n3_ := Aside0.mk (Kd.R_below (by (with_reducible repeat (first | apply Kd.R_alloc | apply Kd.R_drewN | apply Kd.R_drew)); exact HO591.out) hb); have n4_ := Aside0.mk (below_step (by repeat (first | (with_reducible first | exact HB.out | apply below_alloc | apply pw_below_drewN | apply below_drew1) | exact HB.out)) hb); clear HO_6; clear HO_7; clear HO_11; clear HO591; clear HB; have HO_6 := n0_; have HO_7 := n1_; have HO_11 := n2_; have HO591 := n3_; have HB := n4_; clear n0_ n1_ n2_ n3_ n4_; (try clear hb); (try clear hb2); (try clear hk); (try clear hi)) | (go_at_call 11; (with_reducible refine (spec_IsOneGroup.calls kj8 t588 _ _ t589 t594 t595 _ ?side1 ?side2 A111.out).mono ?_); (case side1 => repeat (first | exact (Kd.R_reads' HO591.out).2.2 | (with_reducible refine Kd.C_alloc ?_ _) | (with_reducible refine Kd.C_drewN ?_ _) | (with_reducible refine Kd.C_drew ?_))); (case side2 => exact (Kd.R_reads' HO591.out).2.1); rintro e w120 ⟨rfl, hb⟩; have n0_ := Aside0.mk (Kd.R_below (by (with_reducible repeat (first | apply Kd.R_alloc | apply Kd.R_drewN | apply Kd.R_drew)); exact HO_6.out) hb); have n1_ := Aside0.mk (Kd.R_below (by (with_reducible repeat (first | apply Kd.R_alloc | apply Kd.R_drewN | apply Kd.R_drew)); exact HO_7.out) hb); have n2_ := Aside0.mk (Kd.R_below (by (with_reducible repeat (first | apply Kd.R_alloc | apply Kd.R_drewN | apply Kd.R_drew)); exact HO_11.out) hb); have n3_ := Aside0.mk (Kd.R_below (by (with_reducible repeat (first | apply Kd.R_alloc | apply Kd.R_drewN | apply Kd.R_drew)); exact HO591.out) hb); have n4_ := Aside0.mk (below_step (by repeat (first | (with_reducible first | exact HB.out | apply below_alloc | apply pw_below_drewN | apply below_drew1) | exact HB.out)) hb); clear HO_6; clear HO_7; clear HO_11; clear HO591; clear HB; have HO_6 := n0_; have HO_7 := n1_; have HO_11 := n2_; have HO591 := n3_; have HB := n4_; clear n0_ n1_ n2_ n3_ n4_; (try clear hb); (try clear hb2); (try clear hk); (try clear hi)))
                repeat (go_quiet (first | (go_at_call 35; (with_reducible refine (spec_DrawIsOneGroup.calls kj8 _ _ l1 t588 t589 _ ?side1 ?side2 A109.out).mono ?_); (case side1 => repeat (first | exact (Kd.C_below HR1.out HB.out) | (with_reducible refine Kd.C_alloc ?_ _) | (with_reducible refine Kd.C_drewN ?_ _) | (with_reducible refine Kd.C_drew ?_))); (case side2 => exact HC1.out); rintro e w117 ⟨v590, rfl, ho0, hb⟩; have n0_ := Aside0.mk (Kd.R_elder' (by (with_reducible repeat (first | apply Kd.R_alloc | apply Kd.R_drewN | apply Kd.R_drew)); exact HO_6.out) (Kd.R_base ho0) hb); have n1_ := Aside0.mk (Kd.R_below (by (with_reducible repeat (first | apply Kd.R_alloc | apply Kd.R_drewN | apply Kd.R_drew)); exact HO_7.out) hb); have n2_ := Aside0.mk (Kd.R_below (by (with_reducible repeat (first | apply Kd.R_alloc | apply Kd.R_drewN | apply Kd.R_drew)); exact HO_11.out) hb); have n3_ := Aside0.mk (Kd.R_lower (Kd.R_new' ho0 (Kd.R_lt (by (with_reducible repeat (first | apply Kd.R_alloc | apply Kd.R_drewN | apply Kd.R_drew)); exact HO_6.out))) (below_size (by repeat (first | (with_reducible first | exact HB.out | apply below_alloc | apply pw_below_drewN | apply below_drew1) | exact HB.out)))); have n4_ := Aside0.mk (below_step (by repeat (first | (with_reducible first | exact HB.out | apply below_alloc | apply pw_below_drewN | apply below_drew1) | exact HB.out)) hb); clear HO_6; clear HO_7; clear HO_11; clear HB; have HO_6 := n0_; have HO_7 := n1_; have HO_11 := n2_; have HO591 := n3_; have HB := n4_; clear n0_ n1_ n2_ n3_ n4_; (try clear hb); (try clear hb2); (try clear hk); (try clear hi); (try clear ho0); obtain ⟨Ao118, co118, eo118⟩ := Kd.R_slice HO591.out; subst eo118) | (go_at_call 13; (with_reducible refine (impl_IsOneGroup.calls kj8 t588 _ _ t589 t592 t593 _ ?side1 ?side2 A110.out).mono ?_); (case side1 => repeat (first | exact (Kd.R_reads' HO591.out).2.2 | (with_reducible refine Kd.C_alloc ?_ _) | (with_reducible refine Kd.C_drewN ?_ _) | (with_reducible refine Kd.C_drew ?_))); (case side2 => exact (Kd.R_reads' HO591.out).2.1); rintro e w119 ⟨rfl, hb⟩; have n0_ := Aside0.mk (Kd.R_below (by (with_reducible repeat (first | apply Kd.R_alloc | apply Kd.R_drewN | apply Kd.R_drew)); exact HO_6.out) hb); have n1_ := Aside0.mk (Kd.R_below (by (with_reducible repeat (first | apply Kd.R_alloc | apply Kd.R_drewN | apply Kd.R_drew)); exact HO_7.out) hb); have n2_ := Aside0.mk (Kd.R_below (by (with_reducible repeat (first | apply Kd.R_alloc | apply Kd.R_drewN | apply Kd.R_drew)); exact HO_11.out) hb); have n3_ := Aside0.mk (Kd.R_below (by (with_reducible repeat (first | apply Kd.R_alloc | apply Kd.R_drewN | apply Kd.R_drew)); exact HO591.out) hb); have n4_ := Aside0.mk (below_step (by repeat (first | (with_reducible first | exact HB.out | apply below_alloc | apply pw_below_drewN | apply below_drew1) | exact HB.out)) hb); clear HO_6; clear HO_7; clear HO_11; clear HO591; clear HB; have HO_6 := n0_; have HO_7 := n1_; have HO_11 := n2_; have HO591 := n3_; have HB := n4_; clear n0_ n1_ n2_ n3_ n4_; (try clear hb); (try clear hb2); (try clear hk); (try clear hi)) | (go_at_call 11; (with_reducible refine (spec_IsOneGroup.calls kj8 t588 _ _ t589 t594 t595 _ ?side1 ?side2 A111.out).mono ?_); (case side1 => repeat (first | exact (Kd.R_reads' HO591.out).2.2 | (with_reducible refine Kd.C_alloc ?_ _) | (with_reducible refine Kd.C_drewN ?_ _) | (with_reducible refine Kd.C_drew ?_))); (case side2 => exact (Kd.R_reads' HO591.out).2.1); rintro e w120 ⟨rfl, hb⟩; have n0_ := Aside0.mk (Kd.R_below (by (with_reducible repeat (first | apply Kd.R_alloc | apply Kd.R_drewN | apply Kd.R_drew)); exact HO_6.out) hb); have n1_ := Aside0.mk (Kd.R_below (by (with_reducible repeat (first | apply Kd.R_alloc | apply Kd.R_drewN | apply Kd.R_drew)); exact HO_7.out) hb); have n2_ := Aside0.mk (Kd.R_below (by (with_reducible repeat (first | apply Kd.R_alloc | apply Kd.R_drewN | apply Kd.R_drew)); exact HO_11.out) hb); have n3_ := Aside0.mk (Kd.R_below (by (with_reducible repeat (first | apply Kd.R_alloc | apply Kd.R_drewN | apply Kd.R_drew)); exact HO591.out) hb); have n4_ := Aside0.mk (below_step (by repeat (first | (with_reducible first | exact HB.out | apply below_alloc | apply pw_below_drewN | apply below_drew1) | exact HB.out)) hb); clear HO_6; clear HO_7; clear HO_11; clear HO591; clear HB; have HO_6 := n0_; have HO_7 := n1_; have HO_11 := n2_; have HO591 := n3_; have HB := n4_; clear n0_ n1_ n2_ n3_ n4_; (try clear hb); (try clear hb2); (try clear hk); (try clear hi))); try go_wp2_with (first | (go_at_call 35; (with_reducible refine (spec_DrawIsOneGroup.calls kj8 _ _ l1 t588 t589 _ ?side1 ?side2 A109.out).mono ?_); (case side1 => repeat (first | exact (Kd.C_below HR1.out HB.out) | (with_reducible refine Kd.C_alloc ?_ _) | (with_reducible refine Kd.C_drewN ?_ _) | (with_reducible refine Kd.C_drew ?_))); (case side2 => exact HC1.out); rintro e w117 ⟨v590, rfl, ho0, hb⟩; have n0_ := Aside0.mk (Kd.R_elder' (by (with_reducible repeat (first | apply Kd.R_alloc | apply Kd.R_drewN | apply Kd.R_drew)); exact HO_6.out) (Kd.R_base ho0) hb); have n1_ := Aside0.mk (Kd.R_below (by (with_reducible repeat (first | apply Kd.R_alloc | apply Kd.R_drewN | apply Kd.R_drew)); exact HO_7.out) hb); have n2_ := Aside0.mk (Kd.R_below (by (with_reducible repeat (first | apply Kd.R_alloc | apply Kd.R_drewN | apply Kd.R_drew)); exact HO_11.out) hb); have n3_ := Aside0.mk (Kd.R_lower (Kd.R_new' ho0 (Kd.R_lt (by (with_reducible repeat (first | apply Kd.R_alloc | apply Kd.R_drewN | apply Kd.R_drew)); exact HO_6.out))) (below_size (by repeat (first | (with_reducible first | exact HB.out | apply below_alloc | apply pw_below_drewN | apply below_drew1) | exact HB.out)))); have n4_ := Aside0.mk (below_step (by repeat (first | (with_reducible first | exact HB.out | apply below_alloc | apply pw_below_drewN | apply below_drew1) | exact HB.out)) hb); clear HO_6; clear HO_7; clear HO_11; clear HB; have HO_6 := n0_; have HO_7 := n1_; have HO_11 := n2_; have HO591 := n3_; have HB := n4_; clear n0_ n1_ n2_ n3_ n4_; (try clear hb); (try clear hb2); (try clear hk); (try clear hi); (try clear ho0); obtain ⟨Ao118, co118, eo118⟩ := Kd.R_slice HO591.out; subst eo118) | (go_at_call 13; (with_reducible refine (impl_IsOneGroup.calls kj8 t588 _ _ t589 t592 t593 _ ?side1 ?side2 A110.out).mono ?_); (case side1 => repeat (first | exact (Kd.R_reads' HO591.out).2.2 | (with_reducible refine Kd.C_alloc ?_ _) | (with_reducible refine Kd.C_drewN ?_ _) | (with_reducible refine Kd.C_drew ?_))); (case side2 => exact (Kd.R_reads' HO591.out).2.1); rintro e w119 ⟨rfl, hb⟩; have n0_ := Aside0.mk (Kd.R_below (by (with_reducible repeat (first | apply Kd.R_alloc | apply Kd.R_drewN | apply Kd.R_drew)); exact HO_6.out) hb); have n1_ := Aside0.mk (Kd.R_below (by (with_reducible repeat (first | apply Kd.R_alloc | apply Kd.R_drewN | apply Kd.R_drew)); exact HO_7.out) hb); have n2_ := Aside0.mk (Kd.R_below (by (with_reducible repeat (first | apply Kd.R_alloc | apply Kd.R_drewN | apply Kd.R_drew)); exact HO_11.out) hb); have n3_ := Aside0.mk (Kd.R_below (by (with_reducible repeat (first | apply Kd.R_alloc | apply Kd.R_drewN | apply Kd.R_drew)); exact HO591.out) hb); have n4_ := Aside0.mk (below_step (by repeat (first | (with_reducible first | exact HB.out | apply below_alloc | apply pw_below_drewN | apply below_drew1) | exact HB.out)) hb); clear HO_6; clear HO_7; clear HO_11; clear HO591; clear HB; have HO_6 := n0_; have HO_7 := n1_; have HO_11 := n2_; have HO591 := n3_; have HB := n4_; clear n0_ n1_ n2_ n3_ n4_; (try clear hb); (try clear hb2); (try clear hk); (try clear hi)) | (go_at_call 11; (with_reducible refine (spec_IsOneGroup.calls kj8 t588 _ _ t589 t594 t595 _ ?side1 ?side2 A111.out).mono ?_); (case side1 => repeat (first | exact (Kd.R_reads' HO591.out).2.2 | (with_reducible refine Kd.C_alloc ?_ _) | (with_reducible refine Kd.C_drewN ?_ _) | (with_reducible refine Kd.C_drew ?_))); (case side2 => exact (Kd.R_reads' HO591.out).2.1); rintro e w120 ⟨rfl, hb⟩; have n0_ := Aside0.mk (Kd.R_below (by (with_reducible repeat (first | apply Kd.R_alloc | apply Kd.R_drewN | apply Kd.R_drew)); exact HO_6.out) hb); have n1_ := Aside0.mk (Kd.R_below (by (with_reducible repeat (first | apply Kd.R_alloc | apply Kd.R_drewN | apply Kd.R_drew)); exact HO_7.out) hb); have n2_ := Aside0.mk (Kd.R_below (by (with_reducible repeat (first | apply Kd.R_alloc | apply Kd.R_drewN | apply Kd.R_drew)); exact HO_11.out) hb); have n3_ := Aside0.mk (Kd.R_below (by (with_reducible repeat (first | apply Kd.R_alloc | apply Kd.R_drewN | apply Kd.R_drew)); exact HO591.out) hb); have n4_ := Aside0.mk (below_step (by repeat (first | (with_reducible first | exact HB.out | apply below_alloc | apply pw_below_drewN | apply below_drew1) | exact HB.out)) hb); clear HO_6; clear HO_7; clear HO_11; clear HO591; clear HB; have HO_6 := n0_; have HO_7 := n1_; have HO_11 := n2_; have HO591 := n3_; have HB := n4_; clear n0_ n1_ n2_ n3_ n4_; (try clear hb); (try clear hb2); (try clear hk); (try clear hi))))
                go_ret
                exact ⟨by first | rfl | (simp [errW_none, errW_some] <;> rfl) | (simp [*, errW_none, errW_some] <;> rfl), by repeat (first | (with_reducible first | exact HB.out | apply below_alloc | apply pw_below_drewN | apply below_drew1) | exact HB.out)⟩
/-- THE ONE PURE STATEMENT of laws_FnGroups: yours. -/
def laws_FnGroups.Pure : Prop := ∀ (l0 : List Int) (l1 : List Int), l0.length ≤ maxLen → l0.length * 1 ≤ 140737488351232 → (∀ x ∈ l0, (Lit.int .u8 x).wf = true) → l1.length ≤ maxLen → l1.length * 1 ≤ 140737488351232 → (∀ x ∈ l1, (Lit.int .u8 x).wf = true) → ∃ k, laws_FnGroups.f k l0 l1 = some true
theorem laws_FnGroups.walk (P : laws_FnGroups.Pure) (a0 : Option Addr) (len0 cap0 : Nat) (z0 : List Int) (a1 : Option Addr) (len1 cap1 : Nat) (z1 : List Int) (w : World) (w0 : (a0 = none ∧ len0 = 0 ∧ cap0 = 0 ∧ z0 = []) ∨ ∃ x, a0 = some x ∧ len0 ≤ cap0 ∧ cap0 ≤ maxLen ∧ z0.length = cap0 ∧ (∀ i, i < z0.length → w.cell? (x.add i) = some (.int .u8 (z0.getD i 0))) ∧ ∀ n ∈ z0, (Lit.int .u8 n).wf = true) (y0 : len0 * 1 ≤ 140737488351232) (w1 : (a1 = none ∧ len1 = 0 ∧ cap1 = 0 ∧ z1 = []) ∨ ∃ x, a1 = some x ∧ len1 ≤ cap1 ∧ cap1 ≤ maxLen ∧ z1.length = cap1 ∧ (∀ i, i < z1.length → w.cell? (x.add i) = some (.int .u8 (z1.getD i 0))) ∧ ∀ n ∈ z1, (Lit.int .u8 n).wf = true) (y1 : len1 * 1 ≤ 140737488351232) :
    Calls Try.prog 8 #[.slice a0 len0 cap0, .slice a1 len1 cap1] w fun e w' => e = .returned (.bool true) ∧ Below w.heap.size w w' := by
  obtain ⟨l0, rfl, hr0, hm0, hw0, hc0⟩ := ReadsInt.ofRowC w0
  obtain ⟨l1, rfl, hr1, hm1, hw1, hc1⟩ := ReadsInt.ofRowC w1
  obtain ⟨k, h⟩ := P l0 l1 hm0 y0 hw0 hm1 y1 hw1
  refine (laws_FnGroups.calls k _ _ l0 _ _ l1 true w (Kd.C_of_reads (d := (0 : Int)) (h1 := fun _ => rfl) hr0) hc0 (Kd.C_of_reads (d := (0 : Int)) (h1 := fun _ => rfl) hr1) hc1 h).mono ?_
  rintro e w' ⟨rfl, hd⟩
  exact ⟨rfl, hd⟩
end Go.Proofs.Ytpbnpepikkocmaa.P

namespace Go.Proofs.Ytpbnpepikkocmaa.P
open Go.RowKit Go.Proofs.YtpbnpepikkocmaaW.PrintWords
set_option linter.unusedVariables false
set_option linter.unusedSimpArgs false
theorem wrap_id {x : Int} (h0 : -9223372036854775808 ≤ x) (h1 : x ≤ 9223372036854775807) : wrap64 x = x := by unfold wrap64; omega
theorem Ev.succ {α : Type} {g : Nat → Option α} {r : α} (h : Ev (fun k => g (k + 1)) r) : Ev g r := Ev.step (fun _ => rfl) h
theorem Ev.some_ {α : Type} {r s : α} (h : r = s) : Ev (fun _ => some r) s := h ▸ Ev.now r
theorem getD_mid {α : Type} (d : α) (pre : List α) (x : α) (suf : List α) : (pre ++ x :: suf).getD ((pre.length : Int)).toNat d = x := by simp
theorem set_mid {α : Type} (pre : List α) (x y : α) (suf : List α) : (pre ++ x :: suf).set ((pre.length : Int)).toNat y = pre ++ y :: suf := by simp
theorem app_one {α : Type} (pre : List α) (x : α) (suf : List α) : pre ++ x :: suf = (pre ++ [x]) ++ suf := by simp
theorem len_mid {α : Type} (pre : List α) (x : α) (suf : List α) : ((pre ++ x :: suf).length : Int) = pre.length + suf.length + 1 := by simp; omega
theorem len_one {α : Type} (pre : List α) (x : α) : ((pre ++ [x]).length : Int) = pre.length + 1 := by simp
theorem nil_or_snoc {α : Type} (l : List α) : l = [] ∨ ∃ p y, l = p ++ [y] := by
  rcases List.eq_nil_or_concat l with rfl | ⟨p, y, rfl⟩
  · exact .inl rfl
  · exact .inr ⟨p, y, by simp⟩
end Go.Proofs.Ytpbnpepikkocmaa.P

namespace Go.Proofs.Ytpbnpepikkocmaa.P
open Go.RowKit Go.Proofs.YtpbnpepikkocmaaW.PrintWords Go.Proofs.YtpbnpepikkocmaaW.PrintLast
set_option linter.unusedVariables false
set_option linter.unusedSimpArgs false
theorem rdEdge_mid (pre : List S52) (x : S52) (suf : List S52) : rd_T52 (pre ++ x :: suf) (pre.length : Int) = x := getD_mid _ pre x suf
end Go.Proofs.Ytpbnpepikkocmaa.P

namespace Go.Proofs.Ytpbnpepikkocmaa.P
open Go.RowKit Go.Proofs.YtpbnpepikkocmaaW.PrintWords Go.Proofs.YtpbnpepikkocmaaW.PrintLast
set_option linter.unusedVariables false
set_option linter.unusedSimpArgs false
theorem rd_mid (pre : List Int) (x : Int) (suf : List Int) : rd (pre ++ x :: suf) (pre.length : Int) = x := getD_mid _ pre x suf
end Go.Proofs.Ytpbnpepikkocmaa.P

namespace Go.Proofs.Ytpbnpepikkocmaa.P
open Go.RowKit Go.Proofs.YtpbnpepikkocmaaW.PrintWords Go.Proofs.YtpbnpepikkocmaaW.PrintLast
set_option linter.unusedVariables false
set_option linter.unusedSimpArgs false
-- sweeps over a list of numbers, and a list taken over, both sides
theorem specIn (a b c : Int) : spec_l1In.f a b c = some (decide (b ≤ a ∧ a ≤ c)) := by
  unfold spec_l1In.f
  by_cases h : a ≥ b
  · rw [if_pos h]
    congr 1
    by_cases h2 : a ≤ c
    · rw [decide_eq_true h2, decide_eq_true ⟨h, h2⟩]
    · rw [decide_eq_false h2, decide_eq_false (fun hc => h2 hc.2)]
  · rw [if_neg h, decide_eq_false (fun hc => h hc.1)]
theorem implIn (a b c : Int) : impl_in.f a b c = some (decide (b ≤ a ∧ a ≤ c)) := specIn a b c
def allIn (a b : Int) (l : List Int) : Bool := l.all fun x => decide (a ≤ x ∧ x ≤ b)
theorem implAll_l (a b : Int) (suf : List Int) : ∀ (pre : List Int), ((pre ++ suf).length : Int) ≤ 1099511627776 → Ev (fun k => impl_allIn.l0 k a b (pre ++ suf) ((pre ++ suf).length : Int) pre.length) (allIn a b suf) := by
  induction suf with
  | nil =>
    intro pre h
    refine Ev.succ ?_
    simp only [impl_allIn.l0, List.append_nil, Int.lt_irrefl, if_false]
    exact Ev.now _
  | cons x suf ih =>
    intro pre h
    refine Ev.succ ?_
    rw [len_mid] at h ⊢
    simp only [impl_allIn.l0]
    simp only [if_pos (show ((pre.length : Int) < pre.length + suf.length + 1) by omega), if_pos (show (0 : Int) ≤ pre.length by omega), len_mid, rd_mid, implIn, Option.bind_some, wrap_id (show (-9223372036854775808 : Int) ≤ pre.length + 1 by omega) (show ((pre.length : Int) + 1 ≤ 9223372036854775807) by omega)]
    by_cases hx : a ≤ x ∧ x ≤ b
    · have := ih (pre ++ [x]) (by rw [← app_one, len_mid]; exact h)
      rw [← app_one, len_mid, len_one] at this
      simp only [hx, and_self, decide_true, if_true]
      rw [show allIn a b (x :: suf) = allIn a b suf by simp [allIn, hx]]
      exact this
    · simp only [decide_eq_true_eq, if_neg hx]
      rw [show allIn a b (x :: suf) = false by simp [allIn]; intro h1 h2; exact absurd ⟨h1, h2⟩ hx]
      exact Ev.now _
end Go.Proofs.Ytpbnpepikkocmaa.P

namespace Go.Proofs.Ytpbnpepikkocmaa.P
open Go.RowKit Go.Proofs.YtpbnpepikkocmaaW.PrintWords Go.Proofs.YtpbnpepikkocmaaW.PrintLast
set_option linter.unusedVariables false
set_option linter.unusedSimpArgs false
def isEdge (m : Int) (x : S52) : Bool := decide (0 ≤ x.f0 ∧ x.f0 ≤ m ∧ 0 ≤ x.f1 ∧ x.f1 ≤ m ∧ x.f0 < x.f1 ∧ 1 ≤ x.f2 ∧ x.f2 ≤ 100)
def edgeLt (y x : S52) : Bool := decide (y.f0 < x.f0 ∨ y.f0 = x.f0 ∧ y.f1 < x.f1)
def goodEF (m : Int) : Option S52 → List S52 → Bool
  | _, [] => true
  | none, x :: r => isEdge m x && goodEF m (some x) r
  | some y, x :: r => isEdge m x && (edgeLt y x && goodEF m (some x) r)
def goodE (n : Int) (l : List S52) : Bool := goodEF (wrap64 (n - 1)) none l && (decide (1 ≤ n ∧ n ≤ 12) && decide (l.length ≤ 40))
theorem isEdge_iff (m : Int) (x : S52) : isEdge m x = true ↔ (0 ≤ x.f0 ∧ x.f0 ≤ m ∧ 0 ≤ x.f1 ∧ x.f1 ≤ m ∧ x.f0 < x.f1 ∧ 1 ≤ x.f2 ∧ x.f2 ≤ 100) := by unfold isEdge; simp only [decide_eq_true_eq]
theorem specGoodE_l (n : Int) (suf : List S52) : ∀ (pre : List S52), (pre.length : Int) + suf.length ≤ 1099511627776 →
    Ev (fun k => spec_GoodEdges.l0 k n (pre ++ suf) (pre ++ suf) ((pre ++ suf).length : Int) (pre.length : Int)) (goodEF (wrap64 (n - 1)) pre.getLast? suf && (decide (1 ≤ n ∧ n ≤ 12) && decide ((pre ++ suf).length ≤ 40))) := by
  induction suf with
  | nil =>
    intro pre hb
    refine Ev.succ ?_
    simp only [spec_GoodEdges.l0]
    simp only [if_neg (show ¬ (pre.length : Int) < ((pre ++ ([] : List S52)).length : Int) by simp), specIn, Option.bind_some]
    have : goodEF (wrap64 (n - 1)) pre.getLast? [] = true := by cases pre.getLast? <;> rfl
    rw [this, Bool.true_and]
    by_cases h : 1 ≤ n ∧ n ≤ 12
    · simp only [h, and_self, decide_true, if_true, Bool.true_and]
      refine Ev.some_ ?_
      congr 1
      simp only [eq_iff_iff]
      omega
    · simp only [h, decide_false, Bool.false_eq_true, if_false, Bool.false_and]
      exact Ev.now _
  | cons x suf ih =>
    intro pre hb
    simp only [List.length_cons] at hb
    have c1 : (pre.length : Int) < ((pre ++ x :: suf).length : Int) := by simp <;> omega
    have c0 : (0 : Int) ≤ (pre.length : Int) := by omega
    have h := ih (pre ++ [x]) (by simp <;> omega)
    rw [← app_one, len_one, List.getLast?_concat] at h
    refine Ev.succ ?_
    simp only [spec_GoodEdges.l0]
    simp only [if_pos c1, if_pos c0, rdEdge_mid, specIn, Option.bind_some]
    generalize wrap64 (n - 1) = m at h ⊢
    generalize hfin : (decide (1 ≤ n ∧ n ≤ 12) && decide ((pre ++ x :: suf).length ≤ 40)) = fin at h ⊢
    have bad : ∀ (b : Bool), isEdge m x = false → b = true → Ev (fun k => spec_GoodEdges.j1 k n (pre ++ x :: suf) (pre.length : Int) (pre ++ x :: suf) ((pre ++ x :: suf).length : Int) (pre.length : Int) b x.f0 x.f1 x.f2) (goodEF m pre.getLast? (x :: suf) && fin) := by
      intro b he hb
      refine Ev.succ ?_
      simp only [spec_GoodEdges.j1, hb, if_true]
      refine Ev.some_ ?_
      cases pre.getLast? <;> simp [goodEF, he]
    by_cases h1 : 0 ≤ x.f0 ∧ x.f0 ≤ m
    · simp only [h1, and_self, decide_true, if_true]
      by_cases h2 : 0 ≤ x.f1 ∧ x.f1 ≤ m
      · simp only [h2, and_self, decide_true, if_true]
        by_cases h3 : x.f0 ≥ x.f1
        · simp only [if_pos h3]
          refine bad true ?_ rfl
          unfold isEdge; simp only [decide_eq_false_iff_not]; omega
        · simp only [if_neg h3]
          by_cases h4 : 1 ≤ x.f2 ∧ x.f2 ≤ 100
          · have he : isEdge m x = true := by rw [isEdge_iff]; omega
            simp only [h4, and_self, decide_true, Bool.not_true]
            refine Ev.succ ?_
            simp only [spec_GoodEdges.j1, Bool.false_eq_true, if_false]
            rw [wrap_id (x := (pre.length : Int) + 1) (by omega) (by omega)]
            rcases nil_or_snoc pre with rfl | ⟨pre', y, rfl⟩
            · simp only [if_neg (show ¬ (([] : List S52).length : Int) > 0 by simp)]
              have e : goodEF m ([] : List S52).getLast? (x :: suf) = goodEF m (some x) suf := by simp [goodEF, he]
              rw [e]
              exact h
            · have hy : rd_T52 ((pre' ++ [y]) ++ x :: suf) (((pre' ++ [y]).length : Int) - 1) = y := by
                rw [show ((pre' ++ [y]) ++ x :: suf) = pre' ++ y :: (x :: suf) by simp, show (((pre' ++ [y]).length : Int) - 1) = (pre'.length : Int) by simp]
                exact rdEdge_mid _ _ _
              have q0 : (((pre' ++ [y]).length : Int)) > 0 := by simp <;> omega
              rw [wrap_id (x := ((pre' ++ [y]).length : Int) - 1) (by omega) (by omega)]
              simp only [if_pos q0, if_pos (show 0 ≤ ((pre' ++ [y]).length : Int) - 1 by omega), if_pos (show ((pre' ++ [y]).length : Int) - 1 < (((pre' ++ [y]) ++ x :: suf).length : Int) by omega), hy]
              have e : goodEF m (pre' ++ [y]).getLast? (x :: suf) = (edgeLt y x && goodEF m (some x) suf) := by simp [goodEF, he]
              rw [e]
              by_cases g1 : y.f0 > x.f0
              · simp only [if_pos g1]
                refine Ev.some_ ?_
                have : edgeLt y x = false := by unfold edgeLt; simp only [decide_eq_false_iff_not]; omega
                rw [this]; rfl
              · simp only [if_neg g1]
                by_cases g2 : y.f0 = x.f0
                · simp only [if_pos g2]
                  by_cases g3 : y.f1 ≥ x.f1
                  · simp only [if_pos g3]
                    refine Ev.some_ ?_
                    have : edgeLt y x = false := by unfold edgeLt; simp only [decide_eq_false_iff_not]; omega
                    rw [this]; rfl
                  · simp only [if_neg g3]
                    have : edgeLt y x = true := by unfold edgeLt; simp only [decide_eq_true_eq]; omega
                    rw [this, Bool.true_and]
                    exact h
                · simp only [if_neg g2]
                  have : edgeLt y x = true := by unfold edgeLt; simp only [decide_eq_true_eq]; omega
                  rw [this, Bool.true_and]
                  exact h
          · simp only [h4, decide_false, Bool.not_false]
            refine bad true ?_ rfl
            unfold isEdge; simp only [decide_eq_false_iff_not]; omega
      · simp only [h2, decide_false, Bool.false_eq_true, if_false]
        refine bad true ?_ rfl
        unfold isEdge; simp only [decide_eq_false_iff_not]; omega
    · simp only [h1, decide_false, Bool.false_eq_true, if_false]
      refine bad true ?_ rfl
      unfold isEdge; simp only [decide_eq_false_iff_not]; omega
theorem specGoodE_ev (n : Int) (l : List S52) (hl : l.length ≤ 1048576) : Ev (fun k => spec_GoodEdges.f k n l) (goodE n l) := by
  unfold spec_GoodEdges.f
  exact specGoodE_l n l [] (by simp <;> omega)
theorem implGoodE_l (n : Int) (hm : wrap64 (n - 1) ≤ 9223372036854775807) (suf : List S52) : ∀ (pre : List S52), (pre.length : Int) + suf.length ≤ 1099511627776 → (∀ y, pre.getLast? = some y → isEdge (wrap64 (n - 1)) y = true) →
    Ev (fun k => impl_GoodEdges.l0 k n (pre ++ suf) (pre ++ suf) ((pre ++ suf).length : Int) (pre.length : Int)) (goodEF (wrap64 (n - 1)) pre.getLast? suf && (decide (1 ≤ n ∧ n ≤ 12) && decide ((pre ++ suf).length ≤ 40))) := by
  induction suf with
  | nil =>
    intro pre hb _
    refine Ev.succ ?_
    simp only [impl_GoodEdges.l0]
    simp only [if_neg (show ¬ (pre.length : Int) < ((pre ++ ([] : List S52)).length : Int) by simp), impl_isSpots.f, implIn, Option.bind_some]
    have : goodEF (wrap64 (n - 1)) pre.getLast? [] = true := by cases pre.getLast? <;> rfl
    rw [this, Bool.true_and]
    by_cases h : 1 ≤ n ∧ n ≤ 12
    · simp only [h, and_self, decide_true, if_true, Bool.true_and]
      refine Ev.some_ ?_
      congr 1
      simp only [eq_iff_iff]
      omega
    · simp only [h, decide_false, Bool.false_eq_true, if_false, Bool.false_and]
      exact Ev.now _
  | cons x suf ih =>
    intro pre hb hlast
    simp only [List.length_cons] at hb
    have c1 : (pre.length : Int) < ((pre ++ x :: suf).length : Int) := by simp <;> omega
    have c0 : (0 : Int) ≤ (pre.length : Int) := by omega
    have h := ih (pre ++ [x]) (by simp <;> omega)
    rw [← app_one, len_one, List.getLast?_concat] at h
    refine Ev.succ ?_
    simp only [impl_GoodEdges.l0]
    simp only [if_pos c1, if_pos c0, rdEdge_mid, implIn, Option.bind_some]
    generalize wrap64 (n - 1) = m at h hm hlast ⊢
    generalize hfin : (decide (1 ≤ n ∧ n ≤ 12) && decide ((pre ++ x :: suf).length ≤ 40)) = fin at h ⊢
    have bad : isEdge m x = false → Ev (fun k => some false) (goodEF m pre.getLast? (x :: suf) && fin) := by
      intro he
      refine Ev.some_ ?_
      cases pre.getLast? <;> simp [goodEF, he]
    by_cases h1 : 0 ≤ x.f0 ∧ x.f0 ≤ m
    · simp only [h1, and_self, decide_true, if_true]
      by_cases h2 : 0 ≤ x.f1 ∧ x.f1 ≤ m
      · simp only [h2, and_self, decide_true, if_true]
        by_cases h3 : x.f0 ≥ x.f1
        · simp only [if_pos h3]
          refine bad ?_
          unfold isEdge; simp only [decide_eq_false_iff_not]; omega
        · simp only [if_neg h3]
          by_cases h4 : 1 ≤ x.f2 ∧ x.f2 ≤ 100
          · have he : isEdge m x = true := by rw [isEdge_iff]; omega
            have h := h (fun y hy => by cases hy; exact he)
            simp only [h4, and_self, decide_true, if_true]
            rw [wrap_id (x := (pre.length : Int) + 1) (by omega) (by omega)]
            rcases nil_or_snoc pre with rfl | ⟨pre', y, rfl⟩
            · simp only [if_neg (show ¬ (([] : List S52).length : Int) > 0 by simp)]
              have e : goodEF m ([] : List S52).getLast? (x :: suf) = goodEF m (some x) suf := by simp [goodEF, he]
              rw [e]
              exact h
            · have hy : rd_T52 ((pre' ++ [y]) ++ x :: suf) (((pre' ++ [y]).length : Int) - 1) = y := by
                rw [show ((pre' ++ [y]) ++ x :: suf) = pre' ++ y :: (x :: suf) by simp, show (((pre' ++ [y]).length : Int) - 1) = (pre'.length : Int) by simp]
                exact rdEdge_mid _ _ _
              have hye := (isEdge_iff m y).1 (hlast y (by simp))
              have hxe := (isEdge_iff m x).1 he
              have q0 : (((pre' ++ [y]).length : Int)) > 0 := by simp <;> omega
              rw [wrap_id (x := ((pre' ++ [y]).length : Int) - 1) (by omega) (by omega)]
              simp only [if_pos q0, if_pos (show 0 ≤ ((pre' ++ [y]).length : Int) - 1 by omega), if_pos (show ((pre' ++ [y]).length : Int) - 1 < (((pre' ++ [y]) ++ x :: suf).length : Int) by omega), hy]
              have e : goodEF m (pre' ++ [y]).getLast? (x :: suf) = (edgeLt y x && goodEF m (some x) suf) := by simp [goodEF, he]
              rw [e]
              have eb : impl_byEnds.f y.f0 y.f1 y.f2 x.f0 x.f1 x.f2 = some (if y.f0 = x.f0 then y.f1 - x.f1 else y.f0 - x.f0) := by
                unfold impl_byEnds.f
                split
                · rw [wrap_id (by omega) (by omega)]
                · rw [wrap_id (by omega) (by omega)]
              simp only [eb, Option.bind_some]
              by_cases g : edgeLt y x = true
              · have g' : (y.f0 < x.f0 ∨ y.f0 = x.f0 ∧ y.f1 < x.f1) := by unfold edgeLt at g; simpa only [decide_eq_true_eq] using g
                rw [g, Bool.true_and]
                simp only [if_neg (show ¬ (if y.f0 = x.f0 then y.f1 - x.f1 else y.f0 - x.f0) ≥ 0 by split <;> omega)]
                exact h
              · have g' : ¬ (y.f0 < x.f0 ∨ y.f0 = x.f0 ∧ y.f1 < x.f1) := by unfold edgeLt at g; simpa only [decide_eq_true_eq] using g
                simp only [if_pos (show (if y.f0 = x.f0 then y.f1 - x.f1 else y.f0 - x.f0) ≥ 0 by split <;> omega)]
                refine Ev.some_ ?_
                rw [Bool.not_eq_true] at g
                rw [g]; rfl
          · simp only [h4, decide_false, Bool.false_eq_true, if_false]
            refine bad ?_
            unfold isEdge; simp only [decide_eq_false_iff_not]; omega
      · simp only [h2, decide_false, Bool.false_eq_true, if_false]
        refine bad ?_
        unfold isEdge; simp only [decide_eq_false_iff_not]; omega
    · simp only [h1, decide_false, Bool.false_eq_true, if_false]
      refine bad ?_
      unfold isEdge; simp only [decide_eq_false_iff_not]; omega
theorem wrap_top (x : Int) : -9223372036854775808 ≤ wrap64 x ∧ wrap64 x ≤ 9223372036854775807 := by unfold wrap64; omega
theorem implGoodE_ev (n : Int) (l : List S52) (hl : l.length ≤ 1048576) : Ev (fun k => impl_GoodEdges.f k n l) (goodE n l) := by
  unfold impl_GoodEdges.f
  exact implGoodE_l n (wrap_top _).2 l [] (by simp <;> omega) (fun y hy => by simp at hy)
/-- What good edges are. -/
theorem goodE_n {n : Int} {l : List S52} (h : goodE n l = true) : 1 ≤ n ∧ n ≤ 12 ∧ l.length ≤ 40 := by
  unfold goodE at h
  simp only [Bool.and_eq_true, decide_eq_true_eq] at h
  exact ⟨h.2.1.1, h.2.1.2, h.2.2⟩
theorem goodEF_all {m : Int} : ∀ (l : List S52) (o : Option S52), goodEF m o l = true → ∀ x ∈ l, isEdge m x = true
  | [], _, _, x, hx => by simp at hx
  | y :: r, o, h, x, hx => by
    have h2 : isEdge m y = true ∧ goodEF m (some y) r = true := by
      cases o with
      | none => simpa [goodEF] using h
      | some z =>
        simp only [goodEF, Bool.and_eq_true] at h
        exact ⟨h.1, h.2.2⟩
    rcases List.mem_cons.1 hx with rfl | hx
    · exact h2.1
    · exact goodEF_all r _ h2.2 x hx
theorem goodE_edge {n : Int} {l : List S52} (h : goodE n l = true) : ∀ x ∈ l, 0 ≤ x.f0 ∧ x.f0 < x.f1 ∧ x.f1 < n ∧ 1 ≤ x.f2 ∧ x.f2 ≤ 100 := by
  have hn := goodE_n h
  intro x hx
  unfold goodE at h
  simp only [Bool.and_eq_true] at h
  have := (isEdge_iff _ _).1 (goodEF_all l none h.1 x hx)
  rw [wrap_id (by omega) (by omega)] at this
  omega
theorem goodEF_rise {m : Int} : ∀ (l : List S52) (y : S52), goodEF m (some y) l = true → ∀ x ∈ l, (y.f0 < x.f0 ∨ y.f0 = x.f0 ∧ y.f1 < x.f1)
  | [], _, _, x, hx => by simp at hx
  | a :: r, y, h, x, hx => by
    simp only [goodEF, Bool.and_eq_true, edgeLt, decide_eq_true_eq] at h
    rcases List.mem_cons.1 hx with rfl | hx
    · exact h.2.1
    · have := goodEF_rise r a h.2.2 x hx
      omega
theorem goodEF_pair {m : Int} : ∀ (l : List S52) (o : Option S52), goodEF m o l = true → l.Pairwise (fun y x => y.f0 < x.f0 ∨ y.f0 = x.f0 ∧ y.f1 < x.f1)
  | [], _, _ => List.Pairwise.nil
  | y :: r, o, h => by
    have h2 : goodEF m (some y) r = true := by
      cases o with
      | none => simp only [goodEF, Bool.and_eq_true] at h; exact h.2
      | some z => simp only [goodEF, Bool.and_eq_true] at h; exact h.2.2
    exact List.Pairwise.cons (goodEF_rise r y h2) (goodEF_pair r _ h2)
theorem goodE_pair {n : Int} {l : List S52} (h : goodE n l = true) : l.Pairwise (fun y x => y.f0 < x.f0 ∨ y.f0 = x.f0 ∧ y.f1 < x.f1) := by
  unfold goodE at h
  simp only [Bool.and_eq_true] at h
  exact goodEF_pair l none h.1
end Go.Proofs.Ytpbnpepikkocmaa.P
