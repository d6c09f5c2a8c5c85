/- Functions, walks and plain lemmas that the law FnExactIsStable reaches, part 4. -/
import Derived.Test.YtoipbblhmcpneaaCFnExactIsStable3
import Derived.WalkKit
import Derived.ProofKit
import Derived.OpenShut
import Derived.ChangeOld
import Derived.Below
import Derived.SizedLaws
import Derived.ChangeArms
import Derived.DataElems
import Derived.Deep.Draws
import Derived.Deep.AppendLies
import Derived.Maps.AppendAt
import Derived.OwnWalk
import Derived.Laws.BytesArg
import Derived.Laws.MakeOwn
import Derived.Laws.OwnMore
import Derived.Deep.OwnRows
import Derived.Tactics
import Derived.Lib.ConvBytes
import Derived.Laws.Slices
import Derived.KernelRfl
import Derived.RowKit3
import Derived.Deep.LoopGhost
import Derived.Deep.QuietTactic
import Derived.BigQuiet
import Derived.WideLaws
import Derived.Deep.DeepCutAuto
import Derived.Deep.CutBlock
import Derived.Deep.RegionHeld3
import Derived.Laws.Rows
import Derived.Lib.AppendStr
import Derived.ArgAppend
import Derived.Laws.IdiomCopy
import Derived.OrdersHeld
import Derived.Laws.BitsLemmas
import Derived.RowKit
import Derived.WalkSpells
import Derived.Lib.SliceRun
import Derived.Shelf.Abstract
import Derived.ShutString
namespace Go.Proofs.Ytoipbblhmcpneaa.P
open Go.RowKit Go.Proofs.YtoipbblhmcpneaaW.PrintWords Go.Proofs.YtoipbblhmcpneaaW.PrintLast Go.Proofs.YtoipbblhmcpneaaW.PrintMore
attribute [local go_sem] max2_int min2_int max_two min_two max_three min_three max_four min_four   -- for this text's walks alone
set_option linter.unusedVariables false
set_option linter.unusedSimpArgs false
def laws_FnExactIsStable.j0 : Nat → List Int → List Int → Bool → List (List Int) → List (List Int) → List Int → List (List Int) → List (List Int) → List Int → Option (Bool)
 | 0, _, _, _, _, _, _, _, _, _ => none
 | k + 1, x1, x9, x45, x491000, x491001, x491002, x516000, x516001, x516002 => if x45 = true then (some false) else ((laws_toWishes.f k x491000 x491001 x491002).bind fun bt521 => ((laws_eqWishes.f k x516000 x516001 x516002 bt521.1 bt521.2.1 bt521.2.2).bind fun t530 => (if t530 = true then ((laws_toIntS.f k x1).bind fun t531 => ((laws_eqIntS.f k x9 t531).bind fun t534 => (if t534 = true then (some true) else (some false)))) else (some false))))
def laws_FnExactIsStable.f (k : Nat) (l0_0 : List (List Int)) (l0_1 : List (List Int)) (l0_2 : List Int) (l1 : List Int) : Option (Bool) := if (l1.length : Int) > 1048576 then (some true) else ((laws_szWishes.f k l0_0 l0_1 l0_2 1048576).bind fun t491 => (if t491 < 0 then (some true) else ((laws_toWishes.f k l0_0 l0_1 l0_2).bind fun bt492 => ((laws_toIntS.f k l1).bind fun t501 => ((spec_IsStable.f k bt492.1 bt492.2.1 bt492.2.2 t501).bind fun bt504 => ((laws_toWishes.f k l0_0 l0_1 l0_2).bind fun bt506 => ((laws_toIntS.f k l1).bind fun t516 => ((impl_IsStable.f k bt506.1 bt506.2.1 bt506.2.2 t516).bind fun bt519 => (if (bt519.1 != bt504.1) = true then (laws_FnExactIsStable.j0 k l1 t516 true l0_0 l0_1 l0_2 bt506.1 bt506.2.1 bt506.2.2) else (laws_FnExactIsStable.j0 k l1 t516 (bt519.2 != bt504.2) l0_0 l0_1 l0_2 bt506.1 bt506.2.1 bt506.2.2))))))))))
set_option maxHeartbeats 8000000 in
set_option maxRecDepth 100000 in
theorem laws_FnExactIsStable.calls (k : Nat) (A0_0 : Option Addr) (c0_0 : Nat) (l0_0 : List (List Int)) (A0_1 : Option Addr) (c0_1 : Nat) (l0_1 : List (List Int)) (A0_2 : Option Addr) (c0_2 : Nat) (l0_2 : List Int) (A1 : Option Addr) (c1 : Nat) (l1 : List Int) (r : Bool) (w : World) (hr0_0 : Kd.C (Kd.slice 3 (Kd.int .i64)) w A0_0 l0_0.length l0_0) (hc0_0 : l0_0.length ≤ c0_0) (hr0_1 : Kd.C (Kd.slice 3 (Kd.int .i64)) w A0_1 l0_1.length l0_1) (hc0_1 : l0_1.length ≤ c0_1) (hr0_2 : Kd.C (Kd.int .i64) w A0_2 l0_2.length l0_2) (hc0_2 : l0_2.length ≤ c0_2) (hr1 : Kd.C (Kd.int .i64) w A1 l1.length l1) (hc1 : l1.length ≤ c1) (h : laws_FnExactIsStable.f k l0_0 l0_1 l0_2 l1 = some r) :
  Calls Try.prog 8 #[.agg #[.slice A0_0 l0_0.length c0_0, .slice A0_1 l0_1.length c0_1, .slice A0_2 l0_2.length c0_2], .slice A1 l1.length c1] w fun e w' => e = .returned (.bool r) ∧ Below w.heap.size w w' := by
 have hu30 := Try.underlying30
 have hu33 := Try.underlying33
 have HR0_0 := Aside0.mk hr0_0
 have HC0_0 := Aside0.mk hc0_0
 clear hr0_0 hc0_0
 have HR0_1 := Aside0.mk hr0_1
 have HC0_1 := Aside0.mk hc0_1
 clear hr0_1 hc0_1
 have HR0_2 := Aside0.mk hr0_2
 have HC0_2 := Aside0.mk hc0_2
 clear hr0_2 hc0_2
 have HR1 := Aside0.mk hr1
 have HC1 := Aside0.mk hc1
 clear hr1 hc1
 have HB := Aside0.mk (Below.refl w.heap.size w)
 have H : (if (l1.length : Int) > 1048576 then (some true) else ((laws_szWishes.f k l0_0 l0_1 l0_2 1048576).bind fun t491 => (if t491 < 0 then (some true) else ((laws_toWishes.f k l0_0 l0_1 l0_2).bind fun bt492 => ((laws_toIntS.f k l1).bind fun t501 => ((spec_IsStable.f k bt492.1 bt492.2.1 bt492.2.2 t501).bind fun bt504 => ((laws_toWishes.f k l0_0 l0_1 l0_2).bind fun bt506 => ((laws_toIntS.f k l1).bind fun t516 => ((impl_IsStable.f k bt506.1 bt506.2.1 bt506.2.2 t516).bind fun bt519 => (if (bt519.1 != bt504.1) = true then (laws_FnExactIsStable.j0 k l1 t516 true l0_0 l0_1 l0_2 bt506.1 bt506.2.1 bt506.2.2) else (laws_FnExactIsStable.j0 k l1 t516 (bt519.2 != bt504.2) l0_0 l0_1 l0_2 bt506.1 bt506.2.1 bt506.2.2))))))))))) = some r := h
 clear h
 by_cases c3 : (l1.length : Int) > 1048576
 ·rw [if_pos c3] at H
  have c3b0 : decide (1048576 < (l1.length : Int)) = true := decide_eq_true c3
  have c3b1 : decide (1048576 < l1.length) = true := decide_eq_true (by omega)
  clear c3
  obtain rfl := Option.some.inj H
  go_enter Try.func8, Try.ntmps8
  go_wp2_with (first | ((with_reducible refine gate_dst (N := 2) rfl ?_); refine box_event ?hg (N := 2) ?hd (cs := #[.slice A0_0 l0_0.length c0_0, .slice A0_1 l0_1.length c0_1, .slice A0_2 l0_2.length c0_2]) (t := 30) ?hr ?_; (case hd => rfl); (case hg => rfl); (case hr => first | (go_simp; done) | (go_simp; rfl)); intro gb490 hg w4 hbox hb; have n0_ := Aside0.mk (below_step (by repeat (first | (with_reducible first | exact HB.out | apply below_alloc | apply pw_below_drewN | apply below_drew1) | exact HB.out)) hb); have n1_ := Aside0.mk (hbox); have n2_ := Aside0.mk ((by rw [hg]; exact (below_size (by repeat (first | (with_reducible first | exact HB.out | apply below_alloc | apply pw_below_drewN | apply below_drew1) | exact HB.out))) : w.heap.size ≤ gb490)); have n3_ := Aside0.mk ((by rw [hg]; exact (below_size (by repeat (first | (with_reducible first | exact HB.out | apply below_alloc | apply pw_below_drewN | apply below_drew1) | exact HB.out))) : w.heap.size ≤ gb490)); clear HB; have HB := n0_; have BK490 := n1_; have GW490 := n2_; have GE490 := n3_; clear n0_ n1_ n2_ n3_; clear hb hbox hg))
  go_ret
  exact ⟨by first | rfl | (simp [errW_none, errW_some] <;> rfl) | (simp [*, errW_none, errW_some] <;> rfl), by repeat (first | (with_reducible first | exact HB.out | apply below_alloc | apply pw_below_drewN | apply below_drew1 | refine below_set ?_ GE490.out) | exact HB.out)⟩
 ·rw [if_neg c3] at H
  have c3b0 : decide (1048576 < (l1.length : Int)) = false := decide_eq_false c3
  have c3b1 : decide (1048576 < l1.length) = false := decide_eq_false (by omega)
  clear c3
  replace H := Option.bind_eq_some_iff.mp H
  obtain ⟨t491, A50, H⟩ := H
  replace H : (if t491 < 0 then (some true) else ((laws_toWishes.f k l0_0 l0_1 l0_2).bind fun bt492 => ((laws_toIntS.f k l1).bind fun t501 => ((spec_IsStable.f k bt492.1 bt492.2.1 bt492.2.2 t501).bind fun bt504 => ((laws_toWishes.f k l0_0 l0_1 l0_2).bind fun bt506 => ((laws_toIntS.f k l1).bind fun t516 => ((impl_IsStable.f k bt506.1 bt506.2.1 bt506.2.2 t516).bind fun bt519 => (if (bt519.1 != bt504.1) = true then (laws_FnExactIsStable.j0 k l1 t516 true l0_0 l0_1 l0_2 bt506.1 bt506.2.1 bt506.2.2) else (laws_FnExactIsStable.j0 k l1 t516 (bt519.2 != bt504.2) l0_0 l0_1 l0_2 bt506.1 bt506.2.1 bt506.2.2))))))))) = some r := H
  have A5 := Aside0.mk A50
  clear A50
  by_cases c6 : t491 < 0
  ·rw [if_pos c6] at H
   have c6b0 : decide (t491 < 0) = true := decide_eq_true c6
   clear c6
   obtain rfl := Option.some.inj H
   go_enter Try.func8, Try.ntmps8
   go_wp2_with (first | ((with_reducible refine gate_dst (N := 2) rfl ?_); refine box_event ?hg (N := 2) ?hd (cs := #[.slice A0_0 l0_0.length c0_0, .slice A0_1 l0_1.length c0_1, .slice A0_2 l0_2.length c0_2]) (t := 30) ?hr ?_; (case hd => rfl); (case hg => rfl); (case hr => first | (go_simp; done) | (go_simp; rfl)); intro gb490 hg w7 hbox hb; have n0_ := Aside0.mk (below_step (by repeat (first | (with_reducible first | exact HB.out | apply below_alloc | apply pw_below_drewN | apply below_drew1) | exact HB.out)) hb); have n1_ := Aside0.mk (hbox); have n2_ := Aside0.mk ((by rw [hg]; exact (below_size (by repeat (first | (with_reducible first | exact HB.out | apply below_alloc | apply pw_below_drewN | apply below_drew1) | exact HB.out))) : w.heap.size ≤ gb490)); have n3_ := Aside0.mk ((by rw [hg]; exact (below_size (by repeat (first | (with_reducible first | exact HB.out | apply below_alloc | apply pw_below_drewN | apply below_drew1) | exact HB.out))) : w.heap.size ≤ gb490)); clear HB; have HB := n0_; have BK490 := n1_; have GW490 := n2_; have GE490 := n3_; clear n0_ n1_ n2_ n3_; clear hb hbox hg; have hcz8_0 : w7.cell? ⟨gb490, 0, none⟩ = some (.slice A0_0 l0_0.length c0_0) := (blk_cell BK490.out 0).trans rfl; have hcz8_1 : w7.cell? ⟨gb490, 1, none⟩ = some (.slice A0_1 l0_1.length c0_1) := (blk_cell BK490.out 1).trans rfl; have hcz8_2 : w7.cell? ⟨gb490, 2, none⟩ = some (.slice A0_2 l0_2.length c0_2) := (blk_cell BK490.out 2).trans rfl; have hfz8_0 := blk_frozen BK490.out 0; have hfz8_1 := blk_frozen BK490.out 1; have hfz8_2 := blk_frozen BK490.out 2) | ((with_reducible refine gate_callee (f := 17) rfl ?_); refine goesL_ (some 17) rfl rfl Try.func17 (by kernel_rfl) rfl #[.agg #[.slice A0_0 l0_0.length c0_0, .slice A0_1 l0_1.length c0_1, .slice A0_2 l0_2.length c0_2], .int .i64 1048576] rfl (by (try simp only [List.map_toArray, List.map_cons, List.map_nil]); first | done | rfl | (simp only [List.length_drop, List.length_take]; rfl)) ?_; (with_reducible refine (laws_szWishes.calls k _ _ l0_0 _ _ l0_1 _ _ l0_2 1048576 t491 _ ?side1 ?side2 ?side3 ?side4 ?side5 ?side6 A5.out).mono ?_); (case side1 => repeat (first | exact (Kd.C_below HR0_0.out HB.out) | (with_reducible refine Kd.C_alloc ?_ _) | (with_reducible refine Kd.C_drewN ?_ _) | (with_reducible refine Kd.C_drew ?_))); (case side2 => exact HC0_0.out); (case side3 => repeat (first | exact (Kd.C_below HR0_1.out HB.out) | (with_reducible refine Kd.C_alloc ?_ _) | (with_reducible refine Kd.C_drewN ?_ _) | (with_reducible refine Kd.C_drew ?_))); (case side4 => exact HC0_1.out); (case side5 => repeat (first | exact (Kd.C_below HR0_2.out HB.out) | (with_reducible refine Kd.C_alloc ?_ _) | (with_reducible refine Kd.C_drewN ?_ _) | (with_reducible refine Kd.C_drew ?_))); (case side6 => exact HC0_2.out); rintro e w9 ⟨rfl, hb⟩; refine ⟨_, rfl, ?_⟩; have n0_ := Aside0.mk (blk_below (g := gb490) (o := .cells #[.slice A0_0 l0_0.length c0_0, .slice A0_1 l0_1.length c0_1, .slice A0_2 l0_2.length c0_2] 30 (0, 0)) (by (with_reducible repeat (first | refine blk_drewN ?_ _ | refine blk_drew ?_ | refine blk_alloc ?_ _)); exact BK490.out) hb); have n1_ := Aside0.mk (below_step (by repeat (first | (with_reducible first | exact HB.out | apply below_alloc | apply pw_below_drewN | apply below_drew1 | refine below_set ?_ GE490.out) | exact HB.out)) hb); clear BK490; clear HB; have BK490 := n0_; have HB := n1_; clear n0_ n1_; (try clear hb); (try clear hb2); (try clear hk); (try clear hi)))
   go_ret
   exact ⟨by first | rfl | (simp [errW_none, errW_some] <;> rfl) | (simp [*, errW_none, errW_some] <;> rfl), by repeat (first | (with_reducible first | exact HB.out | apply below_alloc | apply pw_below_drewN | apply below_drew1 | refine below_set ?_ GE490.out) | exact HB.out)⟩
  ·rw [if_neg c6] at H
   have c6b0 : decide (t491 < 0) = false := decide_eq_false c6
   clear c6
   replace H := Option.bind_eq_some_iff.mp H
   obtain ⟨⟨t492, t495, t498⟩, A100, H⟩ := H
   replace H : ((laws_toIntS.f k l1).bind fun t501 => ((spec_IsStable.f k t492 t495 t498 t501).bind fun bt504 => ((laws_toWishes.f k l0_0 l0_1 l0_2).bind fun bt506 => ((laws_toIntS.f k l1).bind fun t516 => ((impl_IsStable.f k bt506.1 bt506.2.1 bt506.2.2 t516).bind fun bt519 => (if (bt519.1 != bt504.1) = true then (laws_FnExactIsStable.j0 k l1 t516 true l0_0 l0_1 l0_2 bt506.1 bt506.2.1 bt506.2.2) else (laws_FnExactIsStable.j0 k l1 t516 (bt519.2 != bt504.2) l0_0 l0_1 l0_2 bt506.1 bt506.2.1 bt506.2.2))))))) = some r := H
   have A10 := Aside0.mk A100
   clear A100
   replace H := Option.bind_eq_some_iff.mp H
   obtain ⟨t501, A110, H⟩ := H
   replace H : ((spec_IsStable.f k t492 t495 t498 t501).bind fun bt504 => ((laws_toWishes.f k l0_0 l0_1 l0_2).bind fun bt506 => ((laws_toIntS.f k l1).bind fun t516 => ((impl_IsStable.f k bt506.1 bt506.2.1 bt506.2.2 t516).bind fun bt519 => (if (bt519.1 != bt504.1) = true then (laws_FnExactIsStable.j0 k l1 t516 true l0_0 l0_1 l0_2 bt506.1 bt506.2.1 bt506.2.2) else (laws_FnExactIsStable.j0 k l1 t516 (bt519.2 != bt504.2) l0_0 l0_1 l0_2 bt506.1 bt506.2.1 bt506.2.2)))))) = some r := H
   have A11 := Aside0.mk A110
   clear A110
   replace H := Option.bind_eq_some_iff.mp H
   obtain ⟨⟨t504, t505⟩, A120, H⟩ := H
   replace H : ((laws_toWishes.f k l0_0 l0_1 l0_2).bind fun bt506 => ((laws_toIntS.f k l1).bind fun t516 => ((impl_IsStable.f k bt506.1 bt506.2.1 bt506.2.2 t516).bind fun bt519 => (if (bt519.1 != t504) = true then (laws_FnExactIsStable.j0 k l1 t516 true l0_0 l0_1 l0_2 bt506.1 bt506.2.1 bt506.2.2) else (laws_FnExactIsStable.j0 k l1 t516 (bt519.2 != t505) l0_0 l0_1 l0_2 bt506.1 bt506.2.1 bt506.2.2))))) = some r := H
   have A12 := Aside0.mk A120
   clear A120
   replace H := Option.bind_eq_some_iff.mp H
   obtain ⟨⟨t506, t509, t512⟩, A130, H⟩ := H
   replace H : ((laws_toIntS.f k l1).bind fun t516 => ((impl_IsStable.f k t506 t509 t512 t516).bind fun bt519 => (if (bt519.1 != t504) = true then (laws_FnExactIsStable.j0 k l1 t516 true l0_0 l0_1 l0_2 t506 t509 t512) else (laws_FnExactIsStable.j0 k l1 t516 (bt519.2 != t505) l0_0 l0_1 l0_2 t506 t509 t512)))) = some r := H
   have A13 := Aside0.mk A130
   clear A130
   replace H := Option.bind_eq_some_iff.mp H
   obtain ⟨t516, A140, H⟩ := H
   replace H : ((impl_IsStable.f k t506 t509 t512 t516).bind fun bt519 => (if (bt519.1 != t504) = true then (laws_FnExactIsStable.j0 k l1 t516 true l0_0 l0_1 l0_2 t506 t509 t512) else (laws_FnExactIsStable.j0 k l1 t516 (bt519.2 != t505) l0_0 l0_1 l0_2 t506 t509 t512))) = some r := H
   have A14 := Aside0.mk A140
   clear A140
   replace H := Option.bind_eq_some_iff.mp H
   obtain ⟨⟨t519, t520⟩, A150, H⟩ := H
   replace H : (if (t519 != t504) = true then (laws_FnExactIsStable.j0 k l1 t516 true l0_0 l0_1 l0_2 t506 t509 t512) else (laws_FnExactIsStable.j0 k l1 t516 (t520 != t505) l0_0 l0_1 l0_2 t506 t509 t512)) = some r := H
   have A15 := Aside0.mk A150
   clear A150
   have HC16 := Aside0.mk H
   clear H
   go_enter Try.func8, Try.ntmps8
   go_upto_region 11 with (first | ((with_reducible refine gate_dst (N := 2) rfl ?_); refine box_event ?hg (N := 2) ?hd (cs := #[.slice A0_0 l0_0.length c0_0, .slice A0_1 l0_1.length c0_1, .slice A0_2 l0_2.length c0_2]) (t := 30) ?hr ?_; (case hd => rfl); (case hg => rfl); (case hr => first | (go_simp; done) | (go_simp; rfl)); intro gb490 hg w17 hbox hb; have n0_ := Aside0.mk (below_step (by repeat (first | (with_reducible first | exact HB.out | apply below_alloc | apply pw_below_drewN | apply below_drew1) | exact HB.out)) hb); have n1_ := Aside0.mk (hbox); have n2_ := Aside0.mk ((by rw [hg]; exact (below_size (by repeat (first | (with_reducible first | exact HB.out | apply below_alloc | apply pw_below_drewN | apply below_drew1) | exact HB.out))) : w.heap.size ≤ gb490)); have n3_ := Aside0.mk ((by rw [hg]; exact (below_size (by repeat (first | (with_reducible first | exact HB.out | apply below_alloc | apply pw_below_drewN | apply below_drew1) | exact HB.out))) : w.heap.size ≤ gb490)); clear HB; have HB := n0_; have BK490 := n1_; have GW490 := n2_; have GE490 := n3_; clear n0_ n1_ n2_ n3_; clear hb hbox hg; have hcz18_0 : w17.cell? ⟨gb490, 0, none⟩ = some (.slice A0_0 l0_0.length c0_0) := (blk_cell BK490.out 0).trans rfl; have hcz18_1 : w17.cell? ⟨gb490, 1, none⟩ = some (.slice A0_1 l0_1.length c0_1) := (blk_cell BK490.out 1).trans rfl; have hcz18_2 : w17.cell? ⟨gb490, 2, none⟩ = some (.slice A0_2 l0_2.length c0_2) := (blk_cell BK490.out 2).trans rfl; have hfz18_0 := blk_frozen BK490.out 0; have hfz18_1 := blk_frozen BK490.out 1; have hfz18_2 := blk_frozen BK490.out 2) | ((with_reducible refine gate_callee (f := 17) rfl ?_); refine goesL_ (some 17) rfl rfl Try.func17 (by kernel_rfl) rfl #[.agg #[.slice A0_0 l0_0.length c0_0, .slice A0_1 l0_1.length c0_1, .slice A0_2 l0_2.length c0_2], .int .i64 1048576] rfl (by (try simp only [List.map_toArray, List.map_cons, List.map_nil]); first | done | rfl | (simp only [List.length_drop, List.length_take]; rfl)) ?_; (with_reducible refine (laws_szWishes.calls k _ _ l0_0 _ _ l0_1 _ _ l0_2 1048576 t491 _ ?side1 ?side2 ?side3 ?side4 ?side5 ?side6 A5.out).mono ?_); (case side1 => repeat (first | exact (Kd.C_below HR0_0.out HB.out) | (with_reducible refine Kd.C_alloc ?_ _) | (with_reducible refine Kd.C_drewN ?_ _) | (with_reducible refine Kd.C_drew ?_))); (case side2 => exact HC0_0.out); (case side3 => repeat (first | exact (Kd.C_below HR0_1.out HB.out) | (with_reducible refine Kd.C_alloc ?_ _) | (with_reducible refine Kd.C_drewN ?_ _) | (with_reducible refine Kd.C_drew ?_))); (case side4 => exact HC0_1.out); (case side5 => repeat (first | exact (Kd.C_below HR0_2.out HB.out) | (with_reducible refine Kd.C_alloc ?_ _) | (with_reducible refine Kd.C_drewN ?_ _) | (with_reducible refine Kd.C_drew ?_))); (case side6 => exact HC0_2.out); rintro e w19 ⟨rfl, hb⟩; refine ⟨_, rfl, ?_⟩; have n0_ := Aside0.mk (blk_below (g := gb490) (o := .cells #[.slice A0_0 l0_0.length c0_0, .slice A0_1 l0_1.length c0_1, .slice A0_2 l0_2.length c0_2] 30 (0, 0)) (by (with_reducible repeat (first | refine blk_drewN ?_ _ | refine blk_drew ?_ | refine blk_alloc ?_ _)); exact BK490.out) hb); have n1_ := Aside0.mk (below_step (by repeat (first | (with_reducible first | exact HB.out | apply below_alloc | apply pw_below_drewN | apply below_drew1 | refine below_set ?_ GE490.out) | exact HB.out)) hb); clear BK490; clear HB; have BK490 := n0_; have HB := n1_; clear n0_ n1_; (try clear hb); (try clear hb2); (try clear hk); (try clear hi); have hcz20_0 : w19.cell? ⟨gb490, 0, none⟩ = some (.slice A0_0 l0_0.length c0_0) := (blk_cell BK490.out 0).trans rfl; have hcz20_1 : w19.cell? ⟨gb490, 1, none⟩ = some (.slice A0_1 l0_1.length c0_1) := (blk_cell BK490.out 1).trans rfl; have hcz20_2 : w19.cell? ⟨gb490, 2, none⟩ = some (.slice A0_2 l0_2.length c0_2) := (blk_cell BK490.out 2).trans rfl; have hfz20_0 := blk_frozen BK490.out 0; have hfz20_1 := blk_frozen BK490.out 1; have hfz20_2 := blk_frozen BK490.out 2) | ((with_reducible refine gate_callee (f := 19) rfl ?_); refine goesL_ (some 22) rfl rfl Try.func19 (by kernel_rfl) rfl #[.agg #[.slice A0_0 l0_0.length c0_0, .slice A0_1 l0_1.length c0_1, .slice A0_2 l0_2.length c0_2]] rfl (by (try simp only [List.map_toArray, List.map_cons, List.map_nil]); first | done | rfl | (simp only [List.length_drop, List.length_take]; rfl)) ?_; (with_reducible refine (laws_toWishes.calls k _ _ l0_0 _ _ l0_1 _ _ l0_2 t492 t495 t498 _ ?side1 ?side2 ?side3 ?side4 ?side5 ?side6 A10.out).mono ?_); (case side1 => repeat (first | exact (Kd.C_below HR0_0.out HB.out) | (with_reducible refine Kd.C_alloc ?_ _) | (with_reducible refine Kd.C_drewN ?_ _) | (with_reducible refine Kd.C_drew ?_))); (case side2 => exact HC0_0.out); (case side3 => repeat (first | exact (Kd.C_below HR0_1.out HB.out) | (with_reducible refine Kd.C_alloc ?_ _) | (with_reducible refine Kd.C_drewN ?_ _) | (with_reducible refine Kd.C_drew ?_))); (case side4 => exact HC0_1.out); (case side5 => repeat (first | exact (Kd.C_below HR0_2.out HB.out) | (with_reducible refine Kd.C_alloc ?_ _) | (with_reducible refine Kd.C_drewN ?_ _) | (with_reducible refine Kd.C_drew ?_))); (case side6 => exact HC0_2.out); rintro e w21 ⟨v493, v496, v499, rfl, ho0, ho1, ho2, hb⟩; refine ⟨_, rfl, ?_⟩; have n0_ := Aside0.mk (Kd.S_lower ho0 (below_size (by repeat (first | (with_reducible first | exact HB.out | apply below_alloc | apply pw_below_drewN | apply below_drew1 | refine below_set ?_ GE490.out) | exact HB.out)))); have n1_ := Aside0.mk (Kd.S_lower ho1 (below_size (by repeat (first | (with_reducible first | exact HB.out | apply below_alloc | apply pw_below_drewN | apply below_drew1 | refine below_set ?_ GE490.out) | exact HB.out)))); have n2_ := Aside0.mk (Kd.R_lower ho2 (below_size (by repeat (first | (with_reducible first | exact HB.out | apply below_alloc | apply pw_below_drewN | apply below_drew1 | refine below_set ?_ GE490.out) | exact HB.out)))); have n3_ := Aside0.mk (blk_below (g := gb490) (o := .cells #[.slice A0_0 l0_0.length c0_0, .slice A0_1 l0_1.length c0_1, .slice A0_2 l0_2.length c0_2] 30 (0, 0)) (by (with_reducible repeat (first | refine blk_drewN ?_ _ | refine blk_drew ?_ | refine blk_alloc ?_ _)); exact BK490.out) hb); have n4_ := Aside0.mk (below_step (by repeat (first | (with_reducible first | exact HB.out | apply below_alloc | apply pw_below_drewN | apply below_drew1 | refine below_set ?_ GE490.out) | exact HB.out)) hb); clear BK490; clear HB; have HO494 := n0_; have HO497 := n1_; have HO500 := n2_; have BK490 := n3_; have HB := n4_; clear n0_ n1_ n2_ n3_ n4_; (try clear hb); (try clear hb2); (try clear hk); (try clear hi); (try clear ho0); (try clear ho1); (try clear ho2)) | ((with_reducible refine gate_callee (f := 14) rfl ?_); refine goesL_ (some 24) rfl rfl Try.func14 (by kernel_rfl) rfl #[.slice A1 l1.length c1] rfl (by (try simp only [List.map_toArray, List.map_cons, List.map_nil]); first | done | rfl | (simp only [List.length_drop, List.length_take]; rfl)) ?_; (with_reducible refine (laws_toIntS.calls k _ _ l1 t501 _ ?side1 ?side2 A11.out).mono ?_); (case side1 => repeat (first | exact (Kd.C_below HR1.out HB.out) | (with_reducible refine Kd.C_alloc ?_ _) | (with_reducible refine Kd.C_drewN ?_ _) | (with_reducible refine Kd.C_drew ?_))); (case side2 => exact HC1.out); rintro e w22 ⟨v502, rfl, ho0, hb⟩; refine ⟨_, rfl, ?_⟩; have n0_ := Aside0.mk (Kd.S_elder' (by (with_reducible repeat (first | apply Kd.S_alloc | apply Kd.S_drewN | apply Kd.S_drew)); exact HO494.out) (Kd.R_base ho0) hb); have n1_ := Aside0.mk (Kd.S_elder' (by (with_reducible repeat (first | apply Kd.S_alloc | apply Kd.S_drewN | apply Kd.S_drew)); exact HO497.out) (Kd.R_base ho0) hb); have n2_ := Aside0.mk (Kd.R_elder' (by (with_reducible repeat (first | apply Kd.R_alloc | apply Kd.R_drewN | apply Kd.R_drew)); exact HO500.out) (Kd.R_base ho0) hb); have n3_ := Aside0.mk (Kd.R_lower (Kd.R_new' ho0 (Kd.R_lt (by (with_reducible repeat (first | apply Kd.R_alloc | apply Kd.R_drewN | apply Kd.R_drew)); exact HO500.out))) (below_size (by repeat (first | (with_reducible first | exact HB.out | apply below_alloc | apply pw_below_drewN | apply below_drew1 | refine below_set ?_ GE490.out) | exact HB.out)))); have n4_ := Aside0.mk (blk_below (g := gb490) (o := .cells #[.slice A0_0 l0_0.length c0_0, .slice A0_1 l0_1.length c0_1, .slice A0_2 l0_2.length c0_2] 30 (0, 0)) (by (with_reducible repeat (first | refine blk_drewN ?_ _ | refine blk_drew ?_ | refine blk_alloc ?_ _)); exact BK490.out) hb); have n5_ := Aside0.mk (below_step (by repeat (first | (with_reducible first | exact HB.out | apply below_alloc | apply pw_below_drewN | apply below_drew1 | refine below_set ?_ GE490.out) | exact HB.out)) hb); clear HO494; clear HO497; clear HO500; clear BK490; clear HB; have HO494 := n0_; have HO497 := n1_; have HO500 := n2_; have HO503 := n3_; have BK490 := n4_; have HB := n5_; clear n0_ n1_ n2_ n3_ n4_ n5_; (try clear hb); (try clear hb2); (try clear hk); (try clear hi); (try clear ho0); obtain ⟨Ao23, co23, eo23⟩ := Kd.S_slice HO494.out; subst eo23; obtain ⟨Ao24, co24, eo24⟩ := Kd.S_slice HO497.out; subst eo24; obtain ⟨Ao25, co25, eo25⟩ := Kd.R_slice HO500.out; subst eo25; obtain ⟨Ao26, co26, eo26⟩ := Kd.R_slice HO503.out; subst eo26) | ((with_reducible refine gate_callee (f := 31) rfl ?_); refine goesL_ (some 25) rfl rfl Try.func31 (by kernel_rfl) rfl #[.agg #[.slice Ao23 t492.length co23, .slice Ao24 t495.length co24, .slice Ao25 t498.length co25], .slice Ao26 t501.length co26] rfl (by (try simp only [List.map_toArray, List.map_cons, List.map_nil]); first | done | rfl | (simp only [List.length_drop, List.length_take]; rfl)) ?_; (with_reducible refine (spec_IsStable.calls k _ _ t492 _ _ t495 _ _ t498 _ _ t501 t504 t505 _ ?side1 ?side2 ?side3 ?side4 ?side5 ?side6 ?side7 ?side8 A12.out).mono ?_); (case side1 => repeat (first | exact (Kd.S_reads' HO494.out).2.2 | (with_reducible refine Kd.C_alloc ?_ _) | (with_reducible refine Kd.C_drewN ?_ _) | (with_reducible refine Kd.C_drew ?_))); (case side2 => exact (Kd.S_reads' HO494.out).2.1); (case side3 => repeat (first | exact (Kd.S_reads' HO497.out).2.2 | (with_reducible refine Kd.C_alloc ?_ _) | (with_reducible refine Kd.C_drewN ?_ _) | (with_reducible refine Kd.C_drew ?_))); (case side4 => exact (Kd.S_reads' HO497.out).2.1); (case side5 => repeat (first | exact (Kd.R_reads' HO500.out).2.2 | (with_reducible refine Kd.C_alloc ?_ _) | (with_reducible refine Kd.C_drewN ?_ _) | (with_reducible refine Kd.C_drew ?_))); (case side6 => exact (Kd.R_reads' HO500.out).2.1); (case side7 => repeat (first | exact (Kd.R_reads' HO503.out).2.2 | (with_reducible refine Kd.C_alloc ?_ _) | (with_reducible refine Kd.C_drewN ?_ _) | (with_reducible refine Kd.C_drew ?_))); (case side8 => exact (Kd.R_reads' HO503.out).2.1); rintro e w27 ⟨rfl, hb⟩; refine ⟨_, rfl, ?_⟩; have n0_ := Aside0.mk (Kd.S_below (by (with_reducible repeat (first | apply Kd.S_alloc | apply Kd.S_drewN | apply Kd.S_drew)); exact HO494.out) hb); have n1_ := Aside0.mk (Kd.S_below (by (with_reducible repeat (first | apply Kd.S_alloc | apply Kd.S_drewN | apply Kd.S_drew)); exact HO497.out) hb); have n2_ := Aside0.mk (Kd.R_below (by (with_reducible repeat (first | apply Kd.R_alloc | apply Kd.R_drewN | apply Kd.R_drew)); exact HO500.out) hb); have n3_ := Aside0.mk (Kd.R_below (by (with_reducible repeat (first | apply Kd.R_alloc | apply Kd.R_drewN | apply Kd.R_drew)); exact HO503.out) hb); have n4_ := Aside0.mk (blk_below (g := gb490) (o := .cells #[.slice A0_0 l0_0.length c0_0, .slice A0_1 l0_1.length c0_1, .slice A0_2 l0_2.length c0_2] 30 (0, 0)) (by (with_reducible repeat (first | refine blk_drewN ?_ _ | refine blk_drew ?_ | refine blk_alloc ?_ _)); exact BK490.out) hb); have n5_ := Aside0.mk (below_step (by repeat (first | (with_reducible first | exact HB.out | apply below_alloc | apply pw_below_drewN | apply below_drew1 | refine below_set ?_ GE490.out) | exact HB.out)) hb); clear HO494; clear HO497; clear HO500; clear HO503; clear BK490; clear HB; have HO494 := n0_; have HO497 := n1_; have HO500 := n2_; have HO503 := n3_; have BK490 := n4_; have HB := n5_; clear n0_ n1_ n2_ n3_ n4_ n5_; (try clear hb); (try clear hb2); (try clear hk); (try clear hi); have hcz28_0 : w27.cell? ⟨gb490, 0, none⟩ = some (.slice A0_0 l0_0.length c0_0) := (blk_cell BK490.out 0).trans rfl; have hcz28_1 : w27.cell? ⟨gb490, 1, none⟩ = some (.slice A0_1 l0_1.length c0_1) := (blk_cell BK490.out 1).trans rfl; have hcz28_2 : w27.cell? ⟨gb490, 2, none⟩ = some (.slice A0_2 l0_2.length c0_2) := (blk_cell BK490.out 2).trans rfl; have hfz28_0 := blk_frozen BK490.out 0; have hfz28_1 := blk_frozen BK490.out 1; have hfz28_2 := blk_frozen BK490.out 2) | ((with_reducible refine gate_callee (f := 19) rfl ?_); refine goesL_ (some 29) rfl rfl Try.func19 (by kernel_rfl) rfl #[.agg #[.slice A0_0 l0_0.length c0_0, .slice A0_1 l0_1.length c0_1, .slice A0_2 l0_2.length c0_2]] rfl (by (try simp only [List.map_toArray, List.map_cons, List.map_nil]); first | done | rfl | (simp only [List.length_drop, List.length_take]; rfl)) ?_; (with_reducible refine (laws_toWishes.calls k _ _ l0_0 _ _ l0_1 _ _ l0_2 t506 t509 t512 _ ?side1 ?side2 ?side3 ?side4 ?side5 ?side6 A13.out).mono ?_); (case side1 => repeat (first | exact (Kd.C_below HR0_0.out HB.out) | (with_reducible refine Kd.C_alloc ?_ _) | (with_reducible refine Kd.C_drewN ?_ _) | (with_reducible refine Kd.C_drew ?_))); (case side2 => exact HC0_0.out); (case side3 => repeat (first | exact (Kd.C_below HR0_1.out HB.out) | (with_reducible refine Kd.C_alloc ?_ _) | (with_reducible refine Kd.C_drewN ?_ _) | (with_reducible refine Kd.C_drew ?_))); (case side4 => exact HC0_1.out); (case side5 => repeat (first | exact (Kd.C_below HR0_2.out HB.out) | (with_reducible refine Kd.C_alloc ?_ _) | (with_reducible refine Kd.C_drewN ?_ _) | (with_reducible refine Kd.C_drew ?_))); (case side6 => exact HC0_2.out); rintro e w29 ⟨v507, v510, v513, rfl, ho0, ho1, ho2, hb⟩; refine ⟨_, rfl, ?_⟩; have n0_ := Aside0.mk (Kd.S_mono (Kd.S_told (Kd.S_told (Kd.S_told (Kd.S_old (by (with_reducible repeat (first | apply Kd.S_alloc | apply Kd.S_drewN | apply Kd.S_drew)); exact HO494.out) hb) (Kd.S_base ho0)) (Kd.S_base ho1)) (Kd.R_base ho2)) (fun _ h_ => h_.1)); have n1_ := Aside0.mk (Kd.S_mono (Kd.S_told (Kd.S_told (Kd.S_told (Kd.S_old (by (with_reducible repeat (first | apply Kd.S_alloc | apply Kd.S_drewN | apply Kd.S_drew)); exact HO497.out) hb) (Kd.S_base ho0)) (Kd.S_base ho1)) (Kd.R_base ho2)) (fun _ h_ => h_.1)); have n2_ := Aside0.mk (Kd.R_elder' (by (with_reducible repeat (first | apply Kd.R_alloc | apply Kd.R_drewN | apply Kd.R_drew)); exact HO500.out) (Kd.R_base ho2) hb); have n3_ := Aside0.mk (Kd.R_elder' (by (with_reducible repeat (first | apply Kd.R_alloc | apply Kd.R_drewN | apply Kd.R_drew)); exact HO503.out) (Kd.R_base ho2) hb); have n4_ := Aside0.mk (Kd.S_lower (Kd.S_new' (Kd.S_new' (Kd.S_new' (Kd.S_new' ho0 (Kd.S_lt (by (with_reducible repeat (first | apply Kd.S_alloc | apply Kd.S_drewN | apply Kd.S_drew)); exact HO494.out))) (Kd.S_lt (by (with_reducible repeat (first | apply Kd.S_alloc | apply Kd.S_drewN | apply Kd.S_drew)); exact HO497.out))) (Kd.R_lt (by (with_reducible repeat (first | apply Kd.R_alloc | apply Kd.R_drewN | apply Kd.R_drew)); exact HO500.out))) (Kd.R_lt (by (with_reducible repeat (first | apply Kd.R_alloc | apply Kd.R_drewN | apply Kd.R_drew)); exact HO503.out))) (below_size (by repeat (first | (with_reducible first | exact HB.out | apply below_alloc | apply pw_below_drewN | apply below_drew1 | refine below_set ?_ GE490.out) | exact HB.out)))); have n5_ := Aside0.mk (Kd.S_lower (Kd.S_new' (Kd.S_new' (Kd.S_new' (Kd.S_new' ho1 (Kd.S_lt (by (with_reducible repeat (first | apply Kd.S_alloc | apply Kd.S_drewN | apply Kd.S_drew)); exact HO494.out))) (Kd.S_lt (by (with_reducible repeat (first | apply Kd.S_alloc | apply Kd.S_drewN | apply Kd.S_drew)); exact HO497.out))) (Kd.R_lt (by (with_reducible repeat (first | apply Kd.R_alloc | apply Kd.R_drewN | apply Kd.R_drew)); exact HO500.out))) (Kd.R_lt (by (with_reducible repeat (first | apply Kd.R_alloc | apply Kd.R_drewN | apply Kd.R_drew)); exact HO503.out))) (below_size (by repeat (first | (with_reducible first | exact HB.out | apply below_alloc | apply pw_below_drewN | apply below_drew1 | refine below_set ?_ GE490.out) | exact HB.out)))); have n6_ := Aside0.mk (Kd.R_lower (Kd.R_new' (Kd.R_new' ho2 (Kd.R_lt (by (with_reducible repeat (first | apply Kd.R_alloc | apply Kd.R_drewN | apply Kd.R_drew)); exact HO500.out))) (Kd.R_lt (by (with_reducible repeat (first | apply Kd.R_alloc | apply Kd.R_drewN | apply Kd.R_drew)); exact HO503.out))) (below_size (by repeat (first | (with_reducible first | exact HB.out | apply below_alloc | apply pw_below_drewN | apply below_drew1 | refine below_set ?_ GE490.out) | exact HB.out)))); have n7_ := Aside0.mk (blk_below (g := gb490) (o := .cells #[.slice A0_0 l0_0.length c0_0, .slice A0_1 l0_1.length c0_1, .slice A0_2 l0_2.length c0_2] 30 (0, 0)) (by (with_reducible repeat (first | refine blk_drewN ?_ _ | refine blk_drew ?_ | refine blk_alloc ?_ _)); exact BK490.out) hb); have n8_ := Aside0.mk (below_step (by repeat (first | (with_reducible first | exact HB.out | apply below_alloc | apply pw_below_drewN | apply below_drew1 | refine below_set ?_ GE490.out) | exact HB.out)) hb); clear HO494; clear HO497; clear HO500; clear HO503; clear BK490; clear HB; have HO494 := n0_; have HO497 := n1_; have HO500 := n2_; have HO503 := n3_; have HO508 := n4_; have HO511 := n5_; have HO514 := n6_; have BK490 := n7_; have HB := n8_; clear n0_ n1_ n2_ n3_ n4_ n5_ n6_ n7_ n8_; (try clear hb); (try clear hb2); (try clear hk); (try clear hi); (try clear ho0); (try clear ho1); (try clear ho2)) | ((with_reducible refine gate_dst (N := 8) rfl ?_); refine box_event ?hg (N := 8) ?hd (cs := #[.slice none 0 0, .slice none 0 0, .slice none 0 0]) (t := 33) ?hr ?_; (case hd => rfl); (case hg => rfl); (case hr => first | (go_simp; done) | (go_simp; rfl)); intro gb515 hg w30 hbox hb; have n0_ := Aside0.mk (Kd.S_below (by (with_reducible repeat (first | apply Kd.S_alloc | apply Kd.S_drewN | apply Kd.S_drew)); exact HO494.out) hb); have n1_ := Aside0.mk (Kd.S_below (by (with_reducible repeat (first | apply Kd.S_alloc | apply Kd.S_drewN | apply Kd.S_drew)); exact HO497.out) hb); have n2_ := Aside0.mk (Kd.R_below (by (with_reducible repeat (first | apply Kd.R_alloc | apply Kd.R_drewN | apply Kd.R_drew)); exact HO500.out) hb); have n3_ := Aside0.mk (Kd.R_below (by (with_reducible repeat (first | apply Kd.R_alloc | apply Kd.R_drewN | apply Kd.R_drew)); exact HO503.out) hb); have n4_ := Aside0.mk (Kd.S_below (by (with_reducible repeat (first | apply Kd.S_alloc | apply Kd.S_drewN | apply Kd.S_drew)); exact HO508.out) hb); have n5_ := Aside0.mk (Kd.S_below (by (with_reducible repeat (first | apply Kd.S_alloc | apply Kd.S_drewN | apply Kd.S_drew)); exact HO511.out) hb); have n6_ := Aside0.mk (Kd.R_below (by (with_reducible repeat (first | apply Kd.R_alloc | apply Kd.R_drewN | apply Kd.R_drew)); exact HO514.out) hb); have n7_ := Aside0.mk (blk_below (g := gb490) (o := .cells #[.slice A0_0 l0_0.length c0_0, .slice A0_1 l0_1.length c0_1, .slice A0_2 l0_2.length c0_2] 30 (0, 0)) (by (with_reducible repeat (first | refine blk_drewN ?_ _ | refine blk_drew ?_ | refine blk_alloc ?_ _)); exact BK490.out) hb); have n8_ := Aside0.mk (below_step (by repeat (first | (with_reducible first | exact HB.out | apply below_alloc | apply pw_below_drewN | apply below_drew1 | refine below_set ?_ GE490.out) | exact HB.out)) hb); have n9_ := Aside0.mk (hbox); have n10_ := Aside0.mk ((by rw [hg]; exact (below_size (by repeat (first | (with_reducible first | exact HB.out | apply below_alloc | apply pw_below_drewN | apply below_drew1 | refine below_set ?_ GE490.out) | exact HB.out))) : w.heap.size ≤ gb515)); have n11_ := Aside0.mk ((by rw [hg]; exact (below_size (by repeat (first | (with_reducible first | exact HB.out | apply below_alloc | apply pw_below_drewN | apply below_drew1 | refine below_set ?_ GE490.out) | exact HB.out))) : w.heap.size ≤ gb515)); have n12_ := Aside0.mk ((by rw [hg]; exact Nat.ne_of_lt (blk_lt (g := gb490) (o := .cells #[.slice A0_0 l0_0.length c0_0, .slice A0_1 l0_1.length c0_1, .slice A0_2 l0_2.length c0_2] 30 (0, 0)) (by (with_reducible repeat (first | refine blk_drewN ?_ _ | refine blk_drew ?_ | refine blk_alloc ?_ _)); exact BK490.out)) : gb490 ≠ gb515)); have n13_ := Aside0.mk ((by rw [hg]; exact Nat.ne_of_gt (blk_lt (g := gb490) (o := .cells #[.slice A0_0 l0_0.length c0_0, .slice A0_1 l0_1.length c0_1, .slice A0_2 l0_2.length c0_2] 30 (0, 0)) (by (with_reducible repeat (first | refine blk_drewN ?_ _ | refine blk_drew ?_ | refine blk_alloc ?_ _)); exact BK490.out)) : gb515 ≠ gb490)); clear HO494; clear HO497; clear HO500; clear HO503; clear HO508; clear HO511; clear HO514; clear BK490; clear HB; have HO494 := n0_; have HO497 := n1_; have HO500 := n2_; have HO503 := n3_; have HO508 := n4_; have HO511 := n5_; have HO514 := n6_; have BK490 := n7_; have HB := n8_; have BK515 := n9_; have GW515 := n10_; have GE515 := n11_; have NB490_515 := n12_; have NB515_490 := n13_; clear n0_ n1_ n2_ n3_ n4_ n5_ n6_ n7_ n8_ n9_ n10_ n11_ n12_ n13_; clear hb hbox hg; obtain ⟨Ao31, co31, eo31⟩ := Kd.S_slice HO508.out; subst eo31; have hnb32 := NB515_490.out; have hnc32 := NB490_515.out; have hcz33_0 : w30.cell? ⟨gb515, 0, none⟩ = some (.slice none 0 0) := (blk_cell BK515.out 0).trans rfl; have hcz33_1 : w30.cell? ⟨gb515, 1, none⟩ = some (.slice none 0 0) := (blk_cell BK515.out 1).trans rfl; have hcz33_2 : w30.cell? ⟨gb515, 2, none⟩ = some (.slice none 0 0) := (blk_cell BK515.out 2).trans rfl; have hfz33_0 := blk_frozen BK515.out 0; have hfz33_1 := blk_frozen BK515.out 1; have hfz33_2 := blk_frozen BK515.out 2; obtain ⟨Ao34, co34, eo34⟩ := Kd.S_slice HO511.out; subst eo34; obtain ⟨Ao35, co35, eo35⟩ := Kd.R_slice HO514.out; subst eo35) | ((with_reducible refine gate_callee (f := 14) rfl ?_); refine goesL_ (some 31) rfl rfl Try.func14 (by kernel_rfl) rfl #[.slice A1 l1.length c1] rfl (by (try simp only [List.map_toArray, List.map_cons, List.map_nil]); first | done | rfl | (simp only [List.length_drop, List.length_take]; rfl)) ?_; (with_reducible refine (laws_toIntS.calls k _ _ l1 t516 _ ?side1 ?side2 A14.out).mono ?_); (case side1 => exact Kd.C_below HR1.out (by repeat (first | (with_reducible first | exact HB.out | apply below_alloc | apply pw_below_drewN | apply below_drew1 | refine below_set ?_ GE490.out | refine below_set ?_ GE515.out) | exact HB.out))); (case side2 => exact HC1.out); rintro e w36 ⟨v517, rfl, ho0, hb⟩; refine ⟨_, rfl, ?_⟩; have n0_ := Aside0.mk (Kd.S_elder' (by (with_reducible repeat (first | apply Kd.S_alloc | apply Kd.S_drewN | apply Kd.S_drew)); exact (Kd.S_mono (Kd.S_far (p := ⟨gb515, 2, none⟩) (Kd.S_far (p := ⟨gb515, 1, none⟩) (Kd.S_far (p := ⟨gb515, 0, none⟩) (Kd.S_types HO494.out BK515.out (by decide)) (fun _ hk => hk.2) (.slice Ao31 t506.length co31)) (fun _ hk => hk.2) (.slice Ao34 t509.length co34)) (fun _ hk => hk.2) (.slice Ao35 t512.length co35)) (fun _ h_ => h_.1))) (Kd.R_base ho0) hb); have n1_ := Aside0.mk (Kd.S_elder' (by (with_reducible repeat (first | apply Kd.S_alloc | apply Kd.S_drewN | apply Kd.S_drew)); exact (Kd.S_mono (Kd.S_far (p := ⟨gb515, 2, none⟩) (Kd.S_far (p := ⟨gb515, 1, none⟩) (Kd.S_far (p := ⟨gb515, 0, none⟩) (Kd.S_types HO497.out BK515.out (by decide)) (fun _ hk => hk.2) (.slice Ao31 t506.length co31)) (fun _ hk => hk.2) (.slice Ao34 t509.length co34)) (fun _ hk => hk.2) (.slice Ao35 t512.length co35)) (fun _ h_ => h_.1))) (Kd.R_base ho0) hb); have n2_ := Aside0.mk (Kd.R_elder' (by (with_reducible repeat (first | apply Kd.R_alloc | apply Kd.R_drewN | apply Kd.R_drew)); exact (Kd.R_mono (Kd.R_far (p := ⟨gb515, 2, none⟩) (Kd.R_far (p := ⟨gb515, 1, none⟩) (Kd.R_far (p := ⟨gb515, 0, none⟩) (Kd.R_types HO500.out BK515.out (by decide)) (fun _ hk => hk.2) (.slice Ao31 t506.length co31)) (fun _ hk => hk.2) (.slice Ao34 t509.length co34)) (fun _ hk => hk.2) (.slice Ao35 t512.length co35)) (fun _ h_ => h_.1))) (Kd.R_base ho0) hb); have n3_ := Aside0.mk (Kd.R_elder' (by (with_reducible repeat (first | apply Kd.R_alloc | apply Kd.R_drewN | apply Kd.R_drew)); exact (Kd.R_mono (Kd.R_far (p := ⟨gb515, 2, none⟩) (Kd.R_far (p := ⟨gb515, 1, none⟩) (Kd.R_far (p := ⟨gb515, 0, none⟩) (Kd.R_types HO503.out BK515.out (by decide)) (fun _ hk => hk.2) (.slice Ao31 t506.length co31)) (fun _ hk => hk.2) (.slice Ao34 t509.length co34)) (fun _ hk => hk.2) (.slice Ao35 t512.length co35)) (fun _ h_ => h_.1))) (Kd.R_base ho0) hb); have n4_ := Aside0.mk (Kd.S_elder' (by (with_reducible repeat (first | apply Kd.S_alloc | apply Kd.S_drewN | apply Kd.S_drew)); exact (Kd.S_mono (Kd.S_far (p := ⟨gb515, 2, none⟩) (Kd.S_far (p := ⟨gb515, 1, none⟩) (Kd.S_far (p := ⟨gb515, 0, none⟩) (Kd.S_types HO508.out BK515.out (by decide)) (fun _ hk => hk.2) (.slice Ao31 t506.length co31)) (fun _ hk => hk.2) (.slice Ao34 t509.length co34)) (fun _ hk => hk.2) (.slice Ao35 t512.length co35)) (fun _ h_ => h_.1))) (Kd.R_base ho0) hb); have n5_ := Aside0.mk (Kd.S_elder' (by (with_reducible repeat (first | apply Kd.S_alloc | apply Kd.S_drewN | apply Kd.S_drew)); exact (Kd.S_mono (Kd.S_far (p := ⟨gb515, 2, none⟩) (Kd.S_far (p := ⟨gb515, 1, none⟩) (Kd.S_far (p := ⟨gb515, 0, none⟩) (Kd.S_types HO511.out BK515.out (by decide)) (fun _ hk => hk.2) (.slice Ao31 t506.length co31)) (fun _ hk => hk.2) (.slice Ao34 t509.length co34)) (fun _ hk => hk.2) (.slice Ao35 t512.length co35)) (fun _ h_ => h_.1))) (Kd.R_base ho0) hb); have n6_ := Aside0.mk (Kd.R_elder' (by (with_reducible repeat (first | apply Kd.R_alloc | apply Kd.R_drewN | apply Kd.R_drew)); exact (Kd.R_mono (Kd.R_far (p := ⟨gb515, 2, none⟩) (Kd.R_far (p := ⟨gb515, 1, none⟩) (Kd.R_far (p := ⟨gb515, 0, none⟩) (Kd.R_types HO514.out BK515.out (by decide)) (fun _ hk => hk.2) (.slice Ao31 t506.length co31)) (fun _ hk => hk.2) (.slice Ao34 t509.length co34)) (fun _ hk => hk.2) (.slice Ao35 t512.length co35)) (fun _ h_ => h_.1))) (Kd.R_base ho0) hb); have n7_ := Aside0.mk (Kd.R_lower (Kd.R_new' (Kd.R_new' (Kd.R_new' ho0 (Kd.R_lt (by (with_reducible repeat (first | apply Kd.R_alloc | apply Kd.R_drewN | apply Kd.R_drew)); exact (Kd.R_mono (Kd.R_far (p := ⟨gb515, 2, none⟩) (Kd.R_far (p := ⟨gb515, 1, none⟩) (Kd.R_far (p := ⟨gb515, 0, none⟩) (Kd.R_types HO500.out BK515.out (by decide)) (fun _ hk => hk.2) (.slice Ao31 t506.length co31)) (fun _ hk => hk.2) (.slice Ao34 t509.length co34)) (fun _ hk => hk.2) (.slice Ao35 t512.length co35)) (fun _ h_ => h_.1))))) (Kd.R_lt (by (with_reducible repeat (first | apply Kd.R_alloc | apply Kd.R_drewN | apply Kd.R_drew)); exact (Kd.R_mono (Kd.R_far (p := ⟨gb515, 2, none⟩) (Kd.R_far (p := ⟨gb515, 1, none⟩) (Kd.R_far (p := ⟨gb515, 0, none⟩) (Kd.R_types HO503.out BK515.out (by decide)) (fun _ hk => hk.2) (.slice Ao31 t506.length co31)) (fun _ hk => hk.2) (.slice Ao34 t509.length co34)) (fun _ hk => hk.2) (.slice Ao35 t512.length co35)) (fun _ h_ => h_.1))))) (Kd.R_lt (by (with_reducible repeat (first | apply Kd.R_alloc | apply Kd.R_drewN | apply Kd.R_drew)); exact (Kd.R_mono (Kd.R_far (p := ⟨gb515, 2, none⟩) (Kd.R_far (p := ⟨gb515, 1, none⟩) (Kd.R_far (p := ⟨gb515, 0, none⟩) (Kd.R_types HO514.out BK515.out (by decide)) (fun _ hk => hk.2) (.slice Ao31 t506.length co31)) (fun _ hk => hk.2) (.slice Ao34 t509.length co34)) (fun _ hk => hk.2) (.slice Ao35 t512.length co35)) (fun _ h_ => h_.1))))) (below_size (by repeat (first | (with_reducible first | exact HB.out | apply below_alloc | apply pw_below_drewN | apply below_drew1 | refine below_set ?_ GE490.out | refine below_set ?_ GE515.out) | exact HB.out)))); have n8_ := Aside0.mk (blk_below (g := gb490) (o := .cells #[.slice A0_0 l0_0.length c0_0, .slice A0_1 l0_1.length c0_1, .slice A0_2 l0_2.length c0_2] 30 (0, 0)) (by (with_reducible repeat (first | refine blk_drewN ?_ _ | refine blk_drew ?_ | refine blk_alloc ?_ _)); refine blk_far ?_ NB490_515.out _; (with_reducible repeat (first | refine blk_drewN ?_ _ | refine blk_drew ?_ | refine blk_alloc ?_ _)); refine blk_far ?_ NB490_515.out _; (with_reducible repeat (first | refine blk_drewN ?_ _ | refine blk_drew ?_ | refine blk_alloc ?_ _)); refine blk_far ?_ NB490_515.out _; (with_reducible repeat (first | refine blk_drewN ?_ _ | refine blk_drew ?_ | refine blk_alloc ?_ _)); exact BK490.out) hb); have n9_ := Aside0.mk (blk_below (g := gb515) (o := .cells #[.slice Ao31 t506.length co31, .slice Ao34 t509.length co34, .slice Ao35 t512.length co35] 33 (0, 0)) (by (with_reducible repeat (first | refine blk_drewN ?_ _ | refine blk_drew ?_ | refine blk_alloc ?_ _)); refine blk_put (cs := #[.slice Ao31 t506.length co31, .slice Ao34 t509.length co34, .slice none 0 0]) ?_ 2 _ rfl; (with_reducible repeat (first | refine blk_drewN ?_ _ | refine blk_drew ?_ | refine blk_alloc ?_ _)); refine blk_put (cs := #[.slice Ao31 t506.length co31, .slice none 0 0, .slice none 0 0]) ?_ 1 _ rfl; (with_reducible repeat (first | refine blk_drewN ?_ _ | refine blk_drew ?_ | refine blk_alloc ?_ _)); refine blk_put (cs := #[.slice none 0 0, .slice none 0 0, .slice none 0 0]) ?_ 0 _ rfl; (with_reducible repeat (first | refine blk_drewN ?_ _ | refine blk_drew ?_ | refine blk_alloc ?_ _)); exact BK515.out) hb); have n10_ := Aside0.mk (below_step (by repeat (first | (with_reducible first | exact HB.out | apply below_alloc | apply pw_below_drewN | apply below_drew1 | refine below_set ?_ GE490.out | refine below_set ?_ GE515.out) | exact HB.out)) hb); clear HO494; clear HO497; clear HO500; clear HO503; clear HO508; clear HO511; clear HO514; clear BK490; clear BK515; clear HB; have HO494 := n0_; have HO497 := n1_; have HO500 := n2_; have HO503 := n3_; have HO508 := n4_; have HO511 := n5_; have HO514 := n6_; have HO518 := n7_; have BK490 := n8_; have BK515 := n9_; have HB := n10_; clear n0_ n1_ n2_ n3_ n4_ n5_ n6_ n7_ n8_ n9_ n10_; (try clear hb); (try clear hb2); (try clear hk); (try clear hi); (try clear ho0); have hcz37_0 : w36.cell? ⟨gb515, 0, none⟩ = some (.slice Ao31 t506.length co31) := (blk_cell BK515.out 0).trans rfl; have hcz37_1 : w36.cell? ⟨gb515, 1, none⟩ = some (.slice Ao34 t509.length co34) := (blk_cell BK515.out 1).trans rfl; have hcz37_2 : w36.cell? ⟨gb515, 2, none⟩ = some (.slice Ao35 t512.length co35) := (blk_cell BK515.out 2).trans rfl; have hfz37_0 := blk_frozen BK515.out 0; have hfz37_1 := blk_frozen BK515.out 1; have hfz37_2 := blk_frozen BK515.out 2; obtain ⟨Ao38, co38, eo38⟩ := Kd.R_slice HO518.out; subst eo38) | ((with_reducible refine gate_callee (f := 32) rfl ?_); refine goesL_ (some 35) rfl rfl Try.func32 (by kernel_rfl) rfl #[.agg #[.slice Ao31 t506.length co31, .slice Ao34 t509.length co34, .slice Ao35 t512.length co35], .slice Ao38 t516.length co38] rfl (by (try simp only [List.map_toArray, List.map_cons, List.map_nil]); first | done | rfl | (simp only [List.length_drop, List.length_take]; rfl)) ?_; (with_reducible refine (impl_IsStable.calls k _ _ t506 _ _ t509 _ _ t512 _ _ t516 t519 t520 _ ?side1 ?side2 ?side3 ?side4 ?side5 ?side6 ?side7 ?side8 A15.out).mono ?_); (case side1 => repeat (first | exact (Kd.S_reads' HO508.out).2.2 | (with_reducible refine Kd.C_alloc ?_ _) | (with_reducible refine Kd.C_drewN ?_ _) | (with_reducible refine Kd.C_drew ?_))); (case side2 => exact (Kd.S_reads' HO508.out).2.1); (case side3 => repeat (first | exact (Kd.S_reads' HO511.out).2.2 | (with_reducible refine Kd.C_alloc ?_ _) | (with_reducible refine Kd.C_drewN ?_ _) | (with_reducible refine Kd.C_drew ?_))); (case side4 => exact (Kd.S_reads' HO511.out).2.1); (case side5 => repeat (first | exact (Kd.R_reads' HO514.out).2.2 | (with_reducible refine Kd.C_alloc ?_ _) | (with_reducible refine Kd.C_drewN ?_ _) | (with_reducible refine Kd.C_drew ?_))); (case side6 => exact (Kd.R_reads' HO514.out).2.1); (case side7 => repeat (first | exact (Kd.R_reads' HO518.out).2.2 | (with_reducible refine Kd.C_alloc ?_ _) | (with_reducible refine Kd.C_drewN ?_ _) | (with_reducible refine Kd.C_drew ?_))); (case side8 => exact (Kd.R_reads' HO518.out).2.1); rintro e w39 ⟨rfl, hb⟩; refine ⟨_, rfl, ?_⟩; have n0_ := Aside0.mk (Kd.S_below (by (with_reducible repeat (first | apply Kd.S_alloc | apply Kd.S_drewN | apply Kd.S_drew)); exact HO494.out) hb); have n1_ := Aside0.mk (Kd.S_below (by (with_reducible repeat (first | apply Kd.S_alloc | apply Kd.S_drewN | apply Kd.S_drew)); exact HO497.out) hb); have n2_ := Aside0.mk (Kd.R_below (by (with_reducible repeat (first | apply Kd.R_alloc | apply Kd.R_drewN | apply Kd.R_drew)); exact HO500.out) hb); have n3_ := Aside0.mk (Kd.R_below (by (with_reducible repeat (first | apply Kd.R_alloc | apply Kd.R_drewN | apply Kd.R_drew)); exact HO503.out) hb); have n4_ := Aside0.mk (Kd.S_below (by (with_reducible repeat (first | apply Kd.S_alloc | apply Kd.S_drewN | apply Kd.S_drew)); exact HO508.out) hb); have n5_ := Aside0.mk (Kd.S_below (by (with_reducible repeat (first | apply Kd.S_alloc | apply Kd.S_drewN | apply Kd.S_drew)); exact HO511.out) hb); have n6_ := Aside0.mk (Kd.R_below (by (with_reducible repeat (first | apply Kd.R_alloc | apply Kd.R_drewN | apply Kd.R_drew)); exact HO514.out) hb); have n7_ := Aside0.mk (Kd.R_below (by (with_reducible repeat (first | apply Kd.R_alloc | apply Kd.R_drewN | apply Kd.R_drew)); exact HO518.out) hb); have n8_ := Aside0.mk (blk_below (g := gb490) (o := .cells #[.slice A0_0 l0_0.length c0_0, .slice A0_1 l0_1.length c0_1, .slice A0_2 l0_2.length c0_2] 30 (0, 0)) (by (with_reducible repeat (first | refine blk_drewN ?_ _ | refine blk_drew ?_ | refine blk_alloc ?_ _)); exact BK490.out) hb); have n9_ := Aside0.mk (blk_below (g := gb515) (o := .cells #[.slice Ao31 t506.length co31, .slice Ao34 t509.length co34, .slice Ao35 t512.length co35] 33 (0, 0)) (by (with_reducible repeat (first | refine blk_drewN ?_ _ | refine blk_drew ?_ | refine blk_alloc ?_ _)); exact BK515.out) hb); have n10_ := Aside0.mk (below_step (by repeat (first | (with_reducible first | exact HB.out | apply below_alloc | apply pw_below_drewN | apply below_drew1 | refine below_set ?_ GE490.out | refine below_set ?_ GE515.out) | exact HB.out)) hb); clear HO494; clear HO497; clear HO500; clear HO503; clear HO508; clear HO511; clear HO514; clear HO518; clear BK490; clear BK515; clear HB; have HO494 := n0_; have HO497 := n1_; have HO500 := n2_; have HO503 := n3_; have HO508 := n4_; have HO511 := n5_; have HO514 := n6_; have HO518 := n7_; have BK490 := n8_; have BK515 := n9_; have HB := n10_; clear n0_ n1_ n2_ n3_ n4_ n5_ n6_ n7_ n8_ n9_ n10_; (try clear hb); (try clear hb2); (try clear hk); (try clear hi)))
   (try simp only [Act.put, List.setIfInBounds_toArray, List.set_cons_zero, List.set_cons_succ])
   go_cut [45] (fun v45 wc => ∃ (kq : Nat) (x45_15 : Bool), v45 = .bool x45_15 ∧ Aside0 (laws_FnExactIsStable.j0 kq l1 t516 x45_15 l0_0 l0_1 l0_2 t506 t509 t512 = some r) ∧ Aside0 (kq ≤ k) ∧ Aside0 (Kd.R (Kd.int .i64) 3 wc w.heap.size (fun k_ => some k_ ≠ ((.slice Ao35 t512.length co35) : Value).ownBlock) (.slice Ao38 t516.length co38) t516) ∧ Aside0 (Kd.S (Kd.slice 3 (Kd.int .i64)) 22 wc w.heap.size (fun k_ => some k_ ≠ ((.slice Ao38 t516.length co38) : Value).ownBlock ∧ some k_ ≠ ((.slice Ao34 t509.length co34) : Value).ownBlock ∧ some k_ ≠ ((.slice Ao35 t512.length co35) : Value).ownBlock) (.slice Ao31 t506.length co31) t506) ∧ Aside0 (Kd.S (Kd.slice 3 (Kd.int .i64)) 22 wc w.heap.size (fun k_ => some k_ ≠ ((.slice Ao38 t516.length co38) : Value).ownBlock ∧ some k_ ≠ ((.slice Ao31 t506.length co31) : Value).ownBlock ∧ some k_ ≠ ((.slice Ao35 t512.length co35) : Value).ownBlock) (.slice Ao34 t509.length co34) t509) ∧ Aside0 (Kd.R (Kd.int .i64) 3 wc w.heap.size (fun k_ => some k_ ≠ ((.slice Ao38 t516.length co38) : Value).ownBlock) (.slice Ao35 t512.length co35) t512) ∧ Aside0 (wc.heap[gb490]? = some (.cells #[(.slice A0_0 l0_0.length c0_0), (.slice A0_1 l0_1.length c0_1), (.slice A0_2 l0_2.length c0_2)] 30 (0, 0))) ∧ Aside0 (wc.heap[gb515]? = some (.cells #[(.slice Ao31 t506.length co31), (.slice Ao34 t509.length co34), (.slice Ao35 t512.length co35)] 33 (0, 0))) ∧ Aside0 (Below w.heap.size w wc))
   case first =>
    have H := HC16.out
    clear HC16
    by_cases c40 : (t519 != t504) = true
    ·rw [if_pos c40] at H
     have c40b0 : (t519 != t504) = true := c40
     (try (have c40b1 : decide (t519 = t504) = false := by simpa using c40))
     (try (have c40b2 : (t519 == t504) = false := by simpa using c40))
     (try (have c40b3 : ¬ (t519 = t504) := by simpa using c40))
     clear c40
     (first | rw [c40b0] | (simp only [i64_w, i32_w]; rw [c40b0]) | skip)
     have H' := Aside0.mk H
     clear H
     go_wp2
     go_meet
     case rel => exact ⟨_, (true), (by first | rfl | (simp; done) | (simp [*]; done)), H', ⟨by first | omega | exact Nat.le_refl _⟩, ⟨by (with_reducible repeat (first | apply Kd.R_alloc | apply Kd.R_drewN | apply Kd.R_drew)); exact Kd.R_mono HO518.out (fun _ hk => hk.2)⟩, ⟨by (with_reducible repeat (first | apply Kd.S_alloc | apply Kd.S_drewN | apply Kd.S_drew)); exact Kd.S_mono HO508.out (fun _ hk => ⟨hk.2, ⟨hk.1.1.1.1.1.1, hk.1.1.1.1.1.2⟩⟩)⟩, ⟨by (with_reducible repeat (first | apply Kd.S_alloc | apply Kd.S_drewN | apply Kd.S_drew)); exact Kd.S_mono HO511.out (fun _ hk => ⟨hk.2, ⟨hk.1.1.1.1.1.1, hk.1.1.1.1.1.2⟩⟩)⟩, ⟨by (with_reducible repeat (first | apply Kd.R_alloc | apply Kd.R_drewN | apply Kd.R_drew)); exact Kd.R_mono HO514.out (fun _ hk => hk.2)⟩, ⟨by (with_reducible repeat (first | refine blk_drewN ?_ _ | refine blk_drew ?_ | refine blk_alloc ?_ _)); exact BK490.out⟩, ⟨by (with_reducible repeat (first | refine blk_drewN ?_ _ | refine blk_drew ?_ | refine blk_alloc ?_ _)); exact BK515.out⟩, ⟨by repeat (first | (with_reducible first | exact HB.out | apply below_alloc | apply pw_below_drewN | apply below_drew1 | refine below_set ?_ GE490.out | refine below_set ?_ GE515.out) | exact HB.out)⟩⟩
    ·rw [if_neg c40] at H
     have c40b0 : (t519 != t504) = false := by simpa using c40
     (try (have c40b1 : decide (t519 = t504) = true := by simpa using c40))
     (try (have c40b2 : (t519 == t504) = true := by simpa using c40))
     clear c40
     (first | rw [c40b0] | (simp only [i64_w, i32_w]; rw [c40b0]) | skip)
     have H' := Aside0.mk H
     clear H
     go_wp2
     go_meet
     case rel => exact ⟨_, ((t520 != t505)), (by first | rfl | (simp; done) | (simp [*]; done)), H', ⟨by first | omega | exact Nat.le_refl _⟩, ⟨by (with_reducible repeat (first | apply Kd.R_alloc | apply Kd.R_drewN | apply Kd.R_drew)); exact Kd.R_mono HO518.out (fun _ hk => hk.2)⟩, ⟨by (with_reducible repeat (first | apply Kd.S_alloc | apply Kd.S_drewN | apply Kd.S_drew)); exact Kd.S_mono HO508.out (fun _ hk => ⟨hk.2, ⟨hk.1.1.1.1.1.1, hk.1.1.1.1.1.2⟩⟩)⟩, ⟨by (with_reducible repeat (first | apply Kd.S_alloc | apply Kd.S_drewN | apply Kd.S_drew)); exact Kd.S_mono HO511.out (fun _ hk => ⟨hk.2, ⟨hk.1.1.1.1.1.1, hk.1.1.1.1.1.2⟩⟩)⟩, ⟨by (with_reducible repeat (first | apply Kd.R_alloc | apply Kd.R_drewN | apply Kd.R_drew)); exact Kd.R_mono HO514.out (fun _ hk => hk.2)⟩, ⟨by (with_reducible repeat (first | refine blk_drewN ?_ _ | refine blk_drew ?_ | refine blk_alloc ?_ _)); exact BK490.out⟩, ⟨by (with_reducible repeat (first | refine blk_drewN ?_ _ | refine blk_drew ?_ | refine blk_alloc ?_ _)); exact BK515.out⟩, ⟨by repeat (first | (with_reducible first | exact HB.out | apply below_alloc | apply pw_below_drewN | apply below_drew1 | refine below_set ?_ GE490.out | refine below_set ?_ GE515.out) | exact HB.out)⟩⟩
   case rest =>
    clear HC16
    try clear c1
    try clear p2
    try clear c3
    try clear c3b0
    try clear c3b1
    try clear c4
    try clear c6
    try clear c6b0
    try clear c8
    try clear c14
    try clear c17
    try clear c19
    try clear c31
    try clear c32
    try clear c40
    try clear c40b0
    try clear c40b1
    try clear c40b2
    try clear hcz18_0
    try clear hcz18_1
    try clear hcz18_2
    try clear hcz20_0
    try clear hcz20_1
    try clear hcz20_2
    try clear hcz28_0
    try clear hcz28_1
    try clear hcz28_2
    try clear hcz33_0
    try clear hcz33_1
    try clear hcz33_2
    try clear hcz37_0
    try clear hcz37_1
    try clear hcz37_2
    try clear hcz8_0
    try clear hcz8_1
    try clear hcz8_2
    try clear hfz18_0
    try clear hfz18_1
    try clear hfz18_2
    try clear hfz20_0
    try clear hfz20_1
    try clear hfz20_2
    try clear hfz28_0
    try clear hfz28_1
    try clear hfz28_2
    try clear hfz33_0
    try clear hfz33_1
    try clear hfz33_2
    try clear hfz37_0
    try clear hfz37_1
    try clear hfz37_2
    try clear hfz8_0
    try clear hfz8_1
    try clear hfz8_2
    obtain ⟨kq, x45_15, rfl, HA, HJ15, HO_9, HO_516000, HO_516001, HO_516002, BK490, BK515, HB⟩ := hcut
    cases kq with
    | zero => exact absurd HA.out (by simp [laws_FnExactIsStable.j0])
    | succ kj15 =>
     have H := HA.out
     clear HA
     simp only [laws_FnExactIsStable.j0] at H
     by_cases c41 : x45_15 = true
     ·subst c41
      have H1 : (some false) = some r := by rw [if_pos rfl] at H; exact H
      clear H
      have H := H1
      clear H1
      obtain rfl := Option.some.inj H
      go_wp2
      go_ret
      exact ⟨by first | rfl | (simp [errW_none, errW_some] <;> rfl) | (simp [*, errW_none, errW_some] <;> rfl), by repeat (first | (with_reducible first | exact HB.out | apply below_alloc | apply pw_below_drewN | apply below_drew1 | refine below_set ?_ GE490.out | refine below_set ?_ GE515.out) | exact HB.out)⟩
     ·replace c41 := Bool.eq_false_iff.mpr c41
      subst c41
      have H1 : ((laws_toWishes.f kj15 l0_0 l0_1 l0_2).bind fun bt521 => ((laws_eqWishes.f kj15 t506 t509 t512 bt521.1 bt521.2.1 bt521.2.2).bind fun t530 => (if t530 = true then ((laws_toIntS.f kj15 l1).bind fun t531 => ((laws_eqIntS.f kj15 t516 t531).bind fun t534 => (if t534 = true then (some true) else (some false)))) else (some false)))) = some r := by rw [if_neg (show ¬ (false = true) by decide)] at H; exact H
      clear H
      have H := H1
      clear H1
      replace H := Option.bind_eq_some_iff.mp H
      obtain ⟨⟨t521, t524, t527⟩, A420, H⟩ := H
      replace H : ((laws_eqWishes.f kj15 t506 t509 t512 t521 t524 t527).bind fun t530 => (if t530 = true then ((laws_toIntS.f kj15 l1).bind fun t531 => ((laws_eqIntS.f kj15 t516 t531).bind fun t534 => (if t534 = true then (some true) else (some false)))) else (some false))) = some r := H
      have A42 := Aside0.mk A420
      clear A420
      replace H := Option.bind_eq_some_iff.mp H
      obtain ⟨t530, A430, H⟩ := H
      replace H : (if t530 = true then ((laws_toIntS.f kj15 l1).bind fun t531 => ((laws_eqIntS.f kj15 t516 t531).bind fun t534 => (if t534 = true then (some true) else (some false)))) else (some false)) = some r := H
      have A43 := Aside0.mk A430
      clear A430
      by_cases c44 : t530 = true
      ·subst c44
       have H1 : ((laws_toIntS.f kj15 l1).bind fun t531 => ((laws_eqIntS.f kj15 t516 t531).bind fun t534 => (if t534 = true then (some true) else (some false)))) = some r := by rw [if_pos rfl] at H; exact H
       clear H
       have H := H1
       clear H1
       replace H := Option.bind_eq_some_iff.mp H
       obtain ⟨t531, A450, H⟩ := H
       replace H : ((laws_eqIntS.f kj15 t516 t531).bind fun t534 => (if t534 = true then (some true) else (some false))) = some r := H
       have A45 := Aside0.mk A450
       clear A450
       replace H := Option.bind_eq_some_iff.mp H
       obtain ⟨t534, A460, H⟩ := H
       replace H : (if t534 = true then (some true) else (some false)) = some r := H
       have A46 := Aside0.mk A460
       clear A460
       by_cases c47 : t534 = true
       ·subst c47
        have H1 : (some true) = some r := by rw [if_pos rfl] at H; exact H
        clear H
        have H := H1
        clear H1
        obtain rfl := Option.some.inj H
        try go_wp2
        have n0_ := Aside0.mk (Kd.R_drew HO_9.out)
        have n1_ := Aside0.mk (Kd.S_drew HO_516000.out)
        have n2_ := Aside0.mk (Kd.S_drew HO_516001.out)
        have n3_ := Aside0.mk (Kd.R_drew HO_516002.out)
        have n4_ := Aside0.mk (blk_drew BK490.out)
        have n5_ := Aside0.mk (blk_drew BK515.out)
        have n6_ := Aside0.mk (below_drew1 HB.out)
        clear HO_9
        clear HO_516000
        clear HO_516001
        clear HO_516002
        clear BK490
        clear BK515
        clear HB
        have HO_9 := n0_
        have HO_516000 := n1_
        have HO_516001 := n2_
        have HO_516002 := n3_
        have BK490 := n4_
        have BK515 := n5_
        have HB := n6_
        clear n0_ n1_ n2_ n3_ n4_ n5_ n6_
        refine start_ (n := 5) (S := fun w' => w'.cell? ⟨gb515, 0, none⟩ = some (.slice Ao31 t506.length co31) ∧ w'.cell? ⟨gb515, 1, none⟩ = some (.slice Ao34 t509.length co34) ∧ w'.cell? ⟨gb515, 2, none⟩ = some (.slice Ao35 t512.length co35) ∧ w'.cell? ⟨gb490, 0, none⟩ = some (.slice A0_0 l0_0.length c0_0) ∧ w'.cell? ⟨gb490, 1, none⟩ = some (.slice A0_1 l0_1.length c0_1) ∧ w'.cell? ⟨gb490, 2, none⟩ = some (.slice A0_2 l0_2.length c0_2)) (ds := []) #[false, false, false, false, false] (by kernel_rfl) rfl rfl ⟨(blk_cell BK515.out 0).trans rfl, (blk_cell BK515.out 1).trans rfl, (blk_cell BK515.out 2).trans rfl, (blk_cell BK490.out 0).trans rfl, (blk_cell BK490.out 1).trans rfl, (blk_cell BK490.out 2).trans rfl⟩ (fun hHeld => ?_)
        generalize wc.drew = w48 at HO_9 HO_516000 HO_516001 HO_516002 BK490 BK515 HB hHeld ⊢
        refine take_ (i := 0) (N := some 46) (v := ?_) (a' := ?_) #[true, false, false, false, false] rfl rfl (by kernel_rfl) (fun _ _ _ h => h) (Or.inl ⟨by rfl, ?_⟩) hHeld ?_ ?_
        rotate_left
        ·rintro w' ⟨s0, s1, s2, s3, s4, s5⟩
         go_simp
         with_reducible rfl
        rotate_left
        ·simp only [Act.put, List.setIfInBounds_toArray, List.set_cons_zero, List.set_cons_succ, i64_w, i32_w]
         rfl
        refine take_ (i := 1) (N := some 47) (v := ?_) (a' := ?_) #[true, true, false, false, false] rfl rfl (by kernel_rfl) (fun _ _ _ h => h) (Or.inl ⟨by rfl, ?_⟩) hHeld ?_ ?_
        rotate_left
        ·rintro w' ⟨s0, s1, s2, s3, s4, s5⟩
         go_simp
         with_reducible rfl
        rotate_left
        ·simp only [Act.put, List.setIfInBounds_toArray, List.set_cons_zero, List.set_cons_succ, i64_w, i32_w]
         rfl
        refine one_ (i := 2) (N := some 48) #[true, true, true, false, false] rfl rfl (by kernel_rfl) (by decide) (fun K hK => ?_)
        refine goes_ Try.func19 (by kernel_rfl) rfl #[.agg #[.slice A0_0 l0_0.length c0_0, .slice A0_1 l0_1.length c0_1, .slice A0_2 l0_2.length c0_2]] (by rfl) rfl rfl (by (try simp only [List.map_toArray, List.map_cons, List.map_nil]); first | done | rfl | (simp only [List.length_drop, List.length_take]; rfl)) ?_
        with_reducible refine (laws_toWishes.calls kj15 _ _ l0_0 _ _ l0_1 _ _ l0_2 t521 t524 t527 _ ?side1 ?side2 ?side3 ?side4 ?side5 ?side6 A42.out).mono ?_
        (case side1 => repeat (first | exact (Kd.C_below HR0_0.out HB.out) | (with_reducible refine Kd.C_alloc ?_ _) | (with_reducible refine Kd.C_drewN ?_ _) | (with_reducible refine Kd.C_drew ?_)))
        (case side2 => exact HC0_0.out)
        (case side3 => repeat (first | exact (Kd.C_below HR0_1.out HB.out) | (with_reducible refine Kd.C_alloc ?_ _) | (with_reducible refine Kd.C_drewN ?_ _) | (with_reducible refine Kd.C_drew ?_)))
        (case side4 => exact HC0_1.out)
        (case side5 => repeat (first | exact (Kd.C_below HR0_2.out HB.out) | (with_reducible refine Kd.C_alloc ?_ _) | (with_reducible refine Kd.C_drewN ?_ _) | (with_reducible refine Kd.C_drew ?_)))
        (case side6 => exact HC0_2.out)
        rintro e w49 ⟨v522, v525, v528, rfl, ho0, ho1, ho2, hb⟩
        refine ⟨_, rfl, ?_⟩
        have n0_ := Aside0.mk (Kd.R_elder' (by (with_reducible repeat (first | apply Kd.R_alloc | apply Kd.R_drewN | apply Kd.R_drew)); exact HO_9.out) (Kd.R_base ho2) hb)
        have n1_ := Aside0.mk (Kd.S_mono (Kd.S_told (Kd.S_told (Kd.S_told (Kd.S_old (by (with_reducible repeat (first | apply Kd.S_alloc | apply Kd.S_drewN | apply Kd.S_drew)); exact HO_516000.out) hb) (Kd.S_base ho0)) (Kd.S_base ho1)) (Kd.R_base ho2)) (fun _ h_ => h_.1))
        have n2_ := Aside0.mk (Kd.S_mono (Kd.S_told (Kd.S_told (Kd.S_told (Kd.S_old (by (with_reducible repeat (first | apply Kd.S_alloc | apply Kd.S_drewN | apply Kd.S_drew)); exact HO_516001.out) hb) (Kd.S_base ho0)) (Kd.S_base ho1)) (Kd.R_base ho2)) (fun _ h_ => h_.1))
        have n3_ := Aside0.mk (Kd.R_elder' (by (with_reducible repeat (first | apply Kd.R_alloc | apply Kd.R_drewN | apply Kd.R_drew)); exact HO_516002.out) (Kd.R_base ho2) hb)
        have n4_ := Aside0.mk (Kd.S_lower (Kd.S_new' (Kd.S_new' (Kd.S_new' (Kd.S_new' ho0 (Kd.R_lt (by (with_reducible repeat (first | apply Kd.R_alloc | apply Kd.R_drewN | apply Kd.R_drew)); exact HO_9.out))) (Kd.S_lt (by (with_reducible repeat (first | apply Kd.S_alloc | apply Kd.S_drewN | apply Kd.S_drew)); exact HO_516000.out))) (Kd.S_lt (by (with_reducible repeat (first | apply Kd.S_alloc | apply Kd.S_drewN | apply Kd.S_drew)); exact HO_516001.out))) (Kd.R_lt (by (with_reducible repeat (first | apply Kd.R_alloc | apply Kd.R_drewN | apply Kd.R_drew)); exact HO_516002.out))) (below_size (by repeat (first | (with_reducible first | exact HB.out | apply below_alloc | apply pw_below_drewN | apply below_drew1 | refine below_set ?_ GE490.out | refine below_set ?_ GE515.out) | exact HB.out))))
        have n5_ := Aside0.mk (Kd.S_lower (Kd.S_new' (Kd.S_new' (Kd.S_new' (Kd.S_new' ho1 (Kd.R_lt (by (with_reducible repeat (first | apply Kd.R_alloc | apply Kd.R_drewN | apply Kd.R_drew)); exact HO_9.out))) (Kd.S_lt (by (with_reducible repeat (first | apply Kd.S_alloc | apply Kd.S_drewN | apply Kd.S_drew)); exact HO_516000.out))) (Kd.S_lt (by (with_reducible repeat (first | apply Kd.S_alloc | apply Kd.S_drewN | apply Kd.S_drew)); exact HO_516001.out))) (Kd.R_lt (by (with_reducible repeat (first | apply Kd.R_alloc | apply Kd.R_drewN | apply Kd.R_drew)); exact HO_516002.out))) (below_size (by repeat (first | (with_reducible first | exact HB.out | apply below_alloc | apply pw_below_drewN | apply below_drew1 | refine below_set ?_ GE490.out | refine below_set ?_ GE515.out) | exact HB.out))))
        have n6_ := Aside0.mk (Kd.R_lower (Kd.R_new' (Kd.R_new' ho2 (Kd.R_lt (by (with_reducible repeat (first | apply Kd.R_alloc | apply Kd.R_drewN | apply Kd.R_drew)); exact HO_9.out))) (Kd.R_lt (by (with_reducible repeat (first | apply Kd.R_alloc | apply Kd.R_drewN | apply Kd.R_drew)); exact HO_516002.out))) (below_size (by repeat (first | (with_reducible first | exact HB.out | apply below_alloc | apply pw_below_drewN | apply below_drew1 | refine below_set ?_ GE490.out | refine below_set ?_ GE515.out) | exact HB.out))))
        have n7_ := Aside0.mk (blk_below (g := gb490) (o := .cells #[.slice A0_0 l0_0.length c0_0, .slice A0_1 l0_1.length c0_1, .slice A0_2 l0_2.length c0_2] 30 (0, 0)) (by (with_reducible repeat (first | refine blk_drewN ?_ _ | refine blk_drew ?_ | refine blk_alloc ?_ _)); exact BK490.out) hb)
        have n8_ := Aside0.mk (blk_below (g := gb515) (o := .cells #[.slice Ao31 t506.length co31, .slice Ao34 t509.length co34, .slice Ao35 t512.length co35] 33 (0, 0)) (by (with_reducible repeat (first | refine blk_drewN ?_ _ | refine blk_drew ?_ | refine blk_alloc ?_ _)); exact BK515.out) hb)
        have n9_ := Aside0.mk (below_step (by repeat (first | (with_reducible first | exact HB.out | apply below_alloc | apply pw_below_drewN | apply below_drew1 | refine below_set ?_ GE490.out | refine below_set ?_ GE515.out) | exact HB.out)) hb)
        clear HO_9
        clear HO_516000
        clear HO_516001
        clear HO_516002
        clear BK490
        clear BK515
        clear HB
        have HO_9 := n0_
        have HO_516000 := n1_
        have HO_516001 := n2_
        have HO_516002 := n3_
        have HO523 := n4_
        have HO526 := n5_
        have HO529 := n6_
        have BK490 := n7_
        have BK515 := n8_
        have HB := n9_
        clear n0_ n1_ n2_ n3_ n4_ n5_ n6_ n7_ n8_ n9_
        (try clear hb)
        (try clear hb2)
        (try clear hk)
        (try clear hi)
        (try clear ho0)
        (try clear ho1)
        (try clear ho2)
        obtain ⟨Ao50, co50, eo50⟩ := Kd.S_slice HO523.out
        (first | subst eo50 | (injection eo50 with f1_ f2_ f3_; have f4_ := f1_.symm; have f5_ := f3_.symm; clear f1_ f2_ f3_; subst f4_; subst f5_))
        obtain ⟨Ao51, co51, eo51⟩ := Kd.S_slice HO526.out
        (first | subst eo51 | (injection eo51 with f1_ f2_ f3_; have f4_ := f1_.symm; have f5_ := f3_.symm; clear f1_ f2_ f3_; subst f4_; subst f5_))
        obtain ⟨Ao52, co52, eo52⟩ := Kd.R_slice HO529.out
        (first | subst eo52 | (injection eo52 with f1_ f2_ f3_; have f4_ := f1_.symm; have f5_ := f3_.symm; clear f1_ f2_ f3_; subst f4_; subst f5_))
        refine hK.out _ _ ⟨(blk_cell BK515.out 0).trans rfl, (blk_cell BK515.out 1).trans rfl, (blk_cell BK515.out 2).trans rfl, (blk_cell BK490.out 0).trans rfl, (blk_cell BK490.out 1).trans rfl, (blk_cell BK490.out 2).trans rfl⟩ (fun hHeld => ?_)
        clear hK K
        refine norm_ (a' := ?_) ?_ ?_
        rotate_left
        ·show Act.put _ (some 48) _ = _
         simp only [Act.put, List.setIfInBounds_toArray, List.set_cons_zero, List.set_cons_succ, i64_w, i32_w]
         rfl
        refine one_ (i := 3) (N := some 49) #[true, true, true, true, false] rfl rfl (by kernel_rfl) (by decide) (fun K hK => ?_)
        refine goes_ Try.func21 (by kernel_rfl) rfl #[.agg #[.slice Ao31 t506.length co31, .slice Ao34 t509.length co34, .slice Ao35 t512.length co35], .agg #[.slice Ao50 t521.length co50, .slice Ao51 t524.length co51, .slice Ao52 t527.length co52]] (by rfl) rfl rfl (by (try simp only [List.map_toArray, List.map_cons, List.map_nil]); first | done | rfl | (simp only [List.length_drop, List.length_take]; rfl)) ?_
        with_reducible refine (laws_eqWishes.calls kj15 _ _ t506 _ _ t509 _ _ t512 _ _ t521 _ _ t524 _ _ t527 true _ ?side1 ?side2 ?side3 ?side4 ?side5 ?side6 ?side7 ?side8 ?side9 ?side10 ?side11 ?side12 A43.out).mono ?_
        (case side1 => repeat (first | exact (Kd.S_reads' HO_516000.out).2.2 | (with_reducible refine Kd.C_alloc ?_ _) | (with_reducible refine Kd.C_drewN ?_ _) | (with_reducible refine Kd.C_drew ?_)))
        (case side2 => exact (Kd.S_reads' HO_516000.out).2.1)
        (case side3 => repeat (first | exact (Kd.S_reads' HO_516001.out).2.2 | (with_reducible refine Kd.C_alloc ?_ _) | (with_reducible refine Kd.C_drewN ?_ _) | (with_reducible refine Kd.C_drew ?_)))
        (case side4 => exact (Kd.S_reads' HO_516001.out).2.1)
        (case side5 => repeat (first | exact (Kd.R_reads' HO_516002.out).2.2 | (with_reducible refine Kd.C_alloc ?_ _) | (with_reducible refine Kd.C_drewN ?_ _) | (with_reducible refine Kd.C_drew ?_)))
        (case side6 => exact (Kd.R_reads' HO_516002.out).2.1)
        (case side7 => repeat (first | exact (Kd.S_reads' HO523.out).2.2 | (with_reducible refine Kd.C_alloc ?_ _) | (with_reducible refine Kd.C_drewN ?_ _) | (with_reducible refine Kd.C_drew ?_)))
        (case side8 => exact (Kd.S_reads' HO523.out).2.1)
        (case side9 => repeat (first | exact (Kd.S_reads' HO526.out).2.2 | (with_reducible refine Kd.C_alloc ?_ _) | (with_reducible refine Kd.C_drewN ?_ _) | (with_reducible refine Kd.C_drew ?_)))
        (case side10 => exact (Kd.S_reads' HO526.out).2.1)
        (case side11 => repeat (first | exact (Kd.R_reads' HO529.out).2.2 | (with_reducible refine Kd.C_alloc ?_ _) | (with_reducible refine Kd.C_drewN ?_ _) | (with_reducible refine Kd.C_drew ?_)))
        (case side12 => exact (Kd.R_reads' HO529.out).2.1)
        rintro e w53 ⟨rfl, hb⟩
        refine ⟨_, rfl, ?_⟩
        have n0_ := Aside0.mk (Kd.R_below (by (with_reducible repeat (first | apply Kd.R_alloc | apply Kd.R_drewN | apply Kd.R_drew)); exact HO_9.out) hb)
        have n1_ := Aside0.mk (Kd.S_below (by (with_reducible repeat (first | apply Kd.S_alloc | apply Kd.S_drewN | apply Kd.S_drew)); exact HO_516000.out) hb)
        have n2_ := Aside0.mk (Kd.S_below (by (with_reducible repeat (first | apply Kd.S_alloc | apply Kd.S_drewN | apply Kd.S_drew)); exact HO_516001.out) hb)
        have n3_ := Aside0.mk (Kd.R_below (by (with_reducible repeat (first | apply Kd.R_alloc | apply Kd.R_drewN | apply Kd.R_drew)); exact HO_516002.out) hb)
        have n4_ := Aside0.mk (Kd.S_below (by (with_reducible repeat (first | apply Kd.S_alloc | apply Kd.S_drewN | apply Kd.S_drew)); exact HO523.out) hb)
        have n5_ := Aside0.mk (Kd.S_below (by (with_reducible repeat (first | apply Kd.S_alloc | apply Kd.S_drewN | apply Kd.S_drew)); exact HO526.out) hb)
        have n6_ := Aside0.mk (Kd.R_below (by (with_reducible repeat (first | apply Kd.R_alloc | apply Kd.R_drewN | apply Kd.R_drew)); exact HO529.out) hb)
        have n7_ := Aside0.mk (blk_below (g := gb490) (o := .cells #[.slice A0_0 l0_0.length c0_0, .slice A0_1 l0_1.length c0_1, .slice A0_2 l0_2.length c0_2] 30 (0, 0)) (by (with_reducible repeat (first | refine blk_drewN ?_ _ | refine blk_drew ?_ | refine blk_alloc ?_ _)); exact BK490.out) hb)
        have n8_ := Aside0.mk (blk_below (g := gb515) (o := .cells #[.slice Ao31 t506.length co31, .slice Ao34 t509.length co34, .slice Ao35 t512.length co35] 33 (0, 0)) (by (with_reducible repeat (first | refine blk_drewN ?_ _ | refine blk_drew ?_ | refine blk_alloc ?_ _)); exact BK515.out) hb)
        have n9_ := Aside0.mk (below_step (by repeat (first | (with_reducible first | exact HB.out | apply below_alloc | apply pw_below_drewN | apply below_drew1 | refine below_set ?_ GE490.out | refine below_set ?_ GE515.out) | exact HB.out)) hb)
        clear HO_9
        clear HO_516000
        clear HO_516001
        clear HO_516002
        clear HO523
        clear HO526
        clear HO529
        clear BK490
        clear BK515
        clear HB
        have HO_9 := n0_
        have HO_516000 := n1_
        have HO_516001 := n2_
        have HO_516002 := n3_
        have HO523 := n4_
        have HO526 := n5_
        have HO529 := n6_
        have BK490 := n7_
        have BK515 := n8_
        have HB := n9_
        clear n0_ n1_ n2_ n3_ n4_ n5_ n6_ n7_ n8_ n9_
        (try clear hb)
        (try clear hb2)
        (try clear hk)
        (try clear hi)
        refine hK.out _ _ ⟨(blk_cell BK515.out 0).trans rfl, (blk_cell BK515.out 1).trans rfl, (blk_cell BK515.out 2).trans rfl, (blk_cell BK490.out 0).trans rfl, (blk_cell BK490.out 1).trans rfl, (blk_cell BK490.out 2).trans rfl⟩ (fun hHeld => ?_)
        clear hK K
        refine norm_ (a' := ?_) ?_ ?_
        rotate_left
        ·show Act.put _ (some 49) _ = _
         simp only [Act.put, List.setIfInBounds_toArray, List.set_cons_zero, List.set_cons_succ, i64_w, i32_w]
         rfl
        refine pure_ (i := 4) (N := some 50) (v := ?_) (a' := ?_) #[true, true, true, true, true] rfl rfl (by kernel_rfl) (fun _ _ _ h => h) (Or.inl ⟨by rfl, ?_⟩) ?_ ?_
        rotate_left
        ·intro w'
         go_simp
         with_reducible rfl
        rotate_left
        ·simp only [Act.put, List.setIfInBounds_toArray, List.set_cons_zero, List.set_cons_succ, i64_w, i32_w]
         rfl
        refine done_ (by kernel_rfl) ?_
        try go_wp2_with (first | ((with_reducible refine gate_callee (f := 14) rfl ?_); refine goesL_ (some 53) rfl rfl Try.func14 (by kernel_rfl) rfl #[.slice A1 l1.length c1] rfl (by (try simp only [List.map_toArray, List.map_cons, List.map_nil]); first | done | rfl | (simp only [List.length_drop, List.length_take]; rfl)) ?_; (with_reducible refine (laws_toIntS.calls kj15 _ _ l1 t531 _ ?side1 ?side2 A45.out).mono ?_); (case side1 => repeat (first | exact (Kd.C_below HR1.out HB.out) | (with_reducible refine Kd.C_alloc ?_ _) | (with_reducible refine Kd.C_drewN ?_ _) | (with_reducible refine Kd.C_drew ?_))); (case side2 => exact HC1.out); rintro e w54 ⟨v532, rfl, ho0, hb⟩; refine ⟨_, rfl, ?_⟩; have n0_ := Aside0.mk (Kd.R_elder' (by (with_reducible repeat (first | apply Kd.R_alloc | apply Kd.R_drewN | apply Kd.R_drew)); exact HO_9.out) (Kd.R_base ho0) hb); have n1_ := Aside0.mk (Kd.S_elder' (by (with_reducible repeat (first | apply Kd.S_alloc | apply Kd.S_drewN | apply Kd.S_drew)); exact HO_516000.out) (Kd.R_base ho0) hb); have n2_ := Aside0.mk (Kd.S_elder' (by (with_reducible repeat (first | apply Kd.S_alloc | apply Kd.S_drewN | apply Kd.S_drew)); exact HO_516001.out) (Kd.R_base ho0) hb); have n3_ := Aside0.mk (Kd.R_elder' (by (with_reducible repeat (first | apply Kd.R_alloc | apply Kd.R_drewN | apply Kd.R_drew)); exact HO_516002.out) (Kd.R_base ho0) hb); have n4_ := Aside0.mk (Kd.S_elder' (by (with_reducible repeat (first | apply Kd.S_alloc | apply Kd.S_drewN | apply Kd.S_drew)); exact HO523.out) (Kd.R_base ho0) hb); have n5_ := Aside0.mk (Kd.S_elder' (by (with_reducible repeat (first | apply Kd.S_alloc | apply Kd.S_drewN | apply Kd.S_drew)); exact HO526.out) (Kd.R_base ho0) hb); have n6_ := Aside0.mk (Kd.R_elder' (by (with_reducible repeat (first | apply Kd.R_alloc | apply Kd.R_drewN | apply Kd.R_drew)); exact HO529.out) (Kd.R_base ho0) hb); have n7_ := Aside0.mk (Kd.R_lower (Kd.R_new' (Kd.R_new' (Kd.R_new' ho0 (Kd.R_lt (by (with_reducible repeat (first | apply Kd.R_alloc | apply Kd.R_drewN | apply Kd.R_drew)); exact HO_9.out))) (Kd.R_lt (by (with_reducible repeat (first | apply Kd.R_alloc | apply Kd.R_drewN | apply Kd.R_drew)); exact HO_516002.out))) (Kd.R_lt (by (with_reducible repeat (first | apply Kd.R_alloc | apply Kd.R_drewN | apply Kd.R_drew)); exact HO529.out))) (below_size (by repeat (first | (with_reducible first | exact HB.out | apply below_alloc | apply pw_below_drewN | apply below_drew1 | refine below_set ?_ GE490.out | refine below_set ?_ GE515.out) | exact HB.out)))); have n8_ := Aside0.mk (blk_below (g := gb490) (o := .cells #[.slice A0_0 l0_0.length c0_0, .slice A0_1 l0_1.length c0_1, .slice A0_2 l0_2.length c0_2] 30 (0, 0)) (by (with_reducible repeat (first | refine blk_drewN ?_ _ | refine blk_drew ?_ | refine blk_alloc ?_ _)); exact BK490.out) hb); have n9_ := Aside0.mk (blk_below (g := gb515) (o := .cells #[.slice Ao31 t506.length co31, .slice Ao34 t509.length co34, .slice Ao35 t512.length co35] 33 (0, 0)) (by (with_reducible repeat (first | refine blk_drewN ?_ _ | refine blk_drew ?_ | refine blk_alloc ?_ _)); exact BK515.out) hb); have n10_ := Aside0.mk (below_step (by repeat (first | (with_reducible first | exact HB.out | apply below_alloc | apply pw_below_drewN | apply below_drew1 | refine below_set ?_ GE490.out | refine below_set ?_ GE515.out) | exact HB.out)) hb); clear HO_9; clear HO_516000; clear HO_516001; clear HO_516002; clear HO523; clear HO526; clear HO529; clear BK490; clear BK515; clear HB; have HO_9 := n0_; have HO_516000 := n1_; have HO_516001 := n2_; have HO_516002 := n3_; have HO523 := n4_; have HO526 := n5_; have HO529 := n6_; have HO533 := n7_; have BK490 := n8_; have BK515 := n9_; have HB := n10_; clear n0_ n1_ n2_ n3_ n4_ n5_ n6_ n7_ n8_ n9_ n10_; (try clear hb); (try clear hb2); (try clear hk); (try clear hi); (try clear ho0); obtain ⟨Ao55, co55, eo55⟩ := Kd.R_slice HO533.out; subst eo55) | ((with_reducible refine gate_callee (f := 16) rfl ?_); refine goesL_ (some 54) rfl rfl Try.func16 (by kernel_rfl) rfl #[.slice Ao38 t516.length co38, .slice Ao55 t531.length co55] rfl (by (try simp only [List.map_toArray, List.map_cons, List.map_nil]); first | done | rfl | (simp only [List.length_drop, List.length_take]; rfl)) ?_; (with_reducible refine (laws_eqIntS.calls kj15 _ _ t516 _ _ t531 true _ ?side1 ?side2 ?side3 ?side4 A46.out).mono ?_); (case side1 => repeat (first | exact (Kd.R_reads' HO_9.out).2.2 | (with_reducible refine Kd.C_alloc ?_ _) | (with_reducible refine Kd.C_drewN ?_ _) | (with_reducible refine Kd.C_drew ?_))); (case side2 => exact (Kd.R_reads' HO_9.out).2.1); (case side3 => repeat (first | exact (Kd.R_reads' HO533.out).2.2 | (with_reducible refine Kd.C_alloc ?_ _) | (with_reducible refine Kd.C_drewN ?_ _) | (with_reducible refine Kd.C_drew ?_))); (case side4 => exact (Kd.R_reads' HO533.out).2.1); rintro e w' ⟨rfl, ⟨nd, rfl⟩⟩; refine ⟨_, rfl, ?_⟩))
        go_ret
        exact ⟨by first | rfl | (simp [errW_none, errW_some] <;> rfl) | (simp [*, errW_none, errW_some] <;> rfl), by repeat (first | (with_reducible first | exact HB.out | apply below_alloc | apply pw_below_drewN | apply below_drew1 | refine below_set ?_ GE490.out | refine below_set ?_ GE515.out) | exact HB.out)⟩
       ·replace c47 := Bool.eq_false_iff.mpr c47
        subst c47
        have H1 : (some false) = some r := by rw [if_neg (show ¬ (false = true) by decide)] at H; exact H
        clear H
        have H := H1
        clear H1
        obtain rfl := Option.some.inj H
        try go_wp2
        have n0_ := Aside0.mk (Kd.R_drew HO_9.out)
        have n1_ := Aside0.mk (Kd.S_drew HO_516000.out)
        have n2_ := Aside0.mk (Kd.S_drew HO_516001.out)
        have n3_ := Aside0.mk (Kd.R_drew HO_516002.out)
        have n4_ := Aside0.mk (blk_drew BK490.out)
        have n5_ := Aside0.mk (blk_drew BK515.out)
        have n6_ := Aside0.mk (below_drew1 HB.out)
        clear HO_9
        clear HO_516000
        clear HO_516001
        clear HO_516002
        clear BK490
        clear BK515
        clear HB
        have HO_9 := n0_
        have HO_516000 := n1_
        have HO_516001 := n2_
        have HO_516002 := n3_
        have BK490 := n4_
        have BK515 := n5_
        have HB := n6_
        clear n0_ n1_ n2_ n3_ n4_ n5_ n6_
        refine start_ (n := 5) (S := fun w' => w'.cell? ⟨gb515, 0, none⟩ = some (.slice Ao31 t506.length co31) ∧ w'.cell? ⟨gb515, 1, none⟩ = some (.slice Ao34 t509.length co34) ∧ w'.cell? ⟨gb515, 2, none⟩ = some (.slice Ao35 t512.length co35) ∧ w'.cell? ⟨gb490, 0, none⟩ = some (.slice A0_0 l0_0.length c0_0) ∧ w'.cell? ⟨gb490, 1, none⟩ = some (.slice A0_1 l0_1.length c0_1) ∧ w'.cell? ⟨gb490, 2, none⟩ = some (.slice A0_2 l0_2.length c0_2)) (ds := []) #[false, false, false, false, false] (by kernel_rfl) rfl rfl ⟨(blk_cell BK515.out 0).trans rfl, (blk_cell BK515.out 1).trans rfl, (blk_cell BK515.out 2).trans rfl, (blk_cell BK490.out 0).trans rfl, (blk_cell BK490.out 1).trans rfl, (blk_cell BK490.out 2).trans rfl⟩ (fun hHeld => ?_)
        generalize wc.drew = w56 at HO_9 HO_516000 HO_516001 HO_516002 BK490 BK515 HB hHeld ⊢
        refine take_ (i := 0) (N := some 46) (v := ?_) (a' := ?_) #[true, false, false, false, false] rfl rfl (by kernel_rfl) (fun _ _ _ h => h) (Or.inl ⟨by rfl, ?_⟩) hHeld ?_ ?_
        rotate_left
        ·rintro w' ⟨s0, s1, s2, s3, s4, s5⟩
         go_simp
         with_reducible rfl
        rotate_left
        ·simp only [Act.put, List.setIfInBounds_toArray, List.set_cons_zero, List.set_cons_succ, i64_w, i32_w]
         rfl
        refine take_ (i := 1) (N := some 47) (v := ?_) (a' := ?_) #[true, true, false, false, false] rfl rfl (by kernel_rfl) (fun _ _ _ h => h) (Or.inl ⟨by rfl, ?_⟩) hHeld ?_ ?_
        rotate_left
        ·rintro w' ⟨s0, s1, s2, s3, s4, s5⟩
         go_simp
         with_reducible rfl
        rotate_left
        ·simp only [Act.put, List.setIfInBounds_toArray, List.set_cons_zero, List.set_cons_succ, i64_w, i32_w]
         rfl
        refine one_ (i := 2) (N := some 48) #[true, true, true, false, false] rfl rfl (by kernel_rfl) (by decide) (fun K hK => ?_)
        refine goes_ Try.func19 (by kernel_rfl) rfl #[.agg #[.slice A0_0 l0_0.length c0_0, .slice A0_1 l0_1.length c0_1, .slice A0_2 l0_2.length c0_2]] (by rfl) rfl rfl (by (try simp only [List.map_toArray, List.map_cons, List.map_nil]); first | done | rfl | (simp only [List.length_drop, List.length_take]; rfl)) ?_
        with_reducible refine (laws_toWishes.calls kj15 _ _ l0_0 _ _ l0_1 _ _ l0_2 t521 t524 t527 _ ?side1 ?side2 ?side3 ?side4 ?side5 ?side6 A42.out).mono ?_
        (case side1 => repeat (first | exact (Kd.C_below HR0_0.out HB.out) | (with_reducible refine Kd.C_alloc ?_ _) | (with_reducible refine Kd.C_drewN ?_ _) | (with_reducible refine Kd.C_drew ?_)))
        (case side2 => exact HC0_0.out)
        (case side3 => repeat (first | exact (Kd.C_below HR0_1.out HB.out) | (with_reducible refine Kd.C_alloc ?_ _) | (with_reducible refine Kd.C_drewN ?_ _) | (with_reducible refine Kd.C_drew ?_)))
        (case side4 => exact HC0_1.out)
        (case side5 => repeat (first | exact (Kd.C_below HR0_2.out HB.out) | (with_reducible refine Kd.C_alloc ?_ _) | (with_reducible refine Kd.C_drewN ?_ _) | (with_reducible refine Kd.C_drew ?_)))
        (case side6 => exact HC0_2.out)
        rintro e w57 ⟨v522, v525, v528, rfl, ho0, ho1, ho2, hb⟩
        refine ⟨_, rfl, ?_⟩
        have n0_ := Aside0.mk (Kd.R_elder' (by (with_reducible repeat (first | apply Kd.R_alloc | apply Kd.R_drewN | apply Kd.R_drew)); exact HO_9.out) (Kd.R_base ho2) hb)
        have n1_ := Aside0.mk (Kd.S_mono (Kd.S_told (Kd.S_told (Kd.S_told (Kd.S_old (by (with_reducible repeat (first | apply Kd.S_alloc | apply Kd.S_drewN | apply Kd.S_drew)); exact HO_516000.out) hb) (Kd.S_base ho0)) (Kd.S_base ho1)) (Kd.R_base ho2)) (fun _ h_ => h_.1))
        have n2_ := Aside0.mk (Kd.S_mono (Kd.S_told (Kd.S_told (Kd.S_told (Kd.S_old (by (with_reducible repeat (first | apply Kd.S_alloc | apply Kd.S_drewN | apply Kd.S_drew)); exact HO_516001.out) hb) (Kd.S_base ho0)) (Kd.S_base ho1)) (Kd.R_base ho2)) (fun _ h_ => h_.1))
        have n3_ := Aside0.mk (Kd.R_elder' (by (with_reducible repeat (first | apply Kd.R_alloc | apply Kd.R_drewN | apply Kd.R_drew)); exact HO_516002.out) (Kd.R_base ho2) hb)
        have n4_ := Aside0.mk (Kd.S_lower (Kd.S_new' (Kd.S_new' (Kd.S_new' (Kd.S_new' ho0 (Kd.R_lt (by (with_reducible repeat (first | apply Kd.R_alloc | apply Kd.R_drewN | apply Kd.R_drew)); exact HO_9.out))) (Kd.S_lt (by (with_reducible repeat (first | apply Kd.S_alloc | apply Kd.S_drewN | apply Kd.S_drew)); exact HO_516000.out))) (Kd.S_lt (by (with_reducible repeat (first | apply Kd.S_alloc | apply Kd.S_drewN | apply Kd.S_drew)); exact HO_516001.out))) (Kd.R_lt (by (with_reducible repeat (first | apply Kd.R_alloc | apply Kd.R_drewN | apply Kd.R_drew)); exact HO_516002.out))) (below_size (by repeat (first | (with_reducible first | exact HB.out | apply below_alloc | apply pw_below_drewN | apply below_drew1 | refine below_set ?_ GE490.out | refine below_set ?_ GE515.out) | exact HB.out))))
        have n5_ := Aside0.mk (Kd.S_lower (Kd.S_new' (Kd.S_new' (Kd.S_new' (Kd.S_new' ho1 (Kd.R_lt (by (with_reducible repeat (first | apply Kd.R_alloc | apply Kd.R_drewN | apply Kd.R_drew)); exact HO_9.out))) (Kd.S_lt (by (with_reducible repeat (first | apply Kd.S_alloc | apply Kd.S_drewN | apply Kd.S_drew)); exact HO_516000.out))) (Kd.S_lt (by (with_reducible repeat (first | apply Kd.S_alloc | apply Kd.S_drewN | apply Kd.S_drew)); exact HO_516001.out))) (Kd.R_lt (by (with_reducible repeat (first | apply Kd.R_alloc | apply Kd.R_drewN | apply Kd.R_drew)); exact HO_516002.out))) (below_size (by repeat (first | (with_reducible first | exact HB.out | apply below_alloc | apply pw_below_drewN | apply below_drew1 | refine below_set ?_ GE490.out | refine below_set ?_ GE515.out) | exact HB.out))))
        have n6_ := Aside0.mk (Kd.R_lower (Kd.R_new' (Kd.R_new' ho2 (Kd.R_lt (by (with_reducible repeat (first | apply Kd.R_alloc | apply Kd.R_drewN | apply Kd.R_drew)); exact HO_9.out))) (Kd.R_lt (by (with_reducible repeat (first | apply Kd.R_alloc | apply Kd.R_drewN | apply Kd.R_drew)); exact HO_516002.out))) (below_size (by repeat (first | (with_reducible first | exact HB.out | apply below_alloc | apply pw_below_drewN | apply below_drew1 | refine below_set ?_ GE490.out | refine below_set ?_ GE515.out) | exact HB.out))))
        have n7_ := Aside0.mk (blk_below (g := gb490) (o := .cells #[.slice A0_0 l0_0.length c0_0, .slice A0_1 l0_1.length c0_1, .slice A0_2 l0_2.length c0_2] 30 (0, 0)) (by (with_reducible repeat (first | refine blk_drewN ?_ _ | refine blk_drew ?_ | refine blk_alloc ?_ _)); exact BK490.out) hb)
        have n8_ := Aside0.mk (blk_below (g := gb515) (o := .cells #[.slice Ao31 t506.length co31, .slice Ao34 t509.length co34, .slice Ao35 t512.length co35] 33 (0, 0)) (by (with_reducible repeat (first | refine blk_drewN ?_ _ | refine blk_drew ?_ | refine blk_alloc ?_ _)); exact BK515.out) hb)
        have n9_ := Aside0.mk (below_step (by repeat (first | (with_reducible first | exact HB.out | apply below_alloc | apply pw_below_drewN | apply below_drew1 | refine below_set ?_ GE490.out | refine below_set ?_ GE515.out) | exact HB.out)) hb)
        clear HO_9
        clear HO_516000
        clear HO_516001
        clear HO_516002
        clear BK490
        clear BK515
        clear HB
        have HO_9 := n0_
        have HO_516000 := n1_
        have HO_516001 := n2_
        have HO_516002 := n3_
        have HO523 := n4_
        have HO526 := n5_
        have HO529 := n6_
        have BK490 := n7_
        have BK515 := n8_
        have HB := n9_
        clear n0_ n1_ n2_ n3_ n4_ n5_ n6_ n7_ n8_ n9_
        (try clear hb)
        (try clear hb2)
        (try clear hk)
        (try clear hi)
        (try clear ho0)
        (try clear ho1)
        (try clear ho2)
        obtain ⟨Ao58, co58, eo58⟩ := Kd.S_slice HO523.out
        (first | subst eo58 | (injection eo58 with f1_ f2_ f3_; have f4_ := f1_.symm; have f5_ := f3_.symm; clear f1_ f2_ f3_; subst f4_; subst f5_))
        obtain ⟨Ao59, co59, eo59⟩ := Kd.S_slice HO526.out
        (first | subst eo59 | (injection eo59 with f1_ f2_ f3_; have f4_ := f1_.symm; have f5_ := f3_.symm; clear f1_ f2_ f3_; subst f4_; subst f5_))
        obtain ⟨Ao60, co60, eo60⟩ := Kd.R_slice HO529.out
        (first | subst eo60 | (injection eo60 with f1_ f2_ f3_; have f4_ := f1_.symm; have f5_ := f3_.symm; clear f1_ f2_ f3_; subst f4_; subst f5_))
        refine hK.out _ _ ⟨(blk_cell BK515.out 0).trans rfl, (blk_cell BK515.out 1).trans rfl, (blk_cell BK515.out 2).trans rfl, (blk_cell BK490.out 0).trans rfl, (blk_cell BK490.out 1).trans rfl, (blk_cell BK490.out 2).trans rfl⟩ (fun hHeld => ?_)
        clear hK K
        refine norm_ (a' := ?_) ?_ ?_
        rotate_left
        ·show Act.put _ (some 48) _ = _
         simp only [Act.put, List.setIfInBounds_toArray, List.set_cons_zero, List.set_cons_succ, i64_w, i32_w]
         rfl
        refine one_ (i := 3) (N := some 49) #[true, true, true, true, false] rfl rfl (by kernel_rfl) (by decide) (fun K hK => ?_)
        refine goes_ Try.func21 (by kernel_rfl) rfl #[.agg #[.slice Ao31 t506.length co31, .slice Ao34 t509.length co34, .slice Ao35 t512.length co35], .agg #[.slice Ao58 t521.length co58, .slice Ao59 t524.length co59, .slice Ao60 t527.length co60]] (by rfl) rfl rfl (by (try simp only [List.map_toArray, List.map_cons, List.map_nil]); first | done | rfl | (simp only [List.length_drop, List.length_take]; rfl)) ?_
        with_reducible refine (laws_eqWishes.calls kj15 _ _ t506 _ _ t509 _ _ t512 _ _ t521 _ _ t524 _ _ t527 true _ ?side1 ?side2 ?side3 ?side4 ?side5 ?side6 ?side7 ?side8 ?side9 ?side10 ?side11 ?side12 A43.out).mono ?_
        (case side1 => repeat (first | exact (Kd.S_reads' HO_516000.out).2.2 | (with_reducible refine Kd.C_alloc ?_ _) | (with_reducible refine Kd.C_drewN ?_ _) | (with_reducible refine Kd.C_drew ?_)))
        (case side2 => exact (Kd.S_reads' HO_516000.out).2.1)
        (case side3 => repeat (first | exact (Kd.S_reads' HO_516001.out).2.2 | (with_reducible refine Kd.C_alloc ?_ _) | (with_reducible refine Kd.C_drewN ?_ _) | (with_reducible refine Kd.C_drew ?_)))
        (case side4 => exact (Kd.S_reads' HO_516001.out).2.1)
        (case side5 => repeat (first | exact (Kd.R_reads' HO_516002.out).2.2 | (with_reducible refine Kd.C_alloc ?_ _) | (with_reducible refine Kd.C_drewN ?_ _) | (with_reducible refine Kd.C_drew ?_)))
        (case side6 => exact (Kd.R_reads' HO_516002.out).2.1)
        (case side7 => repeat (first | exact (Kd.S_reads' HO523.out).2.2 | (with_reducible refine Kd.C_alloc ?_ _) | (with_reducible refine Kd.C_drewN ?_ _) | (with_reducible refine Kd.C_drew ?_)))
        (case side8 => exact (Kd.S_reads' HO523.out).2.1)
        (case side9 => repeat (first | exact (Kd.S_reads' HO526.out).2.2 | (with_reducible refine Kd.C_alloc ?_ _) | (with_reducible refine Kd.C_drewN ?_ _) | (with_reducible refine Kd.C_drew ?_)))
        (case side10 => exact (Kd.S_reads' HO526.out).2.1)
        (case side11 => repeat (first | exact (Kd.R_reads' HO529.out).2.2 | (with_reducible refine Kd.C_alloc ?_ _) | (with_reducible refine Kd.C_drewN ?_ _) | (with_reducible refine Kd.C_drew ?_)))
        (case side12 => exact (Kd.R_reads' HO529.out).2.1)
        rintro e w61 ⟨rfl, hb⟩
        refine ⟨_, rfl, ?_⟩
        have n0_ := Aside0.mk (Kd.R_below (by (with_reducible repeat (first | apply Kd.R_alloc | apply Kd.R_drewN | apply Kd.R_drew)); exact HO_9.out) hb)
        have n1_ := Aside0.mk (Kd.S_below (by (with_reducible repeat (first | apply Kd.S_alloc | apply Kd.S_drewN | apply Kd.S_drew)); exact HO_516000.out) hb)
        have n2_ := Aside0.mk (Kd.S_below (by (with_reducible repeat (first | apply Kd.S_alloc | apply Kd.S_drewN | apply Kd.S_drew)); exact HO_516001.out) hb)
        have n3_ := Aside0.mk (Kd.R_below (by (with_reducible repeat (first | apply Kd.R_alloc | apply Kd.R_drewN | apply Kd.R_drew)); exact HO_516002.out) hb)
        have n4_ := Aside0.mk (Kd.S_below (by (with_reducible repeat (first | apply Kd.S_alloc | apply Kd.S_drewN | apply Kd.S_drew)); exact HO523.out) hb)
        have n5_ := Aside0.mk (Kd.S_below (by (with_reducible repeat (first | apply Kd.S_alloc | apply Kd.S_drewN | apply Kd.S_drew)); exact HO526.out) hb)
        have n6_ := Aside0.mk (Kd.R_below (by (with_reducible repeat (first | apply Kd.R_alloc | apply Kd.R_drewN | apply Kd.R_drew)); exact HO529.out) hb)
        have n7_ := Aside0.mk (blk_below (g := gb490) (o := .cells #[.slice A0_0 l0_0.length c0_0, .slice A0_1 l0_1.length c0_1, .slice A0_2 l0_2.length c0_2] 30 (0, 0)) (by (with_reducible repeat (first | refine blk_drewN ?_ _ | refine blk_drew ?_ | refine blk_alloc ?_ _)); exact BK490.out) hb)
        have n8_ := Aside0.mk (blk_below (g := gb515) (o := .cells #[.slice Ao31 t506.length co31, .slice Ao34 t509.length co34, .slice Ao35 t512.length co35] 33 (0, 0)) (by (with_reducible repeat (first | refine blk_drewN ?_ _ | refine blk_drew ?_ | refine blk_alloc ?_ _)); exact BK515.out) hb)
        have n9_ := Aside0.mk (below_step (by repeat (first | (with_reducible first | exact HB.out | apply below_alloc | apply pw_below_drewN | apply below_drew1 | refine below_set ?_ GE490.out | refine below_set ?_ GE515.out) | exact HB.out)) hb)
        clear HO_9
        clear HO_516000
        clear HO_516001
        clear HO_516002
        clear HO523
        clear HO526
        clear HO529
        clear BK490
        clear BK515
        clear HB
        have HO_9 := n0_
        have HO_516000 := n1_
        have HO_516001 := n2_
        have HO_516002 := n3_
        have HO523 := n4_
        have HO526 := n5_
        have HO529 := n6_
        have BK490 := n7_
        have BK515 := n8_
        have HB := n9_
        clear n0_ n1_ n2_ n3_ n4_ n5_ n6_ n7_ n8_ n9_
        (try clear hb)
        (try clear hb2)
        (try clear hk)
        (try clear hi)
        refine hK.out _ _ ⟨(blk_cell BK515.out 0).trans rfl, (blk_cell BK515.out 1).trans rfl, (blk_cell BK515.out 2).trans rfl, (blk_cell BK490.out 0).trans rfl, (blk_cell BK490.out 1).trans rfl, (blk_cell BK490.out 2).trans rfl⟩ (fun hHeld => ?_)
        clear hK K
        refine norm_ (a' := ?_) ?_ ?_
        rotate_left
        ·show Act.put _ (some 49) _ = _
         simp only [Act.put, List.setIfInBounds_toArray, List.set_cons_zero, List.set_cons_succ, i64_w, i32_w]
         rfl
        refine pure_ (i := 4) (N := some 50) (v := ?_) (a' := ?_) #[true, true, true, true, true] rfl rfl (by kernel_rfl) (fun _ _ _ h => h) (Or.inl ⟨by rfl, ?_⟩) ?_ ?_
        rotate_left
        ·intro w'
         go_simp
         with_reducible rfl
        rotate_left
        ·simp only [Act.put, List.setIfInBounds_toArray, List.set_cons_zero, List.set_cons_succ, i64_w, i32_w]
         rfl
        refine done_ (by kernel_rfl) ?_
        try go_wp2_with (first | ((with_reducible refine gate_callee (f := 14) rfl ?_); refine goesL_ (some 53) rfl rfl Try.func14 (by kernel_rfl) rfl #[.slice A1 l1.length c1] rfl (by (try simp only [List.map_toArray, List.map_cons, List.map_nil]); first | done | rfl | (simp only [List.length_drop, List.length_take]; rfl)) ?_; (with_reducible refine (laws_toIntS.calls kj15 _ _ l1 t531 _ ?side1 ?side2 A45.out).mono ?_); (case side1 => repeat (first | exact (Kd.C_below HR1.out HB.out) | (with_reducible refine Kd.C_alloc ?_ _) | (with_reducible refine Kd.C_drewN ?_ _) | (with_reducible refine Kd.C_drew ?_))); (case side2 => exact HC1.out); rintro e w62 ⟨v532, rfl, ho0, hb⟩; refine ⟨_, rfl, ?_⟩; have n0_ := Aside0.mk (Kd.R_elder' (by (with_reducible repeat (first | apply Kd.R_alloc | apply Kd.R_drewN | apply Kd.R_drew)); exact HO_9.out) (Kd.R_base ho0) hb); have n1_ := Aside0.mk (Kd.S_elder' (by (with_reducible repeat (first | apply Kd.S_alloc | apply Kd.S_drewN | apply Kd.S_drew)); exact HO_516000.out) (Kd.R_base ho0) hb); have n2_ := Aside0.mk (Kd.S_elder' (by (with_reducible repeat (first | apply Kd.S_alloc | apply Kd.S_drewN | apply Kd.S_drew)); exact HO_516001.out) (Kd.R_base ho0) hb); have n3_ := Aside0.mk (Kd.R_elder' (by (with_reducible repeat (first | apply Kd.R_alloc | apply Kd.R_drewN | apply Kd.R_drew)); exact HO_516002.out) (Kd.R_base ho0) hb); have n4_ := Aside0.mk (Kd.S_elder' (by (with_reducible repeat (first | apply Kd.S_alloc | apply Kd.S_drewN | apply Kd.S_drew)); exact HO523.out) (Kd.R_base ho0) hb); have n5_ := Aside0.mk (Kd.S_elder' (by (with_reducible repeat (first | apply Kd.S_alloc | apply Kd.S_drewN | apply Kd.S_drew)); exact HO526.out) (Kd.R_base ho0) hb); have n6_ := Aside0.mk (Kd.R_elder' (by (with_reducible repeat (first | apply Kd.R_alloc | apply Kd.R_drewN | apply Kd.R_drew)); exact HO529.out) (Kd.R_base ho0) hb); have n7_ := Aside0.mk (Kd.R_lower (Kd.R_new' (Kd.R_new' (Kd.R_new' ho0 (Kd.R_lt (by (with_reducible repeat (first | apply Kd.R_alloc | apply Kd.R_drewN | apply Kd.R_drew)); exact HO_9.out))) (Kd.R_lt (by (with_reducible repeat (first | apply Kd.R_alloc | apply Kd.R_drewN | apply Kd.R_drew)); exact HO_516002.out))) (Kd.R_lt (by (with_reducible repeat (first | apply Kd.R_alloc | apply Kd.R_drewN | apply Kd.R_drew)); exact HO529.out))) (below_size (by repeat (first | (with_reducible first | exact HB.out | apply below_alloc | apply pw_below_drewN | apply below_drew1 | refine below_set ?_ GE490.out | refine below_set ?_ GE515.out) | exact HB.out)))); have n8_ := Aside0.mk (blk_below (g := gb490) (o := .cells #[.slice A0_0 l0_0.length c0_0, .slice A0_1 l0_1.length c0_1, .slice A0_2 l0_2.length c0_2] 30 (0, 0)) (by (with_reducible repeat (first | refine blk_drewN ?_ _ | refine blk_drew ?_ | refine blk_alloc ?_ _)); exact BK490.out) hb); have n9_ := Aside0.mk (blk_below (g := gb515) (o := .cells #[.slice Ao31 t506.length co31, .slice Ao34 t509.length co34, .slice Ao35 t512.length co35] 33 (0, 0)) (by (with_reducible repeat (first | refine blk_drewN ?_ _ | refine blk_drew ?_ | refine blk_alloc ?_ _)); exact BK515.out) hb); have n10_ := Aside0.mk (below_step (by repeat (first | (with_reducible first | exact HB.out | apply below_alloc | apply pw_below_drewN | apply below_drew1 | refine below_set ?_ GE490.out | refine below_set ?_ GE515.out) | exact HB.out)) hb); clear HO_9; clear HO_516000; clear HO_516001; clear HO_516002; clear HO523; clear HO526; clear HO529; clear BK490; clear BK515; clear HB; have HO_9 := n0_; have HO_516000 := n1_; have HO_516001 := n2_; have HO_516002 := n3_; have HO523 := n4_; have HO526 := n5_; have HO529 := n6_; have HO533 := n7_; have BK490 := n8_; have BK515 := n9_; have HB := n10_; clear n0_ n1_ n2_ n3_ n4_ n5_ n6_ n7_ n8_ n9_ n10_; (try clear hb); (try clear hb2); (try clear hk); (try clear hi); (try clear ho0); obtain ⟨Ao63, co63, eo63⟩ := Kd.R_slice HO533.out; subst eo63) | ((with_reducible refine gate_callee (f := 16) rfl ?_); refine goesL_ (some 54) rfl rfl Try.func16 (by kernel_rfl) rfl #[.slice Ao38 t516.length co38, .slice Ao63 t531.length co63] rfl (by (try simp only [List.map_toArray, List.map_cons, List.map_nil]); first | done | rfl | (simp only [List.length_drop, List.length_take]; rfl)) ?_; (with_reducible refine (laws_eqIntS.calls kj15 _ _ t516 _ _ t531 false _ ?side1 ?side2 ?side3 ?side4 A46.out).mono ?_); (case side1 => repeat (first | exact (Kd.R_reads' HO_9.out).2.2 | (with_reducible refine Kd.C_alloc ?_ _) | (with_reducible refine Kd.C_drewN ?_ _) | (with_reducible refine Kd.C_drew ?_))); (case side2 => exact (Kd.R_reads' HO_9.out).2.1); (case side3 => repeat (first | exact (Kd.R_reads' HO533.out).2.2 | (with_reducible refine Kd.C_alloc ?_ _) | (with_reducible refine Kd.C_drewN ?_ _) | (with_reducible refine Kd.C_drew ?_))); (case side4 => exact (Kd.R_reads' HO533.out).2.1); rintro e w' ⟨rfl, ⟨nd, rfl⟩⟩; refine ⟨_, rfl, ?_⟩))
        go_ret
        exact ⟨by first | rfl | (simp [errW_none, errW_some] <;> rfl) | (simp [*, errW_none, errW_some] <;> rfl), by repeat (first | (with_reducible first | exact HB.out | apply below_alloc | apply pw_below_drewN | apply below_drew1 | refine below_set ?_ GE490.out | refine below_set ?_ GE515.out) | exact HB.out)⟩
      ·replace c44 := Bool.eq_false_iff.mpr c44
       subst c44
       have H1 : (some false) = some r := by rw [if_neg (show ¬ (false = true) by decide)] at H; exact H
       clear H
       have H := H1
       clear H1
       obtain rfl := Option.some.inj H
       try go_wp2
       have n0_ := Aside0.mk (Kd.R_drew HO_9.out)
       have n1_ := Aside0.mk (Kd.S_drew HO_516000.out)
       have n2_ := Aside0.mk (Kd.S_drew HO_516001.out)
       have n3_ := Aside0.mk (Kd.R_drew HO_516002.out)
       have n4_ := Aside0.mk (blk_drew BK490.out)
       have n5_ := Aside0.mk (blk_drew BK515.out)
       have n6_ := Aside0.mk (below_drew1 HB.out)
       clear HO_9
       clear HO_516000
       clear HO_516001
       clear HO_516002
       clear BK490
       clear BK515
       clear HB
       have HO_9 := n0_
       have HO_516000 := n1_
       have HO_516001 := n2_
       have HO_516002 := n3_
       have BK490 := n4_
       have BK515 := n5_
       have HB := n6_
       clear n0_ n1_ n2_ n3_ n4_ n5_ n6_
       refine start_ (n := 5) (S := fun w' => w'.cell? ⟨gb515, 0, none⟩ = some (.slice Ao31 t506.length co31) ∧ w'.cell? ⟨gb515, 1, none⟩ = some (.slice Ao34 t509.length co34) ∧ w'.cell? ⟨gb515, 2, none⟩ = some (.slice Ao35 t512.length co35) ∧ w'.cell? ⟨gb490, 0, none⟩ = some (.slice A0_0 l0_0.length c0_0) ∧ w'.cell? ⟨gb490, 1, none⟩ = some (.slice A0_1 l0_1.length c0_1) ∧ w'.cell? ⟨gb490, 2, none⟩ = some (.slice A0_2 l0_2.length c0_2)) (ds := []) #[false, false, false, false, false] (by kernel_rfl) rfl rfl ⟨(blk_cell BK515.out 0).trans rfl, (blk_cell BK515.out 1).trans rfl, (blk_cell BK515.out 2).trans rfl, (blk_cell BK490.out 0).trans rfl, (blk_cell BK490.out 1).trans rfl, (blk_cell BK490.out 2).trans rfl⟩ (fun hHeld => ?_)
       generalize wc.drew = w64 at HO_9 HO_516000 HO_516001 HO_516002 BK490 BK515 HB hHeld ⊢
       refine take_ (i := 0) (N := some 46) (v := ?_) (a' := ?_) #[true, false, false, false, false] rfl rfl (by kernel_rfl) (fun _ _ _ h => h) (Or.inl ⟨by rfl, ?_⟩) hHeld ?_ ?_
       rotate_left
       ·rintro w' ⟨s0, s1, s2, s3, s4, s5⟩
        go_simp
        with_reducible rfl
       rotate_left
       ·simp only [Act.put, List.setIfInBounds_toArray, List.set_cons_zero, List.set_cons_succ, i64_w, i32_w]
        rfl
       refine take_ (i := 1) (N := some 47) (v := ?_) (a' := ?_) #[true, true, false, false, false] rfl rfl (by kernel_rfl) (fun _ _ _ h => h) (Or.inl ⟨by rfl, ?_⟩) hHeld ?_ ?_
       rotate_left
       ·rintro w' ⟨s0, s1, s2, s3, s4, s5⟩
        go_simp
        with_reducible rfl
       rotate_left
       ·simp only [Act.put, List.setIfInBounds_toArray, List.set_cons_zero, List.set_cons_succ, i64_w, i32_w]
        rfl
       refine one_ (i := 2) (N := some 48) #[true, true, true, false, false] rfl rfl (by kernel_rfl) (by decide) (fun K hK => ?_)
       refine goes_ Try.func19 (by kernel_rfl) rfl #[.agg #[.slice A0_0 l0_0.length c0_0, .slice A0_1 l0_1.length c0_1, .slice A0_2 l0_2.length c0_2]] (by rfl) rfl rfl (by (try simp only [List.map_toArray, List.map_cons, List.map_nil]); first | done | rfl | (simp only [List.length_drop, List.length_take]; rfl)) ?_
       with_reducible refine (laws_toWishes.calls kj15 _ _ l0_0 _ _ l0_1 _ _ l0_2 t521 t524 t527 _ ?side1 ?side2 ?side3 ?side4 ?side5 ?side6 A42.out).mono ?_
       (case side1 => repeat (first | exact (Kd.C_below HR0_0.out HB.out) | (with_reducible refine Kd.C_alloc ?_ _) | (with_reducible refine Kd.C_drewN ?_ _) | (with_reducible refine Kd.C_drew ?_)))
       (case side2 => exact HC0_0.out)
       (case side3 => repeat (first | exact (Kd.C_below HR0_1.out HB.out) | (with_reducible refine Kd.C_alloc ?_ _) | (with_reducible refine Kd.C_drewN ?_ _) | (with_reducible refine Kd.C_drew ?_)))
       (case side4 => exact HC0_1.out)
       (case side5 => repeat (first | exact (Kd.C_below HR0_2.out HB.out) | (with_reducible refine Kd.C_alloc ?_ _) | (with_reducible refine Kd.C_drewN ?_ _) | (with_reducible refine Kd.C_drew ?_)))
       (case side6 => exact HC0_2.out)
       rintro e w65 ⟨v522, v525, v528, rfl, ho0, ho1, ho2, hb⟩
       refine ⟨_, rfl, ?_⟩
       have n0_ := Aside0.mk (Kd.R_elder' (by (with_reducible repeat (first | apply Kd.R_alloc | apply Kd.R_drewN | apply Kd.R_drew)); exact HO_9.out) (Kd.R_base ho2) hb)
       have n1_ := Aside0.mk (Kd.S_mono (Kd.S_told (Kd.S_told (Kd.S_told (Kd.S_old (by (with_reducible repeat (first | apply Kd.S_alloc | apply Kd.S_drewN | apply Kd.S_drew)); exact HO_516000.out) hb) (Kd.S_base ho0)) (Kd.S_base ho1)) (Kd.R_base ho2)) (fun _ h_ => h_.1))
       have n2_ := Aside0.mk (Kd.S_mono (Kd.S_told (Kd.S_told (Kd.S_told (Kd.S_old (by (with_reducible repeat (first | apply Kd.S_alloc | apply Kd.S_drewN | apply Kd.S_drew)); exact HO_516001.out) hb) (Kd.S_base ho0)) (Kd.S_base ho1)) (Kd.R_base ho2)) (fun _ h_ => h_.1))
       have n3_ := Aside0.mk (Kd.R_elder' (by (with_reducible repeat (first | apply Kd.R_alloc | apply Kd.R_drewN | apply Kd.R_drew)); exact HO_516002.out) (Kd.R_base ho2) hb)
       have n4_ := Aside0.mk (Kd.S_lower (Kd.S_new' (Kd.S_new' (Kd.S_new' (Kd.S_new' ho0 (Kd.R_lt (by (with_reducible repeat (first | apply Kd.R_alloc | apply Kd.R_drewN | apply Kd.R_drew)); exact HO_9.out))) (Kd.S_lt (by (with_reducible repeat (first | apply Kd.S_alloc | apply Kd.S_drewN | apply Kd.S_drew)); exact HO_516000.out))) (Kd.S_lt (by (with_reducible repeat (first | apply Kd.S_alloc | apply Kd.S_drewN | apply Kd.S_drew)); exact HO_516001.out))) (Kd.R_lt (by (with_reducible repeat (first | apply Kd.R_alloc | apply Kd.R_drewN | apply Kd.R_drew)); exact HO_516002.out))) (below_size (by repeat (first | (with_reducible first | exact HB.out | apply below_alloc | apply pw_below_drewN | apply below_drew1 | refine below_set ?_ GE490.out | refine below_set ?_ GE515.out) | exact HB.out))))
       have n5_ := Aside0.mk (Kd.S_lower (Kd.S_new' (Kd.S_new' (Kd.S_new' (Kd.S_new' ho1 (Kd.R_lt (by (with_reducible repeat (first | apply Kd.R_alloc | apply Kd.R_drewN | apply Kd.R_drew)); exact HO_9.out))) (Kd.S_lt (by (with_reducible repeat (first | apply Kd.S_alloc | apply Kd.S_drewN | apply Kd.S_drew)); exact HO_516000.out))) (Kd.S_lt (by (with_reducible repeat (first | apply Kd.S_alloc | apply Kd.S_drewN | apply Kd.S_drew)); exact HO_516001.out))) (Kd.R_lt (by (with_reducible repeat (first | apply Kd.R_alloc | apply Kd.R_drewN | apply Kd.R_drew)); exact HO_516002.out))) (below_size (by repeat (first | (with_reducible first | exact HB.out | apply below_alloc | apply pw_below_drewN | apply below_drew1 | refine below_set ?_ GE490.out | refine below_set ?_ GE515.out) | exact HB.out))))
       have n6_ := Aside0.mk (Kd.R_lower (Kd.R_new' (Kd.R_new' ho2 (Kd.R_lt (by (with_reducible repeat (first | apply Kd.R_alloc | apply Kd.R_drewN | apply Kd.R_drew)); exact HO_9.out))) (Kd.R_lt (by (with_reducible repeat (first | apply Kd.R_alloc | apply Kd.R_drewN | apply Kd.R_drew)); exact HO_516002.out))) (below_size (by repeat (first | (with_reducible first | exact HB.out | apply below_alloc | apply pw_below_drewN | apply below_drew1 | refine below_set ?_ GE490.out | refine below_set ?_ GE515.out) | exact HB.out))))
       have n7_ := Aside0.mk (blk_below (g := gb490) (o := .cells #[.slice A0_0 l0_0.length c0_0, .slice A0_1 l0_1.length c0_1, .slice A0_2 l0_2.length c0_2] 30 (0, 0)) (by (with_reducible repeat (first | refine blk_drewN ?_ _ | refine blk_drew ?_ | refine blk_alloc ?_ _)); exact BK490.out) hb)
       have n8_ := Aside0.mk (blk_below (g := gb515) (o := .cells #[.slice Ao31 t506.length co31, .slice Ao34 t509.length co34, .slice Ao35 t512.length co35] 33 (0, 0)) (by (with_reducible repeat (first | refine blk_drewN ?_ _ | refine blk_drew ?_ | refine blk_alloc ?_ _)); exact BK515.out) hb)
       have n9_ := Aside0.mk (below_step (by repeat (first | (with_reducible first | exact HB.out | apply below_alloc | apply pw_below_drewN | apply below_drew1 | refine below_set ?_ GE490.out | refine below_set ?_ GE515.out) | exact HB.out)) hb)
       clear HO_9
       clear HO_516000
       clear HO_516001
       clear HO_516002
       clear BK490
       clear BK515
       clear HB
       have HO_9 := n0_
       have HO_516000 := n1_
       have HO_516001 := n2_
       have HO_516002 := n3_
       have HO523 := n4_
       have HO526 := n5_
       have HO529 := n6_
       have BK490 := n7_
       have BK515 := n8_
       have HB := n9_
       clear n0_ n1_ n2_ n3_ n4_ n5_ n6_ n7_ n8_ n9_
       (try clear hb)
       (try clear hb2)
       (try clear hk)
       (try clear hi)
       (try clear ho0)
       (try clear ho1)
       (try clear ho2)
       obtain ⟨Ao66, co66, eo66⟩ := Kd.S_slice HO523.out
       (first | subst eo66 | (injection eo66 with f1_ f2_ f3_; have f4_ := f1_.symm; have f5_ := f3_.symm; clear f1_ f2_ f3_; subst f4_; subst f5_))
       obtain ⟨Ao67, co67, eo67⟩ := Kd.S_slice HO526.out
       (first | subst eo67 | (injection eo67 with f1_ f2_ f3_; have f4_ := f1_.symm; have f5_ := f3_.symm; clear f1_ f2_ f3_; subst f4_; subst f5_))
       obtain ⟨Ao68, co68, eo68⟩ := Kd.R_slice HO529.out
       (first | subst eo68 | (injection eo68 with f1_ f2_ f3_; have f4_ := f1_.symm; have f5_ := f3_.symm; clear f1_ f2_ f3_; subst f4_; subst f5_))
       refine hK.out _ _ ⟨(blk_cell BK515.out 0).trans rfl, (blk_cell BK515.out 1).trans rfl, (blk_cell BK515.out 2).trans rfl, (blk_cell BK490.out 0).trans rfl, (blk_cell BK490.out 1).trans rfl, (blk_cell BK490.out 2).trans rfl⟩ (fun hHeld => ?_)
       clear hK K
       refine norm_ (a' := ?_) ?_ ?_
       rotate_left
       ·show Act.put _ (some 48) _ = _
        simp only [Act.put, List.setIfInBounds_toArray, List.set_cons_zero, List.set_cons_succ, i64_w, i32_w]
        rfl
       refine one_ (i := 3) (N := some 49) #[true, true, true, true, false] rfl rfl (by kernel_rfl) (by decide) (fun K hK => ?_)
       refine goes_ Try.func21 (by kernel_rfl) rfl #[.agg #[.slice Ao31 t506.length co31, .slice Ao34 t509.length co34, .slice Ao35 t512.length co35], .agg #[.slice Ao66 t521.length co66, .slice Ao67 t524.length co67, .slice Ao68 t527.length co68]] (by rfl) rfl rfl (by (try simp only [List.map_toArray, List.map_cons, List.map_nil]); first | done | rfl | (simp only [List.length_drop, List.length_take]; rfl)) ?_
       with_reducible refine (laws_eqWishes.calls kj15 _ _ t506 _ _ t509 _ _ t512 _ _ t521 _ _ t524 _ _ t527 false _ ?side1 ?side2 ?side3 ?side4 ?side5 ?side6 ?side7 ?side8 ?side9 ?side10 ?side11 ?side12 A43.out).mono ?_
       (case side1 => repeat (first | exact (Kd.S_reads' HO_516000.out).2.2 | (with_reducible refine Kd.C_alloc ?_ _) | (with_reducible refine Kd.C_drewN ?_ _) | (with_reducible refine Kd.C_drew ?_)))
       (case side2 => exact (Kd.S_reads' HO_516000.out).2.1)
       (case side3 => repeat (first | exact (Kd.S_reads' HO_516001.out).2.2 | (with_reducible refine Kd.C_alloc ?_ _) | (with_reducible refine Kd.C_drewN ?_ _) | (with_reducible refine Kd.C_drew ?_)))
       (case side4 => exact (Kd.S_reads' HO_516001.out).2.1)
       (case side5 => repeat (first | exact (Kd.R_reads' HO_516002.out).2.2 | (with_reducible refine Kd.C_alloc ?_ _) | (with_reducible refine Kd.C_drewN ?_ _) | (with_reducible refine Kd.C_drew ?_)))
       (case side6 => exact (Kd.R_reads' HO_516002.out).2.1)
       (case side7 => repeat (first | exact (Kd.S_reads' HO523.out).2.2 | (with_reducible refine Kd.C_alloc ?_ _) | (with_reducible refine Kd.C_drewN ?_ _) | (with_reducible refine Kd.C_drew ?_)))
       (case side8 => exact (Kd.S_reads' HO523.out).2.1)
       (case side9 => repeat (first | exact (Kd.S_reads' HO526.out).2.2 | (with_reducible refine Kd.C_alloc ?_ _) | (with_reducible refine Kd.C_drewN ?_ _) | (with_reducible refine Kd.C_drew ?_)))
       (case side10 => exact (Kd.S_reads' HO526.out).2.1)
       (case side11 => repeat (first | exact (Kd.R_reads' HO529.out).2.2 | (with_reducible refine Kd.C_alloc ?_ _) | (with_reducible refine Kd.C_drewN ?_ _) | (with_reducible refine Kd.C_drew ?_)))
       (case side12 => exact (Kd.R_reads' HO529.out).2.1)
       rintro e w69 ⟨rfl, hb⟩
       refine ⟨_, rfl, ?_⟩
       have n0_ := Aside0.mk (Kd.R_below (by (with_reducible repeat (first | apply Kd.R_alloc | apply Kd.R_drewN | apply Kd.R_drew)); exact HO_9.out) hb)
       have n1_ := Aside0.mk (Kd.S_below (by (with_reducible repeat (first | apply Kd.S_alloc | apply Kd.S_drewN | apply Kd.S_drew)); exact HO_516000.out) hb)
       have n2_ := Aside0.mk (Kd.S_below (by (with_reducible repeat (first | apply Kd.S_alloc | apply Kd.S_drewN | apply Kd.S_drew)); exact HO_516001.out) hb)
       have n3_ := Aside0.mk (Kd.R_below (by (with_reducible repeat (first | apply Kd.R_alloc | apply Kd.R_drewN | apply Kd.R_drew)); exact HO_516002.out) hb)
       have n4_ := Aside0.mk (Kd.S_below (by (with_reducible repeat (first | apply Kd.S_alloc | apply Kd.S_drewN | apply Kd.S_drew)); exact HO523.out) hb)
       have n5_ := Aside0.mk (Kd.S_below (by (with_reducible repeat (first | apply Kd.S_alloc | apply Kd.S_drewN | apply Kd.S_drew)); exact HO526.out) hb)
       have n6_ := Aside0.mk (Kd.R_below (by (with_reducible repeat (first | apply Kd.R_alloc | apply Kd.R_drewN | apply Kd.R_drew)); exact HO529.out) hb)
       have n7_ := Aside0.mk (blk_below (g := gb490) (o := .cells #[.slice A0_0 l0_0.length c0_0, .slice A0_1 l0_1.length c0_1, .slice A0_2 l0_2.length c0_2] 30 (0, 0)) (by (with_reducible repeat (first | refine blk_drewN ?_ _ | refine blk_drew ?_ | refine blk_alloc ?_ _)); exact BK490.out) hb)
       have n8_ := Aside0.mk (blk_below (g := gb515) (o := .cells #[.slice Ao31 t506.length co31, .slice Ao34 t509.length co34, .slice Ao35 t512.length co35] 33 (0, 0)) (by (with_reducible repeat (first | refine blk_drewN ?_ _ | refine blk_drew ?_ | refine blk_alloc ?_ _)); exact BK515.out) hb)
       have n9_ := Aside0.mk (below_step (by repeat (first | (with_reducible first | exact HB.out | apply below_alloc | apply pw_below_drewN | apply below_drew1 | refine below_set ?_ GE490.out | refine below_set ?_ GE515.out) | exact HB.out)) hb)
       clear HO_9
       clear HO_516000
       clear HO_516001
       clear HO_516002
       clear HO523
       clear HO526
       clear HO529
       clear BK490
       clear BK515
       clear HB
       have HO_9 := n0_
       have HO_516000 := n1_
       have HO_516001 := n2_
       have HO_516002 := n3_
       have HO523 := n4_
       have HO526 := n5_
       have HO529 := n6_
       have BK490 := n7_
       have BK515 := n8_
       have HB := n9_
       clear n0_ n1_ n2_ n3_ n4_ n5_ n6_ n7_ n8_ n9_
       (try clear hb)
       (try clear hb2)
       (try clear hk)
       (try clear hi)
       refine hK.out _ _ ⟨(blk_cell BK515.out 0).trans rfl, (blk_cell BK515.out 1).trans rfl, (blk_cell BK515.out 2).trans rfl, (blk_cell BK490.out 0).trans rfl, (blk_cell BK490.out 1).trans rfl, (blk_cell BK490.out 2).trans rfl⟩ (fun hHeld => ?_)
       clear hK K
       refine norm_ (a' := ?_) ?_ ?_
       rotate_left
       ·show Act.put _ (some 49) _ = _
        simp only [Act.put, List.setIfInBounds_toArray, List.set_cons_zero, List.set_cons_succ, i64_w, i32_w]
        rfl
       refine pure_ (i := 4) (N := some 50) (v := ?_) (a' := ?_) #[true, true, true, true, true] rfl rfl (by kernel_rfl) (fun _ _ _ h => h) (Or.inl ⟨by rfl, ?_⟩) ?_ ?_
       rotate_left
       ·intro w'
        go_simp
        with_reducible rfl
       rotate_left
       ·simp only [Act.put, List.setIfInBounds_toArray, List.set_cons_zero, List.set_cons_succ, i64_w, i32_w]
        rfl
       refine done_ (by kernel_rfl) ?_
       try go_wp2
       go_ret
       exact ⟨by first | rfl | (simp [errW_none, errW_some] <;> rfl) | (simp [*, errW_none, errW_some] <;> rfl), by repeat (first | (with_reducible first | exact HB.out | apply below_alloc | apply pw_below_drewN | apply below_drew1 | refine below_set ?_ GE490.out | refine below_set ?_ GE515.out) | exact HB.out)⟩
end Go.Proofs.Ytoipbblhmcpneaa.P

namespace Go.Proofs.Ytoipbblhmcpneaa.P
open Go.RowKit Go.Proofs.YtoipbblhmcpneaaW.PrintWords Go.Proofs.YtoipbblhmcpneaaW.PrintLast
def wfS30 (s : S30) : Prop := (fun l : List (List Int) => l.length ≤ maxLen ∧ ∀ x ∈ l, (fun l : List Int => l.length ≤ maxLen ∧ ∀ x ∈ l, (fun n : Int => (Lit.int .i64 n).wf = true) x) x) s.f0 ∧ (fun l : List (List Int) => l.length ≤ maxLen ∧ ∀ x ∈ l, (fun l : List Int => l.length ≤ maxLen ∧ ∀ x ∈ l, (fun n : Int => (Lit.int .i64 n).wf = true) x) x) s.f1 ∧ (fun l : List Int => l.length ≤ maxLen ∧ ∀ x ∈ l, (fun n : Int => (Lit.int .i64 n).wf = true) x) s.f2
/-- The one pure statement of laws_FnExactIsStable. -/
def laws_FnExactIsStable.Pure : Prop := ∀ (s0 : S30) (l1 : List Int), wfS30 s0 → (fun l : List Int => l.length ≤ maxLen ∧ ∀ x ∈ l, (fun n : Int => (Lit.int .i64 n).wf = true) x) l1 → ∃ k, laws_FnExactIsStable.f k s0.f0 s0.f1 s0.f2 l1 = some true
end Go.Proofs.Ytoipbblhmcpneaa.P

namespace Go.Proofs.Ytoipbblhmcpneaa.P
open Go.RowKit Go.Proofs.YtoipbblhmcpneaaW.PrintWords
set_option linter.unusedVariables false
set_option linter.unusedSimpArgs false
theorem wrap_id {x : Int} (h0 : -9223372036854775808 ≤ x) (h1 : x ≤ 9223372036854775807) : wrap64 x = x := by unfold wrap64; omega
theorem Ev.succ {α : Type} {g : Nat → Option α} {r : α} (h : Ev (fun k => g (k + 1)) r) : Ev g r := Ev.step (fun _ => rfl) h
theorem Ev.some_ {α : Type} {r s : α} (h : r = s) : Ev (fun _ => some r) s := h ▸ Ev.now r
theorem getD_mid {α : Type} (d : α) (pre : List α) (x : α) (suf : List α) : (pre ++ x :: suf).getD ((pre.length : Int)).toNat d = x := by simp
theorem set_mid {α : Type} (pre : List α) (x y : α) (suf : List α) : (pre ++ x :: suf).set ((pre.length : Int)).toNat y = pre ++ y :: suf := by simp
theorem app_one {α : Type} (pre : List α) (x : α) (suf : List α) : pre ++ x :: suf = (pre ++ [x]) ++ suf := by simp
theorem len_mid {α : Type} (pre : List α) (x : α) (suf : List α) : ((pre ++ x :: suf).length : Int) = pre.length + suf.length + 1 := by simp; omega
theorem len_one {α : Type} (pre : List α) (x : α) : ((pre ++ [x]).length : Int) = pre.length + 1 := by simp
end Go.Proofs.Ytoipbblhmcpneaa.P

namespace Go.Proofs.Ytoipbblhmcpneaa.P
open Go.RowKit Go.Proofs.YtoipbblhmcpneaaW.PrintWords Go.Proofs.YtoipbblhmcpneaaW.PrintLast
set_option linter.unusedVariables false
set_option linter.unusedSimpArgs false
theorem rd_mid (pre : List Int) (x : Int) (suf : List Int) : rd (pre ++ x :: suf) (pre.length : Int) = x := getD_mid _ pre x suf
theorem eqIntS_l (s : List Int) : ∀ (t pre qre : List Int) (k : Nat), s.length < k → pre.length = qre.length → s.length = t.length → (pre.length : Int) + s.length ≤ 1099511627776 →
  laws_eqIntS.l0 k (pre ++ s) (qre ++ t) (pre.length : Int) = some (decide (s = t)) := by
 induction s with
 | nil =>
  intro t pre qre k hk hq hl hb
  obtain ⟨k, rfl⟩ : ∃ m, k = m + 1 := ⟨k - 1, by omega⟩
  obtain rfl : t = [] := List.eq_nil_of_length_eq_zero (by simpa using hl.symm)
  simp only [laws_eqIntS.l0]
  rw [if_neg (by simp)]
  simp
 | cons x s ih =>
  intro t pre qre k hk hq hl hb
  cases t with
  | nil => simp at hl
  | cons y t =>
   simp only [List.length_cons] at hk hl hb
   obtain ⟨k, rfl⟩ : ∃ m, k = m + 1 := ⟨k - 1, by omega⟩
   have h := ih t (pre ++ [x]) (qre ++ [y]) k (by omega) (by simp; omega) (by omega) (by simp; omega)
   have hy : rd (qre ++ y :: t) (pre.length : Int) = y := by rw [hq]; exact rd_mid qre y t
   simp only [laws_eqIntS.l0]
   rw [if_pos (by simp <;> omega), if_pos (by omega), if_pos (by simp <;> omega), rd_mid, hy, wrap_id (by omega) (by omega)]
   by_cases e : x = y
   ·subst e
    rw [if_pos rfl]
    simpa using h
   ·rw [if_neg e]
    simp [e]
theorem eqIntS_ev (s t : List Int) (hs : s.length ≤ 1099511627776) : Ev (fun k => laws_eqIntS.f k s t) (decide (s = t)) := by
 refine ⟨s.length + 1, fun k hk => ?_⟩
 show laws_eqIntS.f k s t = _
 unfold laws_eqIntS.f
 by_cases hl : s.length = t.length
 ·rw [if_pos (by omega)]
  exact eqIntS_l s t [] [] k (by omega) rfl hl (by simp; omega)
 ·rw [if_neg (by omega)]
  have : s ≠ t := fun e => hl (by rw [e])
  simp [this]
end Go.Proofs.Ytoipbblhmcpneaa.P

namespace Go.Proofs.Ytoipbblhmcpneaa.P
open Go.RowKit Go.Proofs.YtoipbblhmcpneaaW.PrintWords Go.Proofs.YtoipbblhmcpneaaW.PrintLast
set_option linter.unusedVariables false
set_option linter.unusedSimpArgs false
-- a list taken over
theorem toIntS_l (suf : List Int) : ∀ (pre : List Int), ((pre ++ suf).length : Int) ≤ 1099511627776 → Ev (fun k => laws_toIntS.l0 k (pre ++ suf) (pre ++ List.replicate suf.length 0) pre.length) (pre ++ suf) := by
 induction suf with
 | nil =>
  intro pre h
  refine Ev.succ ?_
  simp only [laws_toIntS.l0, List.append_nil, Int.lt_irrefl, if_false, List.length_nil, List.replicate_zero]
  exact Ev.now _
 | cons x suf ih =>
  intro pre h
  refine Ev.succ ?_
  rw [len_mid] at h
  have := ih (pre ++ [x]) (by rw [← app_one, len_mid]; exact h)
  rw [← app_one, len_one] at this
  have hr : ((pre ++ List.replicate (x :: suf).length (0 : Int)).length : Int) = pre.length + suf.length + 1 := by simp; omega
  simp only [laws_toIntS.l0]
  simp only [len_mid, hr, if_pos (show ((pre.length : Int) < pre.length + suf.length + 1) by omega), if_pos (show (0 : Int) ≤ pre.length by omega), rd_mid, wrap_id (show (-9223372036854775808 : Int) ≤ pre.length + 1 by omega) (show ((pre.length : Int) + 1 ≤ 9223372036854775807) by omega)]
  rw [List.length_cons, List.replicate_succ, set_mid, app_one pre x (List.replicate suf.length 0)]
  exact this
theorem toIntS_ev (l : List Int) (hl : l.length ≤ 1048576) : Ev (fun k => laws_toIntS.f k l) l := by
 unfold laws_toIntS.f
 simp only [if_pos (show (0 : Int) ≤ (l.length : Int) by omega), Int.toNat_natCast, if_pos (show l.length ≤ 35184372088832 by omega)]
 have := toIntS_l l [] (by simp only [List.nil_append]; omega)
 exact this
end Go.Proofs.Ytoipbblhmcpneaa.P

namespace Go.Proofs.Ytoipbblhmcpneaa.P
open Go.RowKit Go.Proofs.YtoipbblhmcpneaaW.PrintWords Go.Proofs.YtoipbblhmcpneaaW.PrintLast
set_option linter.unusedVariables false
set_option linter.unusedSimpArgs false
-- rows of numbers: sizes, copies, comparisons
theorem rdSS_mid (pre : List (List Int)) (x : List Int) (suf : List (List Int)) : rd_L1 (pre ++ x :: suf) (pre.length : Int) = x := getD_mid _ pre x suf
theorem szIntS_is (l : List Int) (hl : l.length ≤ maxLen) (a : Int) (h0 : 0 ≤ a) (h1 : a ≤ 1048576) : laws_szIntS.f l a = some (if a - l.length < 0 then -1 else a - l.length) := by
 have hm : l.length ≤ 9223372036854775807 := by unfold maxLen at hl; exact hl
 unfold laws_szIntS.f
 rw [wrap_id (by omega) (by omega)]
 split <;> rfl
def szGo : List (List Int) → Int → Int
 | [], a => a
 | x :: r, a => if a - x.length < 0 then -1 else szGo r (a - x.length)
theorem szGo_le : ∀ (l : List (List Int)) (a : Int), 0 ≤ a → szGo l a ≤ a ∧ (¬ szGo l a < 0 → ∀ x ∈ l, (x.length : Int) ≤ a)
 | [], a, h => ⟨Int.le_refl _, fun _ x hx => by simp at hx⟩
 | y :: r, a, h => by
  rw [szGo]
  by_cases h1 : a - y.length < 0
  ·rw [if_pos h1]
   exact ⟨by omega, fun hc => absurd (by omega) hc⟩
  ·rw [if_neg h1]
   have h2 := szGo_le r (a - y.length) (by omega)
   refine ⟨by omega, fun hc x hx => ?_⟩
   rcases List.mem_cons.1 hx with rfl | hx
   ·omega
   ·have := h2.2 hc x hx
    omega
theorem szIntSS_l (suf : List (List Int)) : ∀ (pre : List (List Int)) (a : Int), ((pre ++ suf).length : Int) ≤ 1099511627776 → (∀ x ∈ suf, x.length ≤ maxLen) → 0 ≤ a → a ≤ 1048576 → Ev (fun k => laws_szIntSS.l0 k (pre ++ suf) a pre.length) (szGo suf a) := by
 induction suf with
 | nil =>
  intro pre a h hm h0 h1
  refine Ev.succ ?_
  simp only [laws_szIntSS.l0, List.append_nil, Int.lt_irrefl, if_false, szGo]
  exact Ev.now _
 | cons x suf ih =>
  intro pre a h hm h0 h1
  refine Ev.succ ?_
  rw [len_mid] at h
  have hx := hm x (List.mem_cons_self ..)
  simp only [laws_szIntSS.l0, len_mid, rdSS_mid, if_pos (show ((pre.length : Int) < pre.length + suf.length + 1) by omega), if_pos (show (0 : Int) ≤ pre.length by omega), wrap_id (show (-9223372036854775808 : Int) ≤ pre.length + 1 by omega) (show ((pre.length : Int) + 1 ≤ 9223372036854775807) by omega)]
  rw [szIntS_is x hx a h0 h1, szGo]
  simp only [Option.bind_some]
  by_cases h2 : a - x.length < 0
  ·simp only [if_pos h2, if_pos (show (-1 : Int) < 0 by omega)]
   exact Ev.now _
  ·simp only [if_neg h2]
   have := ih (pre ++ [x]) (a - x.length) (by rw [← app_one, len_mid]; exact h) (fun y hy => hm y (List.mem_cons_of_mem _ hy)) (by omega) (by omega)
   rw [← app_one, len_one] at this
   exact this
def szSS (l : List (List Int)) (a : Int) : Int := if a - l.length < 0 then -1 else szGo l (a - l.length)
theorem szIntSS_ev (l : List (List Int)) (hl : l.length ≤ maxLen) (hm : ∀ x ∈ l, x.length ≤ maxLen) (a : Int) (h0 : 0 ≤ a) (h1 : a ≤ 1048576) : Ev (fun k => laws_szIntSS.f k l a) (szSS l a) := by
 have hm' : l.length ≤ 9223372036854775807 := by unfold maxLen at hl; exact hl
 unfold laws_szIntSS.f szSS
 rw [wrap_id (by omega) (by omega)]
 by_cases h2 : a - l.length < 0
 ·simp only [if_pos h2]
  exact Ev.now _
 ·simp only [if_neg h2]
  exact szIntSS_l l [] (a - l.length) (by simp only [List.nil_append]; omega) hm (by omega) (by omega)
theorem szSS_le (l : List (List Int)) (a : Int) (h0 : 0 ≤ a) : szSS l a ≤ a ∧ (¬ szSS l a < 0 → (l.length : Int) ≤ a ∧ ∀ x ∈ l, (x.length : Int) ≤ a) := by
 unfold szSS
 by_cases h2 : a - l.length < 0
 ·rw [if_pos h2]
  exact ⟨by omega, fun hc => absurd (by omega) hc⟩
 ·rw [if_neg h2]
  have := szGo_le l (a - l.length) (by omega)
  exact ⟨by omega, fun hc => ⟨by omega, fun x hx => by have := this.2 hc x hx; omega⟩⟩
theorem toIntSS_l (suf : List (List Int)) (hs : ∀ x ∈ suf, x.length ≤ 1048576) : ∀ (pre : List (List Int)), ((pre ++ suf).length : Int) ≤ 1099511627776 → Ev (fun k => laws_toIntSS.l0 k (pre ++ suf) (pre ++ List.replicate suf.length []) pre.length) (pre ++ suf) := by
 induction suf with
 | nil =>
  intro pre h
  refine Ev.succ ?_
  simp only [laws_toIntSS.l0, List.append_nil, Int.lt_irrefl, if_false, List.length_nil, List.replicate_zero]
  exact Ev.now _
 | cons x suf ih =>
  intro pre h
  refine Ev.succ ?_
  rw [len_mid] at h
  have := ih (fun y hy => hs y (List.mem_cons_of_mem _ hy)) (pre ++ [x]) (by rw [← app_one, len_mid]; exact h)
  rw [← app_one, len_one] at this
  have hr : ((pre ++ List.replicate (x :: suf).length ([] : List Int)).length : Int) = pre.length + suf.length + 1 := by simp; omega
  simp only [laws_toIntSS.l0]
  simp only [len_mid, hr, if_pos (show ((pre.length : Int) < pre.length + suf.length + 1) by omega), if_pos (show (0 : Int) ≤ pre.length by omega), rdSS_mid, wrap_id (show (-9223372036854775808 : Int) ≤ pre.length + 1 by omega) (show ((pre.length : Int) + 1 ≤ 9223372036854775807) by omega)]
  refine Ev.bind (toIntS_ev x (hs x (List.mem_cons_self ..))) ?_
  rw [List.length_cons, List.replicate_succ, set_mid, app_one pre x (List.replicate suf.length [])]
  exact this
theorem toIntSS_ev (l : List (List Int)) (hl : l.length ≤ 1048576) (hs : ∀ x ∈ l, x.length ≤ 1048576) : Ev (fun k => laws_toIntSS.f k l) l := by
 unfold laws_toIntSS.f
 simp only [if_pos (show (0 : Int) ≤ (l.length : Int) by omega), Int.toNat_natCast, if_pos (show l.length ≤ 11728124029610 by omega)]
 have := toIntSS_l l hs [] (by simp only [List.nil_append]; omega)
 exact this
theorem eqSame_l (suf : List (List Int)) (hs : ∀ x ∈ suf, x.length ≤ 1048576) : ∀ (pre : List (List Int)), ((pre ++ suf).length : Int) ≤ 1099511627776 → Ev (fun k => laws_eqIntSS.l0 k (pre ++ suf) (pre ++ suf) pre.length) true := by
 induction suf with
 | nil =>
  intro pre h
  refine Ev.succ ?_
  simp only [laws_eqIntSS.l0, List.append_nil, Int.lt_irrefl, if_false]
  exact Ev.now _
 | cons x suf ih =>
  intro pre h
  refine Ev.succ ?_
  rw [len_mid] at h
  have := ih (fun y hy => hs y (List.mem_cons_of_mem _ hy)) (pre ++ [x]) (by rw [← app_one, len_mid]; exact h)
  rw [← app_one, len_one] at this
  have hx := hs x (List.mem_cons_self ..)
  simp only [laws_eqIntSS.l0]
  simp only [len_mid, if_pos (show ((pre.length : Int) < pre.length + suf.length + 1) by omega), if_pos (show (0 : Int) ≤ pre.length by omega), rdSS_mid, wrap_id (show (-9223372036854775808 : Int) ≤ pre.length + 1 by omega) (show ((pre.length : Int) + 1 ≤ 9223372036854775807) by omega)]
  refine Ev.bind (eqIntS_ev x x (by omega)) ?_
  simp only [decide_true, if_true]
  exact this
theorem eqSame_ev (l : List (List Int)) (hl : l.length ≤ 1048576) (hs : ∀ x ∈ l, x.length ≤ 1048576) : Ev (fun k => laws_eqIntSS.f k l l) true := by
 unfold laws_eqIntSS.f
 simp only [if_true]
 exact eqSame_l l hs [] (by simp only [List.nil_append]; omega)
end Go.Proofs.Ytoipbblhmcpneaa.P

namespace Go.Proofs.Ytoipbblhmcpneaa.P
open Go.RowKit Go.Proofs.YtoipbblhmcpneaaW.PrintWords Go.Proofs.YtoipbblhmcpneaaW.PrintLast
set_option linter.unusedVariables false
set_option linter.unusedSimpArgs false
-- the place of a number in a list, both sides
def placeGo (x : Int) : List Int → Int → Option Int
 | [], _ => none
 | y :: r, i => if y = x then some i else placeGo x r (i + 1)
theorem has_l (x : Int) (suf : List Int) : ∀ (pre : List Int), ((pre ++ suf).length : Int) ≤ 1099511627776 → Ev (fun k => spec_l1Has.l0 k x (pre ++ suf) ((pre ++ suf).length : Int) pre.length) (placeGo x suf pre.length).isSome := by
 induction suf with
 | nil =>
  intro pre h
  refine Ev.succ ?_
  simp only [spec_l1Has.l0, List.append_nil, Int.lt_irrefl, if_false, placeGo, Option.isSome_none]
  exact Ev.now _
 | cons y suf ih =>
  intro pre h
  refine Ev.succ ?_
  rw [len_mid] at h ⊢
  have := ih (pre ++ [y]) (by rw [← app_one, len_mid]; exact h)
  rw [← app_one, len_mid, len_one] at this
  simp only [spec_l1Has.l0, placeGo]
  simp only [if_pos (show ((pre.length : Int) < pre.length + suf.length + 1) by omega), if_pos (show (0 : Int) ≤ pre.length by omega), len_mid, rd_mid, wrap_id (show (-9223372036854775808 : Int) ≤ pre.length + 1 by omega) (show ((pre.length : Int) + 1 ≤ 9223372036854775807) by omega)]
  by_cases h1 : y = x
  ·simp only [if_pos h1, Option.isSome_some]
   exact Ev.now _
  ·simp only [if_neg h1]
   exact this
theorem place_l (l : List Int) (x : Int) (suf : List Int) : ∀ (pre : List Int), ((pre ++ suf).length : Int) ≤ 1099511627776 → Ev (fun k => spec_l12Place.l0 k l x (pre ++ suf) ((pre ++ suf).length : Int) pre.length) ((placeGo x suf pre.length).getD (l.length : Int)) := by
 induction suf with
 | nil =>
  intro pre h
  refine Ev.succ ?_
  simp only [spec_l12Place.l0, List.append_nil, Int.lt_irrefl, if_false, placeGo, Option.getD_none]
  exact Ev.now _
 | cons y suf ih =>
  intro pre h
  refine Ev.succ ?_
  rw [len_mid] at h ⊢
  have := ih (pre ++ [y]) (by rw [← app_one, len_mid]; exact h)
  rw [← app_one, len_mid, len_one] at this
  simp only [spec_l12Place.l0, placeGo]
  simp only [if_pos (show ((pre.length : Int) < pre.length + suf.length + 1) by omega), if_pos (show (0 : Int) ≤ pre.length by omega), len_mid, rd_mid, wrap_id (show (-9223372036854775808 : Int) ≤ pre.length + 1 by omega) (show ((pre.length : Int) + 1 ≤ 9223372036854775807) by omega)]
  by_cases h1 : y = x
  ·simp only [if_pos h1, Option.getD_some]
   exact Ev.now _
  ·simp only [if_neg h1]
   exact this
theorem index_l (x : Int) (suf : List Int) : ∀ (pre : List Int), ((pre ++ suf).length : Int) ≤ 1099511627776 → Ev (fun k => slices_Index_int.l0 k (pre ++ suf) x ((pre ++ suf).length : Int) pre.length) ((placeGo x suf pre.length).getD (-1)) := by
 induction suf with
 | nil =>
  intro pre h
  refine Ev.succ ?_
  simp only [slices_Index_int.l0, List.append_nil, Int.lt_irrefl, if_false, placeGo, Option.getD_none]
  exact Ev.now _
 | cons y suf ih =>
  intro pre h
  refine Ev.succ ?_
  rw [len_mid] at h ⊢
  have := ih (pre ++ [y]) (by rw [← app_one, len_mid]; exact h)
  rw [← app_one, len_mid, len_one] at this
  simp only [slices_Index_int.l0, placeGo]
  simp only [if_pos (show ((pre.length : Int) < pre.length + suf.length + 1) by omega), if_pos (show (0 : Int) ≤ pre.length by omega), len_mid, rd_mid, wrap_id (show (-9223372036854775808 : Int) ≤ pre.length + 1 by omega) (show ((pre.length : Int) + 1 ≤ 9223372036854775807) by omega)]
  by_cases h1 : y = x
  ·simp only [if_pos h1, if_pos h1.symm, Option.getD_some]
   exact Ev.now _
  ·simp only [if_neg h1, if_neg (fun hc => h1 (Eq.symm hc))]
   exact this
theorem placeGo_ge (x : Int) : ∀ (l : List Int) (i r : Int), placeGo x l i = some r → i ≤ r
 | [], _, _, h => by cases h
 | y :: l, i, r, h => by
  rw [placeGo] at h
  split at h
  ·cases h
   omega
  ·have := placeGo_ge x l (i + 1) r h
   omega
theorem has_ev (x : Int) (l : List Int) (h : (l.length : Int) ≤ 1099511627776) : Ev (fun k => spec_l1Has.f k l x) (placeGo x l 0).isSome := by
 have := has_l x l [] h
 exact this
theorem place_ev (x : Int) (l : List Int) (h : (l.length : Int) ≤ 1099511627776) : Ev (fun k => spec_l12Place.f k l x) ((placeGo x l 0).getD (l.length : Int)) := by
 have := place_l l x l [] h
 exact this
theorem index_ev (x : Int) (l : List Int) (h : (l.length : Int) ≤ 1099511627776) : Ev (fun k => slices_Index_int.f k l x) ((placeGo x l 0).getD (-1)) := by
 have := index_l x l [] h
 exact this
end Go.Proofs.Ytoipbblhmcpneaa.P

namespace Go.Proofs.Ytoipbblhmcpneaa.P
open Go.RowKit Go.Proofs.YtoipbblhmcpneaaW.PrintWords Go.Proofs.YtoipbblhmcpneaaW.PrintLast
set_option linter.unusedVariables false
set_option linter.unusedSimpArgs false
-- sweeps over a list of numbers, and a list taken over, both sides
theorem specIn (a b c : Int) : spec_l1In.f a b c = some (decide (b ≤ a ∧ a ≤ c)) := by
 unfold spec_l1In.f
 by_cases h : a ≥ b
 ·rw [if_pos h]
  congr 1
  by_cases h2 : a ≤ c
  ·rw [decide_eq_true h2, decide_eq_true ⟨h, h2⟩]
  ·rw [decide_eq_false h2, decide_eq_false (fun hc => h2 hc.2)]
 ·rw [if_neg h, decide_eq_false (fun hc => h hc.1)]
theorem implIn (a b c : Int) : impl_in.f a b c = some (decide (b ≤ a ∧ a ≤ c)) := specIn a b c
def allIn (a b : Int) (l : List Int) : Bool := l.all fun x => decide (a ≤ x ∧ x ≤ b)
theorem implAll_l (a b : Int) (suf : List Int) : ∀ (pre : List Int), ((pre ++ suf).length : Int) ≤ 1099511627776 → Ev (fun k => impl_allIn.l0 k a b (pre ++ suf) ((pre ++ suf).length : Int) pre.length) (allIn a b suf) := by
 induction suf with
 | nil =>
  intro pre h
  refine Ev.succ ?_
  simp only [impl_allIn.l0, List.append_nil, Int.lt_irrefl, if_false]
  exact Ev.now _
 | cons x suf ih =>
  intro pre h
  refine Ev.succ ?_
  rw [len_mid] at h ⊢
  simp only [impl_allIn.l0]
  simp only [if_pos (show ((pre.length : Int) < pre.length + suf.length + 1) by omega), if_pos (show (0 : Int) ≤ pre.length by omega), len_mid, rd_mid, implIn, Option.bind_some, wrap_id (show (-9223372036854775808 : Int) ≤ pre.length + 1 by omega) (show ((pre.length : Int) + 1 ≤ 9223372036854775807) by omega)]
  by_cases hx : a ≤ x ∧ x ≤ b
  ·have := ih (pre ++ [x]) (by rw [← app_one, len_mid]; exact h)
   rw [← app_one, len_mid, len_one] at this
   simp only [hx, and_self, decide_true, if_true]
   rw [show allIn a b (x :: suf) = allIn a b suf by simp [allIn, hx]]
   exact this
  ·simp only [decide_eq_true_eq, if_neg hx]
   rw [show allIn a b (x :: suf) = false by simp [allIn]; intro h1 h2; exact absurd ⟨h1, h2⟩ hx]
   exact Ev.now _
theorem implAll_ev (a b : Int) (l : List Int) (h : (l.length : Int) ≤ 1099511627776) : Ev (fun k => impl_allIn.f k l a b) (allIn a b l) := by
 have := implAll_l a b l [] h
 exact this
end Go.Proofs.Ytoipbblhmcpneaa.P

namespace Go.Proofs.Ytoipbblhmcpneaa.P
open Go.RowKit Go.Proofs.YtoipbblhmcpneaaW.PrintWords Go.Proofs.YtoipbblhmcpneaaW.PrintLast
set_option linter.unusedVariables false
set_option linter.unusedSimpArgs false
-- the given sweep over a list of numbers
theorem specAll_l (a b : Int) (suf : List Int) : ∀ (pre : List Int), ((pre ++ suf).length : Int) ≤ 1099511627776 → Ev (fun k => spec_l1All.l0 k a b (pre ++ suf) ((pre ++ suf).length : Int) pre.length) (allIn a b suf) := by
 induction suf with
 | nil =>
  intro pre h
  refine Ev.succ ?_
  simp only [spec_l1All.l0, List.append_nil, Int.lt_irrefl, if_false]
  exact Ev.now _
 | cons x suf ih =>
  intro pre h
  refine Ev.succ ?_
  rw [len_mid] at h ⊢
  simp only [spec_l1All.l0]
  simp only [if_pos (show ((pre.length : Int) < pre.length + suf.length + 1) by omega), if_pos (show (0 : Int) ≤ pre.length by omega), len_mid, rd_mid, specIn, Option.bind_some, wrap_id (show (-9223372036854775808 : Int) ≤ pre.length + 1 by omega) (show ((pre.length : Int) + 1 ≤ 9223372036854775807) by omega)]
  by_cases hx : a ≤ x ∧ x ≤ b
  ·have := ih (pre ++ [x]) (by rw [← app_one, len_mid]; exact h)
   rw [← app_one, len_mid, len_one] at this
   simp only [hx, and_self, decide_true, if_true]
   rw [show allIn a b (x :: suf) = allIn a b suf by simp [allIn, hx]]
   exact this
  ·simp only [decide_eq_true_eq, if_neg hx]
   rw [show allIn a b (x :: suf) = false by simp [allIn]; intro h1 h2; exact absurd ⟨h1, h2⟩ hx]
   exact Ev.now _
theorem specAll_ev (a b : Int) (l : List Int) (h : (l.length : Int) ≤ 1099511627776) : Ev (fun k => spec_l1All.f k l a b) (allIn a b l) := by
 have := specAll_l a b l [] h
 exact this
end Go.Proofs.Ytoipbblhmcpneaa.P

namespace Go.Proofs.Ytoipbblhmcpneaa.P
open Go.RowKit Go.Proofs.YtoipbblhmcpneaaW.PrintWords Go.Proofs.YtoipbblhmcpneaaW.PrintLast
set_option linter.unusedVariables false
set_option linter.unusedSimpArgs false
-- good wishes, both sides
structure okW (f0 f1 : List (List Int)) (f2 : List Int) : Prop where
 a0 : f0.length ≤ 1048576
 a1 : f1.length ≤ 1048576
 a2 : f2.length ≤ 1048576
 b0 : ∀ x ∈ f0, x.length ≤ 1048576
 b1 : ∀ x ∈ f1, x.length ≤ 1048576
theorem szWishes_ev (f0 f1 : List (List Int)) (f2 : List Int) (h0 : f0.length ≤ maxLen) (h0' : ∀ x ∈ f0, x.length ≤ maxLen) (h1 : f1.length ≤ maxLen) (h1' : ∀ x ∈ f1, x.length ≤ maxLen) (h2 : f2.length ≤ maxLen) :
  ∃ r, Ev (fun k => laws_szWishes.f k f0 f1 f2 1048576) r ∧ (¬ r < 0 → okW f0 f1 f2) := by
 unfold laws_szWishes.f
 have e0 := szIntSS_ev f0 h0 h0' 1048576 (by omega) (by omega)
 have l0 := szSS_le f0 1048576 (by omega)
 generalize szSS f0 1048576 = r0 at e0 l0
 by_cases c0 : r0 < 0
 ·refine ⟨-1, Ev.bind e0 ?_, fun h => absurd (by omega) h⟩
  simp only [if_pos c0]
  exact Ev.now _
 have e1 := szIntSS_ev f1 h1 h1' r0 (by omega) (by omega)
 have l1 := szSS_le f1 r0 (by omega)
 generalize szSS f1 r0 = r1 at e1 l1
 by_cases c1 : r1 < 0
 ·refine ⟨-1, Ev.bind e0 ?_, fun h => absurd (by omega) h⟩
  simp only [if_neg c0]
  refine Ev.bind e1 ?_
  simp only [if_pos c1]
  exact Ev.now _
 have e2 := szIntS_is f2 h2 r1 (by omega) (by omega)
 by_cases c2 : r1 - f2.length < 0
 ·refine ⟨-1, Ev.bind e0 ?_, fun h => absurd (by omega) h⟩
  simp only [if_neg c0]
  refine Ev.bind e1 ?_
  simp only [if_neg c1, e2, Option.bind_some, if_pos c2, if_pos (show (-1 : Int) < 0 by omega)]
  exact Ev.now _
 ·refine ⟨r1 - f2.length, Ev.bind e0 ?_, fun _ => ⟨by have := (l0.2 c0).1; omega, by have := (l1.2 c1).1; omega, by omega, fun x hx => by have := (l0.2 c0).2 x hx; omega, fun x hx => by have := (l1.2 c1).2 x hx; omega⟩⟩
  simp only [if_neg c0]
  refine Ev.bind e1 ?_
  simp only [if_neg c1, e2, Option.bind_some, if_neg c2]
  exact Ev.now _
theorem toWishes_ev {f0 f1 : List (List Int)} {f2 : List Int} (h : okW f0 f1 f2) : Ev (fun k => laws_toWishes.f k f0 f1 f2) (f0, f1, f2) := by
 unfold laws_toWishes.f
 refine Ev.bind (toIntSS_ev f0 h.a0 h.b0) ?_
 refine Ev.bind (toIntSS_ev f1 h.a1 h.b1) ?_
 refine Ev.bind (toIntS_ev f2 h.a2) ?_
 exact Ev.now _
theorem eqWishes_ev {f0 f1 : List (List Int)} {f2 : List Int} (h : okW f0 f1 f2) : Ev (fun k => laws_eqWishes.f k f0 f1 f2 f0 f1 f2) true := by
 unfold laws_eqWishes.f
 refine Ev.bind (eqSame_ev f0 h.a0 h.b0) ?_
 simp only [if_true]
 refine Ev.bind (eqSame_ev f1 h.a1 h.b1) ?_
 simp only [if_true]
 refine Ev.bind (eqIntS_ev f2 f2 (by have := h.a2; omega)) ?_
 simp only [decide_true, if_true]
 exact Ev.now _
def dupGo : List Int → List Int → Bool
 | _, [] => true
 | pre, x :: r => !(placeGo x pre 0).isSome && dupGo (pre ++ [x]) r
def rowOk (m : Int) (l : List Int) : Bool := decide ((l.length : Int) = m) && (allIn 0 (m - 1) l && dupGo [] l)
theorem l12All_l (m : Int) (h0 : 0 ≤ m) (h1 : m ≤ 1048576) (suf : List Int) : ∀ (pre : List Int), ((pre ++ suf).length : Int) ≤ 1048576 →
  Ev (fun k => spec_l12All.l0 k (pre ++ suf) m (pre ++ suf) ((pre ++ suf).length : Int) pre.length) (decide (((pre ++ suf).length : Int) = m) && (allIn 0 (m - 1) suf && dupGo pre suf)) := by
 induction suf with
 | nil =>
  intro pre h
  refine Ev.succ ?_
  simp only [spec_l12All.l0, List.append_nil, Int.lt_irrefl, if_false]
  refine Ev.some_ ?_
  rw [show allIn 0 (m - 1) [] = true from rfl, dupGo, Bool.and_true, Bool.and_true]
  rfl
 | cons x suf ih =>
  intro pre h
  refine Ev.succ ?_
  rw [len_mid] at h ⊢
  have := ih (pre ++ [x]) (by rw [← app_one, len_mid]; exact h)
  rw [← app_one, len_mid, len_one] at this
  have ht : (pre ++ x :: suf).take ((pre.length : Int)).toNat = pre := by rw [Int.toNat_natCast]; exact List.take_left ..
  rw [show allIn 0 (m - 1) (x :: suf) = (decide (0 ≤ x ∧ x ≤ m - 1) && allIn 0 (m - 1) suf) from rfl, dupGo]
  simp only [spec_l12All.l0]
  simp only [len_mid, if_pos (show ((pre.length : Int) < pre.length + suf.length + 1) by omega), if_pos (show (0 : Int) ≤ pre.length by omega), rd_mid, wrap_id (show (-9223372036854775808 : Int) ≤ pre.length + 1 by omega) (show ((pre.length : Int) + 1 ≤ 9223372036854775807) by omega), wrap_id (show (-9223372036854775808 : Int) ≤ m - 1 by omega) (show (m - 1 ≤ 9223372036854775807) by omega), specIn, Option.bind_some, decide_eq_true_eq, if_pos (show (pre.length : Int) ≤ pre.length + suf.length + 1 by omega), ht]
  by_cases hx : 0 ≤ x ∧ x ≤ m - 1
  ·simp only [if_pos hx]
   refine Ev.bind (has_ev x pre (by omega)) ?_
   rw [decide_eq_true hx, Bool.true_and]
   cases hp : (placeGo x pre 0).isSome with
   | true =>
    simp only [if_true, Bool.not_true, Bool.false_and, Bool.and_false]
    exact Ev.now _
   | false =>
    simp only [Bool.false_eq_true, if_false, Bool.not_false, Bool.true_and]
    exact this
  ·simp only [if_neg hx]
   rw [decide_eq_false hx, Bool.false_and, Bool.false_and, Bool.and_false]
   exact Ev.now _
theorem l12All_ev (l : List Int) (m : Int) (h0 : 0 ≤ m) (h1 : m ≤ 1048576) (hl : l.length ≤ 1048576) : Ev (fun k => spec_l12All.f k l m) (rowOk m l) := by
 have := l12All_l m h0 h1 l [] (by simp only [List.nil_append]; omega)
 exact this
theorem orders_l1 (Z : List (List Int)) (m : Int) (R : Bool) (X : List (List Int)) (t i : Int) (suf : List Int) : ∀ (pre : List Int), ((pre ++ suf).length : Int) ≤ 1048576 →
  Ev (fun k => if dupGo pre suf = true then impl_orders.l0 k Z m X t (wrap64 (i + 1)) else some false) R →
  Ev (fun k => impl_orders.l1 k Z m (pre ++ suf) X t i (pre ++ suf) ((pre ++ suf).length : Int) pre.length) R := by
 induction suf with
 | nil =>
  intro pre h hR
  refine Ev.succ ?_
  rw [dupGo] at hR
  simp only [if_true] at hR
  simp only [impl_orders.l1, List.append_nil, Int.lt_irrefl, if_false]
  exact hR
 | cons x suf ih =>
  intro pre h hR
  refine Ev.succ ?_
  rw [len_mid] at h ⊢
  have := ih (pre ++ [x]) (by rw [← app_one, len_mid]; exact h)
  rw [← app_one, len_mid, len_one] at this
  have ht : (pre ++ x :: suf).take ((pre.length : Int)).toNat = pre := by rw [Int.toNat_natCast]; exact List.take_left ..
  rw [dupGo] at hR
  simp only [impl_orders.l1]
  simp only [len_mid, if_pos (show ((pre.length : Int) < pre.length + suf.length + 1) by omega), if_pos (show (0 : Int) ≤ pre.length by omega), rd_mid, wrap_id (show (-9223372036854775808 : Int) ≤ pre.length + 1 by omega) (show ((pre.length : Int) + 1 ≤ 9223372036854775807) by omega), if_pos (show (pre.length : Int) ≤ pre.length + suf.length + 1 by omega), ht, slices_Contains_int.f]
  have hi : Ev (fun k => (slices_Index_int.f k pre x).bind fun t170 => (some (decide (t170 ≥ 0)))) (placeGo x pre 0).isSome := by
   refine Ev.bind (index_ev x pre (by omega)) ?_
   refine Ev.some_ ?_
   cases hp : placeGo x pre 0 with
   | none => rfl
   | some r =>
    have := placeGo_ge x pre 0 r hp
    exact decide_eq_true this
  refine Ev.bind hi ?_
  cases hp : (placeGo x pre 0).isSome with
  | true =>
   rw [hp] at hR
   simp only [Bool.not_true, Bool.false_and, Bool.false_eq_true, if_false] at hR
   simp only [if_true]
   exact hR
  | false =>
   rw [hp] at hR
   simp only [Bool.not_false, Bool.true_and] at hR
   simp only [Bool.false_eq_true, if_false]
   exact this hR
theorem orders_l0 (m : Int) (h0 : 0 ≤ m) (h1 : m ≤ 1048576) (suf : List (List Int)) (hs : ∀ x ∈ suf, x.length ≤ 1048576) : ∀ (pre : List (List Int)), ((pre ++ suf).length : Int) ≤ 1048576 →
  Ev (fun k => impl_orders.l0 k (pre ++ suf) m (pre ++ suf) ((pre ++ suf).length : Int) pre.length) (suf.all (rowOk m) && decide (1 ≤ ((pre ++ suf).length : Int) ∧ ((pre ++ suf).length : Int) ≤ 8)) := by
 induction suf with
 | nil =>
  intro pre h
  refine Ev.succ ?_
  simp only [impl_orders.l0, List.append_nil, Int.lt_irrefl, if_false, implIn, Option.bind_some, List.all_nil, Bool.true_and]
  exact Ev.now _
 | cons x suf ih =>
  intro pre h
  refine Ev.succ ?_
  rw [len_mid] at h ⊢
  have := ih (fun y hy => hs y (List.mem_cons_of_mem _ hy)) (pre ++ [x]) (by rw [← app_one, len_mid]; exact h)
  rw [← app_one, len_mid, len_one] at this
  have hx := hs x (List.mem_cons_self ..)
  have bad : Ev (fun k => impl_orders.j1 k (pre ++ x :: suf) m x (pre ++ x :: suf) ((pre.length : Int) + suf.length + 1) pre.length true) false := by
   refine Ev.succ ?_
   simp only [impl_orders.j1, if_true]
   exact Ev.now _
  rw [List.all_cons]
  simp only [impl_orders.l0]
  simp only [len_mid, if_pos (show ((pre.length : Int) < pre.length + suf.length + 1) by omega), if_pos (show (0 : Int) ≤ pre.length by omega), rdSS_mid, wrap_id (show (-9223372036854775808 : Int) ≤ m - 1 by omega) (show (m - 1 ≤ 9223372036854775807) by omega)]
  rw [rowOk]
  by_cases hl : (x.length : Int) = m
  ·simp only [if_pos hl]
   rw [decide_eq_true hl, Bool.true_and]
   refine Ev.bind (implAll_ev _ _ x (by omega)) ?_
   cases ha : allIn 0 (m - 1) x with
   | true =>
    rw [Bool.true_and]
    refine Ev.succ ?_
    simp only [impl_orders.j1, Bool.not_true, Bool.false_eq_true, if_false]
    refine orders_l1 _ m _ _ _ _ x [] (by simp only [List.nil_append]; omega) ?_
    cases hd : dupGo [] x with
    | true =>
     simp only [if_true, Bool.true_and, wrap_id (show (-9223372036854775808 : Int) ≤ pre.length + 1 by omega) (show ((pre.length : Int) + 1 ≤ 9223372036854775807) by omega)]
     exact this
    | false =>
     simp only [Bool.false_eq_true, if_false, Bool.false_and]
     exact Ev.now _
   | false =>
    rw [Bool.false_and, Bool.false_and]
    exact bad
  ·simp only [if_neg hl]
   rw [decide_eq_false hl, Bool.false_and, Bool.false_and]
   exact bad
theorem orders_ev (l : List (List Int)) (m : Int) (h0 : 0 ≤ m) (h1 : m ≤ 1048576) (hl : l.length ≤ 1048576) (hs : ∀ x ∈ l, x.length ≤ 1048576) : Ev (fun k => impl_orders.f k l m) (l.all (rowOk m) && decide (1 ≤ (l.length : Int) ∧ (l.length : Int) ≤ 8)) := by
 have := orders_l0 m h0 h1 l hs [] (by simp only [List.nil_append]; omega)
 exact this
def goodW (f0 f1 : List (List Int)) (f2 : List Int) : Bool := f0.all (rowOk f1.length) && (f1.all (rowOk f0.length) && (decide (1 ≤ (f0.length : Int) ∧ (f0.length : Int) ≤ 8) && (decide (1 ≤ (f1.length : Int) ∧ (f1.length : Int) ≤ 8) && (decide ((f2.length : Int) = f1.length) && allIn 0 8 f2))))
theorem implGoodW_ev {f0 f1 : List (List Int)} {f2 : List Int} (h : okW f0 f1 f2) : Ev (fun k => impl_GoodWishes.f k f0 f1 f2) (goodW f0 f1 f2) := by
 have a0 := h.a0
 have a1 := h.a1
 have a2 := h.a2
 unfold impl_GoodWishes.f goodW
 refine Ev.bind (orders_ev f0 f1.length (by omega) (by omega) a0 h.b0) ?_
 have e1 := orders_ev f1 f0.length (by omega) (by omega) a1 h.b1
 have e2 := implAll_ev 0 8 f2 (by omega)
 generalize f0.all (rowOk f1.length) = p0
 generalize f1.all (rowOk f0.length) = p1 at e1 ⊢
 generalize decide (1 ≤ (f0.length : Int) ∧ (f0.length : Int) ≤ 8) = q0
 generalize decide (1 ≤ (f1.length : Int) ∧ (f1.length : Int) ≤ 8) = q1 at e1 ⊢
 generalize allIn 0 8 f2 = p2 at e2 ⊢
 cases p0
 ·simp only [Bool.false_and, Bool.false_eq_true, if_false]
  exact Ev.now _
 cases q0
 ·simp only [Bool.and_false, Bool.false_and, Bool.true_and, Bool.false_eq_true, if_false]
  exact Ev.now _
 simp only [Bool.true_and, if_true]
 refine Ev.bind e1 ?_
 cases p1
 ·simp only [Bool.false_and, Bool.false_eq_true, if_false]
  exact Ev.now _
 cases q1
 ·simp only [Bool.and_false, Bool.false_and, Bool.true_and, Bool.false_eq_true, if_false]
  exact Ev.now _
 simp only [Bool.true_and, if_true]
 by_cases hc : (f2.length : Int) = f1.length
 ·simp only [if_pos hc, decide_eq_true hc, Bool.true_and]
  exact Ev.bind e2 (Ev.now _)
 ·simp only [if_neg hc, decide_eq_false hc, Bool.false_and]
  exact Ev.now _
theorem specW_l1 (f0 f1 : List (List Int)) (f2 : List Int) (h : okW f0 f1 f2) (suf : List (List Int)) : ∀ (pre : List (List Int)), pre ++ suf = f1 →
  Ev (fun k => spec_GoodWishes.l1 k f0.length f1.length f1 f1.length pre.length f0 f1 f2) (suf.all (rowOk f0.length) && (decide (1 ≤ (f0.length : Int) ∧ (f0.length : Int) ≤ 8) && (decide (1 ≤ (f1.length : Int) ∧ (f1.length : Int) ≤ 8) && (decide ((f2.length : Int) = f1.length) && allIn 0 8 f2)))) := by
 have a0 := h.a0
 have a1 := h.a1
 have a2 := h.a2
 induction suf with
 | nil =>
  intro pre hp
  refine Ev.succ ?_
  rw [List.append_nil] at hp
  subst hp
  have e2 := specAll_ev 0 8 f2 (by omega)
  simp only [spec_GoodWishes.l1, Int.lt_irrefl, if_false, List.all_nil, Bool.true_and, specIn, Option.bind_some]
  generalize decide (1 ≤ (f0.length : Int) ∧ (f0.length : Int) ≤ 8) = q0
  generalize decide (1 ≤ (pre.length : Int) ∧ (pre.length : Int) ≤ 8) = q1
  generalize allIn 0 8 f2 = p2 at e2 ⊢
  cases q0
  ·simp only [Bool.false_and, Bool.false_eq_true, if_false]
   exact Ev.now _
  cases q1
  ·simp only [Bool.false_and, Bool.true_and, Bool.false_eq_true, if_false, if_true]
   exact Ev.now _
  simp only [Bool.true_and, if_true]
  by_cases hc : (f2.length : Int) = pre.length
  ·simp only [if_pos hc, decide_eq_true hc, Bool.true_and]
   exact Ev.bind e2 (Ev.now _)
  ·simp only [if_neg hc, decide_eq_false hc, Bool.false_and]
   exact Ev.now _
 | cons x suf ih =>
  intro pre hp
  refine Ev.succ ?_
  have hn : (f1.length : Int) = pre.length + suf.length + 1 := by rw [← hp, len_mid]
  have hx : rd_L1 f1 (pre.length : Int) = x := by rw [← hp, rdSS_mid]
  have hm : x.length ≤ 1048576 := h.b1 x (by rw [← hp]; simp)
  have := ih (pre ++ [x]) (by rw [← app_one]; exact hp)
  rw [len_one] at this
  simp only [spec_GoodWishes.l1, if_pos (show (pre.length : Int) < f1.length by omega), if_pos (show (0 : Int) ≤ pre.length by omega), hx, wrap_id (show (-9223372036854775808 : Int) ≤ pre.length + 1 by omega) (show ((pre.length : Int) + 1 ≤ 9223372036854775807) by omega)]
  refine Ev.bind (l12All_ev x f0.length (by omega) (by omega) hm) ?_
  rw [List.all_cons]
  cases hr : rowOk f0.length x with
  | true =>
   simp only [if_true, Bool.true_and]
   exact this
  | false =>
   simp only [Bool.false_eq_true, if_false, Bool.false_and]
   exact Ev.now _
theorem specW_l0 (f0 f1 : List (List Int)) (f2 : List Int) (h : okW f0 f1 f2) (suf : List (List Int)) : ∀ (pre : List (List Int)), pre ++ suf = f0 →
  Ev (fun k => spec_GoodWishes.l0 k f0.length f1.length f0 f0.length pre.length f0 f1 f2) (suf.all (rowOk f1.length) && (f1.all (rowOk f0.length) && (decide (1 ≤ (f0.length : Int) ∧ (f0.length : Int) ≤ 8) && (decide (1 ≤ (f1.length : Int) ∧ (f1.length : Int) ≤ 8) && (decide ((f2.length : Int) = f1.length) && allIn 0 8 f2))))) := by
 have a0 := h.a0
 have a1 := h.a1
 induction suf with
 | nil =>
  intro pre hp
  refine Ev.succ ?_
  rw [List.append_nil] at hp
  have := specW_l1 f0 f1 f2 h f1 [] rfl
  subst hp
  simp only [spec_GoodWishes.l0, Int.lt_irrefl, if_false, List.all_nil, Bool.true_and]
  exact this
 | cons x suf ih =>
  intro pre hp
  refine Ev.succ ?_
  have hn : (f0.length : Int) = pre.length + suf.length + 1 := by rw [← hp, len_mid]
  have hx : rd_L1 f0 (pre.length : Int) = x := by rw [← hp, rdSS_mid]
  have hm : x.length ≤ 1048576 := h.b0 x (by rw [← hp]; simp)
  have := ih (pre ++ [x]) (by rw [← app_one]; exact hp)
  rw [len_one] at this
  simp only [spec_GoodWishes.l0, if_pos (show (pre.length : Int) < f0.length by omega), if_pos (show (0 : Int) ≤ pre.length by omega), hx, wrap_id (show (-9223372036854775808 : Int) ≤ pre.length + 1 by omega) (show ((pre.length : Int) + 1 ≤ 9223372036854775807) by omega)]
  refine Ev.bind (l12All_ev x f1.length (by omega) (by omega) hm) ?_
  rw [List.all_cons]
  cases hr : rowOk f1.length x with
  | true =>
   simp only [if_true, Bool.true_and]
   exact this
  | false =>
   simp only [Bool.false_eq_true, if_false, Bool.false_and]
   exact Ev.now _
theorem specGoodW_ev {f0 f1 : List (List Int)} {f2 : List Int} (h : okW f0 f1 f2) : Ev (fun k => spec_GoodWishes.f k f0 f1 f2) (goodW f0 f1 f2) := specW_l0 f0 f1 f2 h f0 [] rfl
end Go.Proofs.Ytoipbblhmcpneaa.P

namespace Go.Proofs.Ytoipbblhmcpneaa.P
open Go.RowKit Go.Proofs.YtoipbblhmcpneaaW.PrintWords Go.Proofs.YtoipbblhmcpneaaW.PrintLast
set_option linter.unusedVariables false
set_option linter.unusedSimpArgs false
-- good matches, both sides
def cnt (l : List Int) (j : Int) : Nat := l.countP fun x => decide (x = j)
def hasGo (j : Int) : List Int → Int → List Int
 | [], _ => []
 | x :: r, i => if x = j then i :: hasGo j r (i + 1) else hasGo j r (i + 1)
theorem hasGo_len (j : Int) : ∀ (l : List Int) (i : Int), (hasGo j l i).length = cnt l j
 | [], _ => rfl
 | x :: r, i => by
  unfold hasGo cnt
  rw [List.countP_cons]
  have := hasGo_len j r (i + 1)
  unfold cnt at this
  by_cases h : x = j
  ·rw [if_pos h, List.length_cons, this, decide_eq_true h, if_pos rfl]
  ·rw [if_neg h, this, decide_eq_false h, if_neg Bool.false_ne_true, Nat.add_zero]
theorem cnt_le (l : List Int) (j : Int) : cnt l j ≤ l.length := List.countP_le_length ..
theorem l12Has_l (j : Int) (suf : List Int) : ∀ (pre out : List Int), ((pre ++ suf).length : Int) ≤ 1048576 → out.length ≤ pre.length →
  Ev (fun k => spec_l12Has.l0 k j out (pre ++ suf) ((pre ++ suf).length : Int) pre.length) (out ++ hasGo j suf pre.length) := by
 induction suf with
 | nil =>
  intro pre out h ho
  refine Ev.succ ?_
  simp only [spec_l12Has.l0, List.append_nil, Int.lt_irrefl, if_false, hasGo]
  exact Ev.now _
 | cons x suf ih =>
  intro pre out h ho
  refine Ev.succ ?_
  rw [len_mid] at h ⊢
  have := fun o ho => ih (pre ++ [x]) o (by rw [← app_one, len_mid]; exact h) ho
  rw [← app_one, len_mid, len_one] at this
  simp only [spec_l12Has.l0]
  simp only [if_pos (show ((pre.length : Int) < pre.length + suf.length + 1) by omega), if_pos (show (0 : Int) ≤ pre.length by omega), len_mid, rd_mid, wrap_id (show (-9223372036854775808 : Int) ≤ pre.length + 1 by omega) (show ((pre.length : Int) + 1 ≤ 9223372036854775807) by omega), hasGo]
  by_cases h1 : x = j
  ·simp only [if_pos h1, if_pos (show out.length < 17592186044416 by omega)]
   rw [app_one out (pre.length : Int) (hasGo j suf (pre.length + 1))]
   exact this (out ++ [(pre.length : Int)]) (by simp only [List.length_append, List.length_singleton]; omega)
  ·simp only [if_neg h1]
   exact this out (by rw [List.length_append]; omega)
theorem l12Has_ev (l : List Int) (j : Int) (h : l.length ≤ 1048576) : Ev (fun k => spec_l12Has.f k l j) (hasGo j l 0) := by
 have := l12Has_l j l [] [] (by simp only [List.nil_append]; omega) (by simp)
 exact this
theorem rd_set {acc : List Int} {x j : Int} (hx : 0 ≤ x) (hx1 : x < acc.length) (hj : 0 ≤ j) (y : Int) : rd (acc.set x.toNat y) j = if j = x then y else rd acc j := by
 unfold rd
 rw [List.getD_eq_getElem?_getD, List.getD_eq_getElem?_getD, List.getElem?_set]
 by_cases h : j = x
 ·subst h
  rw [if_pos rfl, if_pos rfl, if_pos (by omega)]
  rfl
 ·rw [if_neg (by omega), if_neg h]
theorem loads_l (m : Nat) (hm : m ≤ 1000) (suf : List Int) (hs : ∀ x ∈ suf, -1 ≤ x ∧ x < m) : ∀ (pre acc : List Int), ((pre ++ suf).length : Int) ≤ 1048576 → acc.length = m → (∀ j : Int, 0 ≤ j → rd acc j = cnt pre j) →
  ∃ r, Ev (fun k => impl_loads.l0 k acc (pre ++ suf) ((pre ++ suf).length : Int) pre.length) r ∧ r.length = m ∧ ∀ j : Int, 0 ≤ j → rd r j = cnt (pre ++ suf) j := by
 induction suf with
 | nil =>
  intro pre acc h ha hr
  refine ⟨acc, Ev.succ ?_, ha, by rw [List.append_nil]; exact hr⟩
  simp only [impl_loads.l0, List.append_nil, Int.lt_irrefl, if_false]
  exact Ev.now _
 | cons x suf ih =>
  intro pre acc h ha hr
  rw [len_mid] at h
  have hx := hs x (List.mem_cons_self ..)
  have hi := ih (fun y hy => hs y (List.mem_cons_of_mem _ hy)) (pre ++ [x])
  rw [← app_one, len_mid, len_one] at hi
  have hc : ∀ j, cnt (pre ++ [x]) j = cnt pre j + if x = j then 1 else 0 := by
   intro j
   unfold cnt
   rw [List.countP_append, List.countP_cons, List.countP_nil, Nat.zero_add]
   by_cases e : x = j
   ·rw [decide_eq_true e, if_pos rfl, if_pos e]
   ·rw [decide_eq_false e, if_neg Bool.false_ne_true, if_neg e]
  by_cases h1 : x ≥ 0
  ·have hb := cnt_le pre x
   obtain ⟨r, er, e1, e2⟩ := hi (acc.set x.toNat (wrap64 ((rd acc x) + 1))) h (by rw [List.length_set]; exact ha) (by
    intro j hj
    rw [rd_set h1 (by omega) hj, hc, hr x h1, wrap_id (by omega) (by omega)]
    by_cases e : j = x
    ·rw [if_pos e, if_pos e.symm, e]
     omega
    ·rw [if_neg e, if_neg (fun c => e c.symm), hr j hj]
     omega)
   refine ⟨r, Ev.succ ?_, e1, e2⟩
   simp only [impl_loads.l0]
   simp only [len_mid, if_pos (show ((pre.length : Int) < pre.length + suf.length + 1) by omega), if_pos (show (0 : Int) ≤ pre.length by omega), rd_mid, wrap_id (show (-9223372036854775808 : Int) ≤ pre.length + 1 by omega) (show ((pre.length : Int) + 1 ≤ 9223372036854775807) by omega), if_pos h1, if_pos (show 0 ≤ x from h1), if_pos (show x < (acc.length : Int) by omega)]
   exact er
  ·obtain ⟨r, er, e1, e2⟩ := hi acc h ha (by
    intro j hj
    rw [hc, if_neg (by omega), Nat.add_zero, hr j hj])
   refine ⟨r, Ev.succ ?_, e1, e2⟩
   simp only [impl_loads.l0]
   simp only [len_mid, if_pos (show ((pre.length : Int) < pre.length + suf.length + 1) by omega), if_pos (show (0 : Int) ≤ pre.length by omega), rd_mid, wrap_id (show (-9223372036854775808 : Int) ≤ pre.length + 1 by omega) (show ((pre.length : Int) + 1 ≤ 9223372036854775807) by omega), if_neg h1]
   exact er
theorem rd_zero (m : Nat) (j : Int) : rd (List.replicate m (0 : Int)) j = 0 := by
 unfold rd
 rw [List.getD_eq_getElem?_getD, List.getElem?_replicate]
 split <;> rfl
theorem loads_ev (f0 f1 : List (List Int)) (f2 l : List Int) (hl : l.length ≤ 1048576) (hm : f1.length ≤ 1000) (hs : ∀ x ∈ l, -1 ≤ x ∧ x < f1.length) :
  ∃ r, Ev (fun k => impl_loads.f k f0 f1 f2 l) r ∧ r.length = f1.length ∧ ∀ j : Int, 0 ≤ j → rd r j = cnt l j := by
 unfold impl_loads.f
 simp only [if_pos (show (0 : Int) ≤ (f1.length : Int) by omega), Int.toNat_natCast, if_pos (show f1.length ≤ 35184372088832 by omega)]
 exact loads_l f1.length hm l hs [] (List.replicate f1.length 0) (by simp only [List.nil_append]; omega) (by simp) (fun j hj => by rw [rd_zero]; rfl)
def capGo (l : List Int) : List Int → Int → Bool
 | [], _ => true
 | c :: r, j => if (cnt l j : Int) > c then false else capGo l r (j + 1)
theorem specCap_l (l : List Int) (hl : l.length ≤ 1048576) (suf : List Int) : ∀ (pre : List Int), ((pre ++ suf).length : Int) ≤ 1048576 →
  Ev (fun k => spec_GoodMatch.l0 k l (pre ++ suf) ((pre ++ suf).length : Int) pre.length) (capGo l suf pre.length) := by
 induction suf with
 | nil =>
  intro pre h
  refine Ev.succ ?_
  simp only [spec_GoodMatch.l0, List.append_nil, Int.lt_irrefl, if_false, capGo]
  exact Ev.now _
 | cons x suf ih =>
  intro pre h
  refine Ev.succ ?_
  rw [len_mid] at h ⊢
  have := ih (pre ++ [x]) (by rw [← app_one, len_mid]; exact h)
  rw [← app_one, len_mid, len_one] at this
  simp only [spec_GoodMatch.l0, capGo]
  simp only [if_pos (show ((pre.length : Int) < pre.length + suf.length + 1) by omega), if_pos (show (0 : Int) ≤ pre.length by omega), len_mid, rd_mid, wrap_id (show (-9223372036854775808 : Int) ≤ pre.length + 1 by omega) (show ((pre.length : Int) + 1 ≤ 9223372036854775807) by omega)]
  refine Ev.bind (l12Has_ev l pre.length hl) ?_
  rw [hasGo_len]
  by_cases h1 : (cnt l pre.length : Int) > x
  ·simp only [if_pos h1]
   exact Ev.now _
  ·simp only [if_neg h1]
   exact this
theorem implCap_l (f0 f1 : List (List Int)) (l t : List Int) (ht : ∀ j : Int, 0 ≤ j → rd t j = cnt l j) (suf : List Int) : ∀ (pre : List Int), ((pre ++ suf).length : Int) ≤ 1048576 → t.length = (pre ++ suf).length →
  Ev (fun k => impl_GoodMatch.l0 k t ((pre ++ suf).length : Int) pre.length f0 f1 (pre ++ suf)) (capGo l suf pre.length) := by
 induction suf with
 | nil =>
  intro pre h he
  refine Ev.succ ?_
  simp only [impl_GoodMatch.l0, List.append_nil, Int.lt_irrefl, if_false, capGo]
  exact Ev.now _
 | cons x suf ih =>
  intro pre h he
  refine Ev.succ ?_
  have he' : (t.length : Int) = pre.length + suf.length + 1 := by rw [he, len_mid]
  rw [len_mid] at h ⊢
  have := ih (pre ++ [x]) (by rw [← app_one, len_mid]; exact h) (by rw [← app_one]; exact he)
  rw [← app_one, len_mid, len_one] at this
  simp only [impl_GoodMatch.l0, capGo]
  simp only [if_pos (show ((pre.length : Int) < pre.length + suf.length + 1) by omega), if_pos (show (0 : Int) ≤ pre.length by omega), len_mid, rd_mid, if_pos (show (pre.length : Int) < (t.length : Int) by omega), ht (pre.length : Int) (by omega), wrap_id (show (-9223372036854775808 : Int) ≤ pre.length + 1 by omega) (show ((pre.length : Int) + 1 ≤ 9223372036854775807) by omega)]
  by_cases h1 : (cnt l pre.length : Int) > x
  ·simp only [if_pos h1]
   exact Ev.now _
  ·simp only [if_neg h1]
   exact this
theorem goodW_len {f0 f1 : List (List Int)} {f2 : List Int} (h : goodW f0 f1 f2 = true) : 1 ≤ f0.length ∧ f0.length ≤ 8 ∧ 1 ≤ f1.length ∧ f1.length ≤ 8 ∧ f2.length = f1.length := by
 unfold goodW at h
 simp only [Bool.and_eq_true, decide_eq_true_eq] at h
 omega
def goodM (f0 f1 : List (List Int)) (f2 l : List Int) : Bool := goodW f0 f1 f2 && (decide ((l.length : Int) = f0.length) && (allIn (-1) (wrap64 ((f1.length : Int) - 1)) l && capGo l f2 0))
theorem specGoodM_ev {f0 f1 : List (List Int)} {f2 : List Int} (h : okW f0 f1 f2) (l : List Int) (hl : l.length ≤ 1048576) : Ev (fun k => spec_GoodMatch.f k f0 f1 f2 l) (goodM f0 f1 f2 l) := by
 unfold spec_GoodMatch.f goodM
 have bad : Ev (fun k => spec_GoodMatch.j0 k l true f0 f1 f2) false := by
  refine Ev.succ ?_
  simp only [spec_GoodMatch.j0, if_true]
  exact Ev.now _
 refine Ev.bind (specGoodW_ev h) ?_
 cases hw : goodW f0 f1 f2 with
 | false =>
  simp only [Bool.false_eq_true, if_false, Bool.false_and]
  exact bad
 | true =>
  simp only [if_true, Bool.true_and]
  by_cases h1 : (l.length : Int) = f0.length
  ·simp only [if_pos h1]
   rw [decide_eq_true h1, Bool.true_and]
   refine Ev.bind (specAll_ev _ _ l (by omega)) ?_
   cases ha : allIn (-1) (wrap64 ((f1.length : Int) - 1)) l with
   | false =>
    rw [Bool.false_and]
    exact bad
   | true =>
    rw [Bool.true_and]
    refine Ev.succ ?_
    simp only [spec_GoodMatch.j0, Bool.not_true, Bool.false_eq_true, if_false]
    exact specCap_l l hl f2 [] (by have := h.a2; simp only [List.nil_append]; omega)
  ·simp only [if_neg h1]
   rw [decide_eq_false h1, Bool.false_and]
   exact bad
theorem implGoodM_ev {f0 f1 : List (List Int)} {f2 : List Int} (h : okW f0 f1 f2) (l : List Int) (hl : l.length ≤ 1048576) : Ev (fun k => impl_GoodMatch.f k f0 f1 f2 l) (goodM f0 f1 f2 l) := by
 unfold impl_GoodMatch.f goodM
 have bad : Ev (fun k => impl_GoodMatch.j0 k l true f0 f1 f2) false := by
  refine Ev.succ ?_
  simp only [impl_GoodMatch.j0, if_true]
  exact Ev.now _
 refine Ev.bind (implGoodW_ev h) ?_
 cases hw : goodW f0 f1 f2 with
 | false =>
  simp only [Bool.false_eq_true, if_false, Bool.false_and]
  exact bad
 | true =>
  have hn := goodW_len hw
  simp only [if_true, Bool.true_and]
  by_cases h1 : (l.length : Int) = f0.length
  ·simp only [if_pos h1]
   rw [decide_eq_true h1, Bool.true_and]
   refine Ev.bind (implAll_ev _ _ l (by omega)) ?_
   cases ha : allIn (-1) (wrap64 ((f1.length : Int) - 1)) l with
   | false =>
    rw [Bool.false_and]
    exact bad
   | true =>
    rw [Bool.true_and]
    rw [wrap_id (by omega) (by omega)] at ha
    refine Ev.succ ?_
    simp only [impl_GoodMatch.j0, Bool.not_true, Bool.false_eq_true, if_false]
    obtain ⟨t, et, e1, e2⟩ := loads_ev f0 f1 f2 l hl (by omega) (fun x hx => by
     have := List.all_eq_true.1 ha x hx
     rw [decide_eq_true_eq] at this
     omega)
    refine Ev.bind et ?_
    have := implCap_l f0 f1 l t e2 f2 [] (by have := h.a2; simp only [List.nil_append]; omega) (by simp only [List.nil_append]; omega)
    rw [show (t.length : Int) = ((([] : List Int) ++ f2).length : Int) by simp only [List.nil_append]; omega]
    exact this
  ·simp only [if_neg h1]
   rw [decide_eq_false h1, Bool.false_and]
   exact bad
end Go.Proofs.Ytoipbblhmcpneaa.P

namespace Go.Proofs.Ytoipbblhmcpneaa.P
open Go.RowKit Go.Proofs.YtoipbblhmcpneaaW.PrintWords Go.Proofs.YtoipbblhmcpneaaW.PrintLast
set_option linter.unusedVariables false
set_option linter.unusedSimpArgs false
theorem erase_len_le {α : Type} [DecidableEq α] {x : α} : ∀ {M : List α}, x ∈ M → (M.erase x).length + 1 = M.length := by
 intro M h
 have := List.length_erase_of_mem h
 have h2 : 0 < M.length := List.length_pos_of_mem h
 omega
theorem nodup_le {α : Type} [DecidableEq α] : ∀ (L M : List α), L.Nodup → (∀ x ∈ L, x ∈ M) → L.length ≤ M.length
 | [], _, _, _ => Nat.zero_le _
 | x :: L, M, hn, hs => by
  have hx : x ∈ M := hs x (by simp)
  rw [List.nodup_cons] at hn
  have h := nodup_le L (M.erase x) hn.2 (fun y hy => by
   have : y ≠ x := fun e => hn.1 (e ▸ hy)
   exact (List.mem_erase_of_ne this).2 (hs y (by simp [hy])))
  have := erase_len_le hx
  simp only [List.length_cons]
  omega
end Go.Proofs.Ytoipbblhmcpneaa.P

namespace Go.Proofs.Ytoipbblhmcpneaa.P
open Go.RowKit Go.Proofs.YtoipbblhmcpneaaW.PrintWords Go.Proofs.YtoipbblhmcpneaaW.PrintLast
set_option linter.unusedVariables false
set_option linter.unusedSimpArgs false
-- who serves whom: places, who would be taken, and what a round of asking keeps (no function of the program)
def row_ (f : List (List Int)) (i : Int) : List Int := f.getD i.toNat []
def pl (l : List Int) (x : Int) : Int := (placeGo x l 0).getD (l.length : Int)
theorem placeGo_some (x : Int) : ∀ (l : List Int) (i : Int), x ∈ l → ∃ k : Nat, k < l.length ∧ placeGo x l i = some (i + k) ∧ rd l k = x ∧ ∀ j : Nat, j < k → rd l j ≠ x
 | [], _, h => by simp at h
 | y :: r, i, h => by
  unfold placeGo
  by_cases e : y = x
  ·exact ⟨0, by simp, by rw [if_pos e]; simp, e, fun j hj => absurd hj (Nat.not_lt_zero _)⟩
  ·rw [if_neg e]
   obtain ⟨k, h1, h2, h3, h4⟩ := placeGo_some x r (i + 1) ((List.mem_cons.1 h).resolve_left (fun c => e c.symm))
   refine ⟨k + 1, by simpa using h1, by rw [h2]; congr 1; omega, ?_, ?_⟩
   ·rw [← h3]
    rfl
   ·intro j hj
    cases j with
    | zero => exact e
    | succ j => exact h4 j (by omega)
theorem placeGo_none (x : Int) : ∀ (l : List Int) (i : Int), x ∉ l → placeGo x l i = none
 | [], _, _ => rfl
 | y :: r, i, h => by
  unfold placeGo
  rw [if_neg (fun e => h (by rw [e]; exact List.mem_cons_self ..))]
  exact placeGo_none x r (i + 1) (fun c => h (List.mem_cons_of_mem _ c))
theorem rd_mem {l : List Int} {k : Nat} (h : k < l.length) : rd l (k : Int) ∈ l := by
 unfold rd
 rw [Int.toNat_natCast, List.getD_eq_getElem?_getD, List.getElem?_eq_getElem h]
 exact List.getElem_mem h
theorem rd_inj {l : List Int} (hn : l.Nodup) {j k : Nat} (hj : j < l.length) (hk : k < l.length) (e : rd l (j : Int) = rd l (k : Int)) : j = k := by
 unfold rd at e
 rw [Int.toNat_natCast, Int.toNat_natCast, List.getD_eq_getElem?_getD, List.getElem?_eq_getElem hj, List.getD_eq_getElem?_getD, List.getElem?_eq_getElem hk] at e
 have hp := List.pairwise_iff_getElem.1 hn
 rcases Nat.lt_trichotomy j k with h | h | h
 ·exact absurd e (hp j k hj hk h)
 ·exact h
 ·exact absurd e.symm (hp k j hk hj h)
theorem dupGo_nodup : ∀ (l pre : List Int), pre.Nodup → dupGo pre l = true → (pre ++ l).Nodup
 | [], pre, h, _ => by rw [List.append_nil]; exact h
 | x :: r, pre, h, hd => by
  unfold dupGo at hd
  rw [Bool.and_eq_true, Bool.not_eq_true'] at hd
  rw [app_one]
  refine dupGo_nodup r (pre ++ [x]) ?_ hd.2
  refine List.nodup_append.2 ⟨h, by simp, fun a ha b hb => ?_⟩
  rw [List.mem_singleton] at hb
  subst hb
  intro e
  subst e
  obtain ⟨k, _, h2, _⟩ := placeGo_some a pre 0 ha
  rw [h2] at hd
  simp at hd
/-- a list of all from 0 to m, each once -/
structure Perm_ (m : Int) (l : List Int) : Prop where
 len : (l.length : Int) = m
 low : ∀ x ∈ l, 0 ≤ x ∧ x < m
 nodup : l.Nodup
theorem allIn_mem {a b : Int} {l : List Int} (h : allIn a b l = true) : ∀ x ∈ l, a ≤ x ∧ x ≤ b := by
 intro x hx
 unfold allIn at h
 have := List.all_eq_true.1 h x hx
 rwa [decide_eq_true_eq] at this
theorem rowOk_perm {m : Int} {l : List Int} (h : rowOk m l = true) : Perm_ m l := by
 unfold rowOk at h
 rw [Bool.and_eq_true, Bool.and_eq_true, decide_eq_true_eq] at h
 refine ⟨h.1, fun x hx => ?_, ?_⟩
 ·have := allIn_mem h.2.1 x hx
  omega
 ·have := dupGo_nodup l [] (by simp) h.2.2
  simpa using this
theorem Perm_.mem {m : Int} {l : List Int} (h : Perm_ m l) {x : Int} (h0 : 0 ≤ x) (h1 : x < m) : x ∈ l := by
 by_cases hx : x ∈ l
 ·exact hx
 ·have hq := nodup_le (x :: l) ((List.range m.toNat).map fun (i : Nat) => (i : Int)) (List.nodup_cons.2 ⟨hx, h.nodup⟩) (fun y hy => by
   rw [List.mem_map]
   have : 0 ≤ y ∧ y < m := by
    rcases List.mem_cons.1 hy with rfl | hy
    ·exact ⟨h0, h1⟩
    ·exact h.low y hy
   exact ⟨y.toNat, List.mem_range.2 (by omega), by omega⟩)
  rw [List.length_cons, List.length_map, List.length_range] at hq
  have := h.len
  omega
theorem Perm_.pl_in {m : Int} {l : List Int} (h : Perm_ m l) {x : Int} (h0 : 0 ≤ x) (h1 : x < m) : 0 ≤ pl l x ∧ pl l x < m ∧ rd l (pl l x) = x := by
 obtain ⟨k, h2, h3, h4, _⟩ := placeGo_some x l 0 (h.mem h0 h1)
 have := h.len
 unfold pl
 rw [h3, Option.getD_some, Int.zero_add]
 exact ⟨by omega, by omega, h4⟩
theorem Perm_.pl_out {m : Int} {l : List Int} (h : Perm_ m l) {x : Int} (h0 : x < 0) : pl l x = m := by
 unfold pl
 rw [placeGo_none x l 0 (fun c => by have := h.low x c; omega), Option.getD_none, h.len]
theorem Perm_.rd_in {m : Int} {l : List Int} (h : Perm_ m l) {k : Int} (h0 : 0 ≤ k) (h1 : k < m) : 0 ≤ rd l k ∧ rd l k < m := by
 have := h.len
 have h2 := rd_mem (l := l) (k := k.toNat) (by omega)
 rw [show ((k.toNat : Nat) : Int) = k by omega] at h2
 exact h.low _ h2
theorem Perm_.pl_rd {m : Int} {l : List Int} (h : Perm_ m l) {k : Int} (h0 : 0 ≤ k) (h1 : k < m) : pl l (rd l k) = k := by
 have hr := h.rd_in h0 h1
 have hp := h.pl_in hr.1 hr.2
 have := h.len
 have e := rd_inj h.nodup (j := (pl l (rd l k)).toNat) (k := k.toNat) (by omega) (by omega) (by
  rw [show (((pl l (rd l k)).toNat : Nat) : Int) = pl l (rd l k) by omega, show ((k.toNat : Nat) : Int) = k by omega]
  exact hp.2.2)
 omega
theorem Perm_.pl_inj {m : Int} {l : List Int} (h : Perm_ m l) {x y : Int} (h0 : 0 ≤ x) (h1 : x < m) (h2 : 0 ≤ y) (h3 : y < m) (e : pl l x = pl l y) : x = y := by
 rw [← (h.pl_in h0 h1).2.2, e, (h.pl_in h2 h3).2.2]
end Go.Proofs.Ytoipbblhmcpneaa.P

namespace Go.Proofs.Ytoipbblhmcpneaa.P
open Go.RowKit Go.Proofs.YtoipbblhmcpneaaW.PrintWords Go.Proofs.YtoipbblhmcpneaaW.PrintLast
set_option linter.unusedVariables false
set_option linter.unusedSimpArgs false
-- the rounds of asking: what they keep, that the end is stable, and that no group does better (no function of the program)
/-- good wishes: all lists are orders -/
structure WOk (f0 f1 : List (List Int)) (f2 : List Int) (G S : Int) : Prop where
 g : (f0.length : Int) = G
 s : (f1.length : Int) = S
 r : (f2.length : Int) = S
 pg : ∀ g : Int, 0 ≤ g → g < G → Perm_ S (row_ f0 g)
 ps : ∀ s : Int, 0 ≤ s → s < S → Perm_ G (row_ f1 s)
end Go.Proofs.Ytoipbblhmcpneaa.P

namespace Go.Proofs.Ytoipbblhmcpneaa.P
open Go.RowKit Go.Proofs.YtoipbblhmcpneaaW.PrintWords Go.Proofs.YtoipbblhmcpneaaW.PrintLast
set_option linter.unusedVariables false
set_option linter.unusedSimpArgs false
-- who a server would take, and who is in the way: the program and the reference
theorem rowL_is (f : List (List Int)) (i : Int) : rd_L1 f i = row_ f i := rfl
theorem row_mem {f : List (List Int)} {i : Int} (h0 : 0 ≤ i) (h1 : i < f.length) : row_ f i ∈ f := by
 unfold row_
 rw [List.getD_eq_getElem?_getD, List.getElem?_eq_getElem (by omega)]
 exact List.getElem_mem _
theorem wOk_of {f0 f1 : List (List Int)} {f2 : List Int} (h : goodW f0 f1 f2 = true) : WOk f0 f1 f2 f0.length f1.length := by
 have hl := goodW_len h
 unfold goodW at h
 simp only [Bool.and_eq_true] at h
 refine ⟨rfl, rfl, by omega, fun g h0 h1 => ?_, fun s h0 h1 => ?_⟩
 ·exact rowOk_perm (List.all_eq_true.1 h.1 _ (row_mem h0 h1))
 ·exact rowOk_perm (List.all_eq_true.1 h.2.1 _ (row_mem h0 h1))
theorem plEv (x : Int) (l : List Int) (h : (l.length : Int) ≤ 1099511627776) : Ev (fun k => spec_l12Place.f k l x) (pl l x) := place_ev x l h
theorem ixEv {m : Int} {l : List Int} (hp : Perm_ m l) (hm : m ≤ 1000) {x : Int} (h0 : 0 ≤ x) (h1 : x < m) : Ev (fun k => slices_Index_int.f k l x) (pl l x) := by
 have hl := hp.len
 have := index_ev x l (by omega)
 obtain ⟨k, _, h2, _⟩ := placeGo_some x l 0 (hp.mem h0 h1)
 unfold pl
 rw [h2] at this ⊢
 exact this
/-- who has a server, rising -/
theorem hasGo_mem (s : Int) : ∀ (l : List Int) (i x : Int), x ∈ hasGo s l i ↔ ∃ j : Nat, j < l.length ∧ x = i + j ∧ rd l j = s
 | [], i, x => by simp [hasGo]
 | y :: r, i, x => by
  have ih := hasGo_mem s r (i + 1) x
  have e : (∃ j : Nat, j < (y :: r).length ∧ x = i + j ∧ rd (y :: r) j = s) ↔ (x = i ∧ y = s) ∨ ∃ j : Nat, j < r.length ∧ x = i + 1 + j ∧ rd r j = s := by
   constructor
   ·rintro ⟨j, h1, h2, h3⟩
    cases j with
    | zero => exact .inl ⟨by simpa using h2, h3⟩
    | succ j => exact .inr ⟨j, by simpa using h1, by omega, h3⟩
   ·rintro (⟨h1, h2⟩ | ⟨j, h1, h2, h3⟩)
    ·exact ⟨0, by simp, by simpa using h1, h2⟩
    ·exact ⟨j + 1, by simpa using h1, by omega, h3⟩
  rw [e, ← ih, show hasGo s (y :: r) i = (if y = s then i :: hasGo s r (i + 1) else hasGo s r (i + 1)) from rfl]
  split
  ·rename_i h
   rw [List.mem_cons]
   simp [h]
  ·rename_i h
   simp [h]
theorem has_iff {m : List Int} {s x : Int} : x ∈ hasGo s m 0 ↔ 0 ≤ x ∧ x < m.length ∧ rd m x = s := by
 rw [hasGo_mem]
 constructor
 ·rintro ⟨j, h1, h2, h3⟩
  rw [Int.zero_add] at h2
  subst h2
  exact ⟨by omega, by omega, h3⟩
 ·rintro ⟨h1, h2, h3⟩
  exact ⟨x.toNat, by omega, by omega, by rw [show ((x.toNat : Nat) : Int) = x by omega]; exact h3⟩
def worstGo (P : List Int) : Int → List Int → Int
 | w, [] => w
 | w, g :: r => worstGo P (if w < 0 then g else if pl P g > pl P w then g else w) r
def worstM (f1 : List (List Int)) (m : List Int) (s : Int) : Int := worstGo (row_ f1 s) (-1) (hasGo s m 0)
theorem worstGo_ok (P : List Int) : ∀ (l : List Int) (w : Int), (∀ x ∈ l, 0 ≤ x) → (w < 0 → worstGo P w l = w ∧ l = [] ∨ worstGo P w l ∈ l ∧ ∀ x ∈ l, pl P x ≤ pl P (worstGo P w l)) ∧ (0 ≤ w → (worstGo P w l = w ∨ worstGo P w l ∈ l) ∧ pl P w ≤ pl P (worstGo P w l) ∧ ∀ x ∈ l, pl P x ≤ pl P (worstGo P w l))
 | [], w, _ => ⟨fun _ => .inl ⟨rfl, rfl⟩, fun _ => ⟨.inl rfl, Int.le_refl _, fun x hx => by simp at hx⟩⟩
 | g :: r, w, h => by
  have hg := h g (List.mem_cons_self ..)
  have hr : ∀ x ∈ r, 0 ≤ x := fun x hx => h x (List.mem_cons_of_mem _ hx)
  rw [worstGo]
  constructor
  ·intro hw
   rw [if_pos hw]
   obtain ⟨h1, h2, h3⟩ := (worstGo_ok P r g hr).2 hg
   refine .inr ⟨?_, fun x hx => ?_⟩
   ·rcases h1 with h1 | h1
    ·rw [h1]; exact List.mem_cons_self ..
    ·exact List.mem_cons_of_mem _ h1
   ·rcases List.mem_cons.1 hx with rfl | hx
    ·exact h2
    ·exact h3 x hx
  ·intro hw
   rw [if_neg (by omega)]
   by_cases hp : pl P g > pl P w
   ·rw [if_pos hp]
    obtain ⟨h1, h2, h3⟩ := (worstGo_ok P r g hr).2 hg
    refine ⟨.inr ?_, by omega, fun x hx => ?_⟩
    ·rcases h1 with h1 | h1
     ·rw [h1]; exact List.mem_cons_self ..
     ·exact List.mem_cons_of_mem _ h1
    ·rcases List.mem_cons.1 hx with rfl | hx
     ·exact h2
     ·exact h3 x hx
   ·rw [if_neg hp]
    obtain ⟨h1, h2, h3⟩ := (worstGo_ok P r w hr).2 hw
    refine ⟨?_, h2, fun x hx => ?_⟩
    ·rcases h1 with h1 | h1
     ·exact .inl h1
     ·exact .inr (List.mem_cons_of_mem _ h1)
    ·rcases List.mem_cons.1 hx with rfl | hx
     ·omega
     ·exact h3 x hx
/-- nobody, or the last in the server's list of all who have it -/
theorem worst_ok (f1 : List (List Int)) (m : List Int) (s : Int) : (worstM f1 m s = -1 ∧ ∀ x : Int, 0 ≤ x → x < m.length → rd m x ≠ s) ∨ (0 ≤ worstM f1 m s ∧ worstM f1 m s < m.length ∧ rd m (worstM f1 m s) = s ∧ ∀ x : Int, 0 ≤ x → x < m.length → rd m x = s → pl (row_ f1 s) x ≤ pl (row_ f1 s) (worstM f1 m s)) := by
 have h := (worstGo_ok (row_ f1 s) (hasGo s m 0) (-1) (fun x hx => (has_iff.1 hx).1)).1 (by omega)
 rcases h with ⟨h1, h2⟩ | ⟨h1, h2⟩
 ·refine .inl ⟨h1, fun x h0 hx e => ?_⟩
  have : x ∈ hasGo s m 0 := has_iff.2 ⟨h0, hx, e⟩
  rw [h2] at this
  simp at this
 ·have := has_iff.1 h1
  exact .inr ⟨this.1, this.2.1, this.2.2, fun x h0 hx e => h2 x (has_iff.2 ⟨h0, hx, e⟩)⟩
theorem specWorst_l (f0 f1 : List (List Int)) (f2 : List Int) (s : Int) (h0 : 0 ≤ s) (h1 : s < f1.length) (hb : (row_ f1 s).length ≤ 1048576) (suf : List Int) : ∀ (pre : List Int) (w : Int), ((pre ++ suf).length : Int) ≤ 1048576 →
  Ev (fun k => spec_l12Worst.l0 k s w (pre ++ suf) ((pre ++ suf).length : Int) pre.length f0 f1 f2) (worstGo (row_ f1 s) w suf) := by
 induction suf with
 | nil =>
  intro pre w h
  refine Ev.succ ?_
  simp only [spec_l12Worst.l0, List.append_nil, Int.lt_irrefl, if_false, worstGo]
  exact Ev.now _
 | cons g suf ih =>
  intro pre w h
  refine Ev.succ ?_
  rw [len_mid] at h ⊢
  have := fun w => ih (pre ++ [g]) w (by rw [← app_one, len_mid]; exact h)
  rw [← app_one, len_mid, len_one] at this
  simp only [spec_l12Worst.l0, worstGo]
  simp only [if_pos (show ((pre.length : Int) < pre.length + suf.length + 1) by omega), if_pos (show (0 : Int) ≤ pre.length by omega), len_mid, rd_mid, wrap_id (show (-9223372036854775808 : Int) ≤ pre.length + 1 by omega) (show ((pre.length : Int) + 1 ≤ 9223372036854775807) by omega), rowL_is]
  by_cases hw : w < 0
  ·simp only [if_pos hw]
   exact this g
  ·simp only [if_neg hw, if_pos h0, if_pos h1]
   refine Ev.bind (plEv g _ (by omega)) ?_
   refine Ev.bind (plEv w _ (by omega)) ?_
   by_cases hp : pl (row_ f1 s) g > pl (row_ f1 s) w
   ·simp only [if_pos hp]
    exact this g
   ·simp only [if_neg hp]
    exact this w
theorem specWorst_ev (f0 f1 : List (List Int)) (f2 m : List Int) (s : Int) (h0 : 0 ≤ s) (h1 : s < f1.length) (hb : (row_ f1 s).length ≤ 1048576) (hm : m.length ≤ 1000) : Ev (fun k => spec_l12Worst.f k f0 f1 f2 m s) (worstM f1 m s) := by
 unfold spec_l12Worst.f
 refine Ev.bind (l12Has_ev m s (by omega)) ?_
 have hl := hasGo_len s m 0
 have hc := cnt_le m s
 have := specWorst_l f0 f1 f2 s h0 h1 hb (hasGo s m 0) [] (-1) (by rw [List.nil_append, hl]; omega)
 exact this
def wouldM (f1 : List (List Int)) (f2 m : List Int) (s g : Int) : Bool := decide ((cnt m s : Int) < rd f2 s) || (decide (worstM f1 m s ≥ 0) && decide (pl (row_ f1 s) g < pl (row_ f1 s) (worstM f1 m s)))
theorem specWould_ev (f0 f1 : List (List Int)) (f2 m : List Int) (s g : Int) (h0 : 0 ≤ s) (h1 : s < f1.length) (h2 : s < f2.length) (hb : (row_ f1 s).length ≤ 1048576) (hm : m.length ≤ 1000) : Ev (fun k => spec_l12Would.f k f0 f1 f2 m s g) (wouldM f1 f2 m s g) := by
 unfold spec_l12Would.f wouldM
 refine Ev.bind (l12Has_ev m s (by omega)) ?_
 simp only [if_pos h0, if_pos h2, hasGo_len]
 by_cases hc : (cnt m s : Int) < rd f2 s
 ·simp only [if_pos hc, decide_eq_true hc, Bool.true_or]
  exact Ev.now _
 ·simp only [if_neg hc, decide_eq_false hc, Bool.false_or]
  refine Ev.bind (specWorst_ev f0 f1 f2 m s h0 h1 hb hm) ?_
  by_cases hw : worstM f1 m s ≥ 0
  ·simp only [if_pos hw, if_pos h1, decide_eq_true hw, Bool.true_and, rowL_is]
   refine Ev.bind (plEv g _ (by omega)) ?_
   exact Ev.bind (plEv _ _ (by omega)) (Ev.now _)
  ·simp only [if_neg hw, decide_eq_false hw, Bool.false_and]
   exact Ev.now _
/-- the last of a list who has the server -/
def lastGo (m : List Int) (s : Int) : Int → List Int → Int
 | w, [] => w
 | w, g :: r => lastGo m s (if rd m g = s then g else w) r
theorem implLast_l (m : List Int) (s : Int) (suf : List Int) : ∀ (pre : List Int) (w : Int), ((pre ++ suf).length : Int) ≤ 1048576 → (∀ x ∈ suf, 0 ≤ x ∧ x < m.length) →
  Ev (fun k => impl_last.l0 k m s w (pre ++ suf) ((pre ++ suf).length : Int) pre.length) (lastGo m s w suf) := by
 induction suf with
 | nil =>
  intro pre w h hx
  refine Ev.succ ?_
  simp only [impl_last.l0, List.append_nil, Int.lt_irrefl, if_false, lastGo]
  exact Ev.now _
 | cons g suf ih =>
  intro pre w h hx
  refine Ev.succ ?_
  rw [len_mid] at h ⊢
  have hg := hx g (List.mem_cons_self ..)
  have := fun w => ih (pre ++ [g]) w (by rw [← app_one, len_mid]; exact h) (fun x hm => hx x (List.mem_cons_of_mem _ hm))
  rw [← app_one, len_mid, len_one] at this
  simp only [impl_last.l0, lastGo]
  simp only [if_pos (show ((pre.length : Int) < pre.length + suf.length + 1) by omega), if_pos (show (0 : Int) ≤ pre.length by omega), len_mid, rd_mid, wrap_id (show (-9223372036854775808 : Int) ≤ pre.length + 1 by omega) (show ((pre.length : Int) + 1 ≤ 9223372036854775807) by omega), if_pos hg.1, if_pos hg.2]
  by_cases hs : rd m g = s
  ·simp only [if_pos hs]
   exact this g
  ·simp only [if_neg hs]
   exact this w
theorem rd_of_mid (pre : List Int) (x : Int) (suf : List Int) : rd (pre ++ x :: suf) (pre.length : Int) = x := rd_mid pre x suf
theorem lastGo_ok {n : Int} {P : List Int} (hp : Perm_ n P) (m : List Int) (s : Int) (suf : List Int) : ∀ (pre : List Int) (w : Int), pre ++ suf = P →
  ((w = -1 ∧ ∀ x ∈ pre, rd m x ≠ s) ∨ (w ∈ pre ∧ rd m w = s ∧ ∀ x ∈ pre, rd m x = s → pl P x ≤ pl P w)) →
  (lastGo m s w suf = -1 ∧ ∀ x ∈ P, rd m x ≠ s) ∨ (lastGo m s w suf ∈ P ∧ rd m (lastGo m s w suf) = s ∧ ∀ x ∈ P, rd m x = s → pl P x ≤ pl P (lastGo m s w suf)) := by
 induction suf with
 | nil =>
  intro pre w h hw
  rw [List.append_nil] at h
  subst h
  exact hw
 | cons g suf ih =>
  intro pre w h hw
  rw [lastGo]
  refine ih (pre ++ [g]) _ (by rw [← app_one]; exact h) ?_
  have hgP : g ∈ P := by rw [← h]; simp
  have hlg := hp.low g hgP
  have hplg : pl P g = pre.length := by
   have hk : (pre.length : Int) < n := by
    have := hp.len
    rw [← h, len_mid] at this
    omega
   have e := hp.pl_rd (k := (pre.length : Int)) (by omega) hk
   rwa [show rd P (pre.length : Int) = g by rw [← h]; exact rd_of_mid pre g suf] at e
  have hpre : ∀ x ∈ pre, pl P x ≤ pre.length := by
   intro x hx
   obtain ⟨i, hi, hxi⟩ := List.getElem_of_mem hx
   have hi2 : (i : Int) < n := by
    have := hp.len
    rw [← h, len_mid] at this
    omega
   have e := hp.pl_rd (k := (i : Int)) (by omega) hi2
   have hr : rd P (i : Int) = x := by
    rw [← h]
    unfold rd
    rw [Int.toNat_natCast, List.getD_eq_getElem?_getD, List.getElem?_append_left hi, List.getElem?_eq_getElem hi, hxi]
    rfl
   rw [hr] at e
   omega
  by_cases hs : rd m g = s
  ·rw [if_pos hs]
   refine .inr ⟨by simp, hs, fun x hx _ => ?_⟩
   rcases List.mem_append.1 hx with hx | hx
   ·rw [hplg]
    exact hpre x hx
   ·rw [List.mem_singleton.1 hx]
    exact Int.le_refl _
  ·rw [if_neg hs]
   rcases hw with ⟨h1, h2⟩ | ⟨h1, h2, h3⟩
   ·refine .inl ⟨h1, fun x hx => ?_⟩
    rcases List.mem_append.1 hx with hx | hx
    ·exact h2 x hx
    ·rw [List.mem_singleton.1 hx]
     exact hs
   ·refine .inr ⟨List.mem_append_left _ h1, h2, fun x hx e => ?_⟩
    rcases List.mem_append.1 hx with hx | hx
    ·exact h3 x hx e
    ·rw [List.mem_singleton.1 hx] at e
     exact absurd e hs
/-- both tell the same -/
theorem last_worst {f1 : List (List Int)} {m : List Int} {s n : Int} (hp : Perm_ n (row_ f1 s)) (hm : (m.length : Int) = n) : lastGo m s (-1) (row_ f1 s) = worstM f1 m s := by
 have h1 := lastGo_ok hp m s (row_ f1 s) [] (-1) rfl (.inl ⟨rfl, fun x hx => by simp at hx⟩)
 rcases h1 with ⟨a1, a2⟩ | ⟨a1, a2, a3⟩
 ·rcases worst_ok f1 m s with ⟨b1, _⟩ | ⟨b1, b2, b3, _⟩
  ·rw [a1, b1]
  ·exact absurd b3 (a2 _ (hp.mem b1 (by omega)))
 ·have al := hp.low _ a1
  rcases worst_ok f1 m s with ⟨b1, b2⟩ | ⟨b1, b2, b3, b4⟩
  ·exact absurd a2 (b2 _ al.1 (by omega))
  ·have c1 := a3 _ (hp.mem b1 (by omega)) b3
   have c2 := b4 _ al.1 (by omega) a2
   exact hp.pl_inj al.1 al.2 b1 (by omega) (by omega)
theorem implLast_ev (f0 f1 : List (List Int)) (f2 m : List Int) (s : Int) (h0 : 0 ≤ s) (h1 : s < f1.length) {n : Int} (hp : Perm_ n (row_ f1 s)) (hn : n ≤ 1000) (hm : (m.length : Int) = n) : Ev (fun k => impl_last.f k f0 f1 f2 m s) (worstM f1 m s) := by
 have hl := hp.len
 unfold impl_last.f
 simp only [if_pos h0, if_pos h1, rowL_is]
 rw [← last_worst hp hm]
 have := implLast_l m s (row_ f1 s) [] (-1) (by rw [List.nil_append]; omega) (fun x hx => by have := hp.low x hx; omega)
 exact this
def takesM (f1 : List (List Int)) (f2 m : List Int) (s g : Int) : Int × Bool := if (cnt m s : Int) < rd f2 s then (-1, true) else if worstM f1 m s < 0 then (-1, false) else if pl (row_ f1 s) (worstM f1 m s) < pl (row_ f1 s) g then (-1, false) else (worstM f1 m s, true)
theorem implTakes_ev {f0 f1 : List (List Int)} {f2 m : List Int} {G S : Int} (w : WOk f0 f1 f2 G S) (hG : G ≤ 1000) (hS : S ≤ 1000) (hm : (m.length : Int) = G) (hs : ∀ x ∈ m, -1 ≤ x ∧ x < f1.length) (s g : Int) (h0 : 0 ≤ s) (h1 : s < S) (hg : 0 ≤ g) (hg1 : g < G) : Ev (fun k => impl_takes.f k f0 f1 f2 m s g) (takesM f1 f2 m s g) := by
 have ws := w.s
 have wr := w.r
 have hp := w.ps s h0 h1
 obtain ⟨r, e, hr, hrd⟩ := loads_ev f0 f1 f2 m (by omega) (by omega) hs
 unfold impl_takes.f takesM
 refine Ev.bind e ?_
 simp only [if_pos h0, if_pos (show s < (r.length : Int) by omega), if_pos (show s < (f2.length : Int) by omega), hrd s h0]
 by_cases hc : (cnt m s : Int) < rd f2 s
 ·simp only [if_pos hc]
  exact Ev.now _
 ·simp only [if_neg hc]
  refine Ev.bind (implLast_ev f0 f1 f2 m s h0 (by omega) hp hG hm) ?_
  by_cases hw : worstM f1 m s < 0
  ·simp only [if_pos hw]
   exact Ev.now _
  ·simp only [if_neg hw, if_pos (show s < (f1.length : Int) by omega), rowL_is]
   have hb : worstM f1 m s < G := by
    rcases worst_ok f1 m s with ⟨b1, _⟩ | ⟨_, b2, _, _⟩ <;> omega
   refine Ev.bind (ixEv hp hG (by omega) hb) ?_
   refine Ev.bind (ixEv hp hG hg hg1) ?_
   by_cases hq : pl (row_ f1 s) (worstM f1 m s) < pl (row_ f1 s) g
   ·simp only [if_pos hq]
    exact Ev.now _
   ·simp only [if_neg hq]
    exact Ev.now _
theorem takes_would {f0 f1 : List (List Int)} {f2 m : List Int} {G S : Int} (w : WOk f0 f1 f2 G S) (hm : (m.length : Int) = G) {s g : Int} (h0 : 0 ≤ s) (h1 : s < S) (hg : 0 ≤ g) (hg1 : g < G) (hne : rd m g ≠ s) : (takesM f1 f2 m s g).2 = wouldM f1 f2 m s g := by
 have hp := w.ps s h0 h1
 unfold takesM wouldM
 by_cases hc : (cnt m s : Int) < rd f2 s
 ·rw [if_pos hc, decide_eq_true hc, Bool.true_or]
 ·rw [if_neg hc, decide_eq_false hc, Bool.false_or]
  by_cases hw : worstM f1 m s < 0
  ·rw [if_pos hw, decide_eq_false (show ¬ worstM f1 m s ≥ 0 by omega), Bool.false_and]
  ·rw [if_neg hw, decide_eq_true (show worstM f1 m s ≥ 0 by omega), Bool.true_and]
   have hb : worstM f1 m s < G ∧ rd m (worstM f1 m s) = s := by
    rcases worst_ok f1 m s with ⟨b1, _⟩ | ⟨_, b2, b3, _⟩
    ·omega
    ·exact ⟨by omega, b3⟩
   have hq : pl (row_ f1 s) g ≠ pl (row_ f1 s) (worstM f1 m s) := fun c => hne (by rw [hp.pl_inj hg hg1 (by omega) hb.1 c]; exact hb.2)
   by_cases hlt : pl (row_ f1 s) (worstM f1 m s) < pl (row_ f1 s) g
   ·rw [if_pos hlt, decide_eq_false (by omega)]
   ·rw [if_neg hlt, decide_eq_true (by omega)]
end Go.Proofs.Ytoipbblhmcpneaa.P

namespace Go.Proofs.Ytoipbblhmcpneaa.P
open Go.RowKit Go.Proofs.YtoipbblhmcpneaaW.PrintWords Go.Proofs.YtoipbblhmcpneaaW.PrintLast
set_option linter.unusedVariables false
set_option linter.unusedSimpArgs false
-- who is in the way of a match: the program and the reference
def blk (f0 f1 : List (List Int)) (f2 m : List Int) (g s : Int) : Bool := decide (pl (row_ f0 g) s < pl (row_ f0 g) (rd m g)) && wouldM f1 f2 m s g
/-- the first from j on, d of them, that a test takes -/
def blkS (p : Int → Bool) : Nat → Int → Option Int
 | 0, _ => none
 | d + 1, j => if p j = true then some j else blkS p d (j + 1)
def blkG (p : Int → Int → Bool) (S : Nat) : Nat → Int → Option (Int × Int)
 | 0, _ => none
 | d + 1, g => match blkS (p g) S 0 with
  | some s => some (g, s)
  | none => blkG p S d (g + 1)
theorem blkS_ok (p : Int → Bool) : ∀ (d : Nat) (j : Int), match blkS p d j with
  | some s => p s = true ∧ j ≤ s ∧ s < j + d
  | none => ∀ s : Int, j ≤ s → s < j + d → p s = false
 | 0, j => fun s h0 h1 => by omega
 | d + 1, j => by
  have ih := blkS_ok p d (j + 1)
  rw [blkS]
  by_cases h : p j = true
  ·rw [if_pos h]
   exact ⟨h, by omega, by omega⟩
  ·rw [if_neg h]
   cases hb : blkS p d (j + 1) with
   | some s =>
    rw [hb] at ih
    exact ⟨ih.1, by have := ih.2.1; omega, by have := ih.2.2; omega⟩
   | none =>
    rw [hb] at ih
    intro s h0 h1
    by_cases e : s = j
    ·subst e
     exact Bool.eq_false_iff.2 h
    ·exact ih s (by omega) (by omega)
theorem blkG_ok (p : Int → Int → Bool) (S : Nat) : ∀ (d : Nat) (g : Int), match blkG p S d g with
  | some (x, s) => p x s = true ∧ g ≤ x ∧ x < g + d ∧ 0 ≤ s ∧ s < S
  | none => ∀ x s : Int, g ≤ x → x < g + d → 0 ≤ s → s < S → p x s = false
 | 0, g => fun x s h0 h1 => by omega
 | d + 1, g => by
  have ih := blkG_ok p S d (g + 1)
  have hs := blkS_ok (p g) S 0
  rw [blkG]
  cases hb : blkS (p g) S 0 with
  | some s =>
   rw [hb] at hs
   exact ⟨hs.1, by omega, by omega, hs.2.1, by have := hs.2.2; omega⟩
  | none =>
   rw [hb] at hs
   dsimp only
   cases hq : blkG p S d (g + 1) with
   | some q =>
    obtain ⟨x, s⟩ := q
    rw [hq] at ih
    exact ⟨ih.1, by have := ih.2.1; omega, by have := ih.2.2.1; omega, ih.2.2.2⟩
   | none =>
    rw [hq] at ih
    intro x s h0 h1 h2 h3
    by_cases e : x = g
    ·subst e
     exact hs s h2 (by omega)
    ·exact ih x s (by omega) (by omega) h2 h3
def blockM (f0 f1 : List (List Int)) (f2 m : List Int) : Option (Int × Int) := blkG (blk f0 f1 f2 m) f1.length f0.length 0
structure Bd (f0 f1 : List (List Int)) (f2 m : List Int) : Prop where
 w : WOk f0 f1 f2 f0.length f1.length
 lg : f0.length ≤ 8
 ls : f1.length ≤ 8
 lm : m.length = f0.length
 lr : f2.length = f1.length
 low : ∀ x ∈ m, -1 ≤ x ∧ x < f1.length
theorem bd_of {f0 f1 : List (List Int)} {f2 m : List Int} (h : goodM f0 f1 f2 m = true) : Bd f0 f1 f2 m := by
 have h' := h
 unfold goodM at h'
 rw [Bool.and_eq_true, Bool.and_eq_true, Bool.and_eq_true, decide_eq_true_eq] at h'
 have hl := goodW_len h'.1
 refine ⟨wOk_of h'.1, by omega, by omega, by omega, by omega, fun x hx => ?_⟩
 have := allIn_mem h'.2.2.1 x hx
 rw [wrap_id (by omega) (by omega)] at this
 omega
theorem bd_at {f0 f1 : List (List Int)} {f2 m : List Int} (h : Bd f0 f1 f2 m) {g : Int} (h0 : 0 ≤ g) (h1 : g < m.length) : -1 ≤ rd m g ∧ rd m g < f1.length := by
 have hm := rd_mem (l := m) (k := g.toNat) (by omega)
 rw [show ((g.toNat : Nat) : Int) = g by omega] at hm
 exact h.low _ hm
theorem specBlock_l1 {f0 f1 : List (List Int)} {f2 m : List Int} (h : Bd f0 f1 f2 m) {g : Int} (h0 : 0 ≤ g) (h1 : g < f0.length) (R : Int × Int)
  (hR : Ev (fun k => spec_l12Block.l0 k m (f0.length : Int) (wrap64 (g + 1)) f0 f1 f2) R) (d : Nat) : ∀ (j : Int), 0 ≤ j → j + d = f1.length →
  Ev (fun k => spec_l12Block.l1 k m g (f0.length : Int) g (f1.length : Int) j f0 f1 f2) (match blkS (blk f0 f1 f2 m g) d j with
   | some s => (g, s)
   | none => R) := by
 have hg := h.lg
 have hs := h.ls
 have hm := h.lm
 have hr := h.lr
 have hp := h.w.pg g h0 h1
 have hpl := hp.len
 induction d with
 | zero =>
  intro j hj hd
  refine Ev.succ ?_
  simp only [spec_l12Block.l1, if_neg (show ¬ j < (f1.length : Int) by omega), blkS]
  exact hR
 | succ d ih =>
  intro j hj hd
  refine Ev.succ ?_
  have h' := ih (j + 1) (by omega) (by omega)
  have hps := h.w.ps j hj (by omega)
  have hpsl := hps.len
  simp only [spec_l12Block.l1, if_pos (show j < (f1.length : Int) by omega), if_pos h0, if_pos h1, rowL_is, wrap_id (show (-9223372036854775808 : Int) ≤ j + 1 by omega) (show (j + 1 ≤ 9223372036854775807) by omega)]
  refine Ev.bind (plEv j _ (by omega)) ?_
  simp only [if_pos (show g < (m.length : Int) by omega)]
  refine Ev.bind (plEv (rd m g) _ (by omega)) ?_
  rw [blkS]
  unfold blk at h' ⊢
  by_cases hlt : pl (row_ f0 g) j < pl (row_ f0 g) (rd m g)
  ·simp only [if_pos hlt, decide_eq_true hlt, Bool.true_and]
   refine Ev.bind (specWould_ev f0 f1 f2 m j g hj (by omega) (by omega) (by omega) (by omega)) ?_
   by_cases hw : wouldM f1 f2 m j g = true
   ·simp only [if_pos hw]
    exact Ev.now _
   ·simp only [if_neg hw]
    exact h'
  ·simp only [if_neg hlt, decide_eq_false hlt, Bool.false_and, Bool.false_eq_true, if_false]
   exact h'
theorem specBlock_l0 {f0 f1 : List (List Int)} {f2 m : List Int} (h : Bd f0 f1 f2 m) (d : Nat) : ∀ (g : Int), 0 ≤ g → g + d = f0.length →
  Ev (fun k => spec_l12Block.l0 k m (f0.length : Int) g f0 f1 f2) ((blkG (blk f0 f1 f2 m) f1.length d g).getD (-1, -1)) := by
 have hg := h.lg
 induction d with
 | zero =>
  intro g h0 hd
  refine Ev.succ ?_
  simp only [spec_l12Block.l0, if_neg (show ¬ g < (f0.length : Int) by omega), blkG]
  exact Ev.now _
 | succ d ih =>
  intro g h0 hd
  refine Ev.succ ?_
  have h' := ih (g + 1) (by omega) (by omega)
  simp only [spec_l12Block.l0, if_pos (show g < (f0.length : Int) by omega)]
  have := specBlock_l1 h h0 (by omega) _ (by rw [wrap_id (show (-9223372036854775808 : Int) ≤ g + 1 by omega) (show (g + 1 ≤ 9223372036854775807) by omega)]; exact h') f1.length 0 (by omega) (by omega)
  rw [blkG]
  cases hb : blkS (blk f0 f1 f2 m g) f1.length 0 with
  | some s =>
   rw [hb] at this
   exact this
  | none =>
   rw [hb] at this
   exact this
theorem specBlock_ev {f0 f1 : List (List Int)} {f2 m : List Int} (h : Bd f0 f1 f2 m) : Ev (fun k => spec_l12Block.f k f0 f1 f2 m) ((blockM f0 f1 f2 m).getD (-1, -1)) := specBlock_l0 h f0.length 0 (by omega) (by omega)
/-- the places of all groups' servers in their lists -/
def ranksGo (f0 : List (List Int)) : Int → List Int → List Int
 | _, [] => []
 | g, x :: r => pl (row_ f0 g) x :: ranksGo f0 (g + 1) r
theorem ranksGo_len (f0 : List (List Int)) : ∀ (l : List Int) (g : Int), (ranksGo f0 g l).length = l.length
 | [], _ => rfl
 | x :: r, g => by rw [ranksGo, List.length_cons, ranksGo_len f0 r, List.length_cons]
theorem ranksGo_at (f0 : List (List Int)) : ∀ (l : List Int) (g : Int) (j : Nat), j < l.length → rd (ranksGo f0 g l) j = pl (row_ f0 (g + j)) (rd l j)
 | [], _, j, h => by simp at h
 | x :: r, g, 0, _ => by
  show pl (row_ f0 g) x = pl (row_ f0 (g + 0)) x
  rw [Int.add_zero]
 | x :: r, g, j + 1, h => by
  have := ranksGo_at f0 r (g + 1) j (by simpa using h)
  rw [show g + 1 + (j : Int) = g + ((j + 1 : Nat) : Int) by omega] at this
  exact this
theorem implRanks_l {f0 f1 : List (List Int)} {f2 : List Int} (w : WOk f0 f1 f2 f0.length f1.length) (hg8 : f0.length ≤ 8) (hs8 : f1.length ≤ 8) (suf : List Int) : ∀ (pre out : List Int), ((pre ++ suf).length : Int) = f0.length → out.length ≤ pre.length → (∀ x ∈ suf, -1 ≤ x ∧ x < f1.length) →
  Ev (fun k => impl_ranks.l0 k out (pre ++ suf) ((pre ++ suf).length : Int) pre.length f0 f1 f2) (out ++ ranksGo f0 pre.length suf) := by
 induction suf with
 | nil =>
  intro pre out h ho hx
  refine Ev.succ ?_
  simp only [impl_ranks.l0, List.append_nil, Int.lt_irrefl, if_false, ranksGo]
  exact Ev.now _
 | cons x suf ih =>
  intro pre out h ho hx
  refine Ev.succ ?_
  rw [len_mid] at h ⊢
  have hxx := hx x (List.mem_cons_self ..)
  have := fun o ho => ih (pre ++ [x]) o (by rw [← app_one, len_mid]; exact h) ho (fun y hm => hx y (List.mem_cons_of_mem _ hm))
  rw [← app_one, len_mid, len_one] at this
  have hp := w.pg pre.length (by omega) (by omega)
  have h2 := this (out ++ [pl (row_ f0 pre.length) x]) (by simp only [List.length_append, List.length_singleton]; omega)
  rw [← app_one] at h2
  simp only [impl_ranks.l0, ranksGo]
  simp only [if_pos (show ((pre.length : Int) < pre.length + suf.length + 1) by omega), if_pos (show (0 : Int) ≤ pre.length by omega), len_mid, rd_mid, wrap_id (show (-9223372036854775808 : Int) ≤ pre.length + 1 by omega) (show ((pre.length : Int) + 1 ≤ 9223372036854775807) by omega), rowL_is]
  by_cases hn : x ≥ 0
  ·simp only [if_pos hn, if_pos (show (pre.length : Int) < (f0.length : Int) by omega)]
   refine Ev.bind (ixEv hp (by omega) hn hxx.2) ?_
   simp only [if_pos (show out.length < 17592186044416 by omega)]
   exact h2
  ·simp only [if_neg hn, if_pos (show out.length < 17592186044416 by omega)]
   rw [hp.pl_out (by omega)] at h2 ⊢
   exact h2
def ranksM (f0 : List (List Int)) (m : List Int) : List Int := ranksGo f0 0 m
theorem ranksM_len (f0 : List (List Int)) (m : List Int) : (ranksM f0 m).length = m.length := ranksGo_len f0 m 0
theorem ranksM_at (f0 : List (List Int)) (m : List Int) {g : Int} (h0 : 0 ≤ g) (h1 : g < m.length) : rd (ranksM f0 m) g = pl (row_ f0 g) (rd m g) := by
 have := ranksGo_at f0 m 0 g.toNat (by omega)
 rw [show (0 : Int) + ((g.toNat : Nat) : Int) = g by omega, show ((g.toNat : Nat) : Int) = g by omega] at this
 exact this
theorem implRanks_ev {f0 f1 : List (List Int)} {f2 m : List Int} (h : Bd f0 f1 f2 m) : Ev (fun k => impl_ranks.f k f0 f1 f2 m) (ranksM f0 m) := by
 have := implRanks_l h.w h.lg h.ls m [] [] (by have := h.lm; simp only [List.nil_append]; omega) (by simp) h.low
 exact this
theorem implBlock_l1 {f0 f1 : List (List Int)} {f2 m : List Int} (h : Bd f0 f1 f2 m) {g : Int} (h0 : 0 ≤ g) (h1 : g < f0.length) (R : Int × Int × Bool)
  (hR : Ev (fun k => impl_blocking.l0 k m (ranksM f0 m) (f0.length : Int) (wrap64 (g + 1)) f0 f1 f2) R) (d : Nat) : ∀ (j : Int), 0 ≤ j → j + d = f1.length →
  Ev (fun k => impl_blocking.l1 k m (ranksM f0 m) g (f0.length : Int) g (f1.length : Int) j f0 f1 f2) (match blkS (blk f0 f1 f2 m g) d j with
   | some s => (g, s, true)
   | none => R) := by
 have hg := h.lg
 have hs := h.ls
 have hm := h.lm
 have hr := h.lr
 have hp := h.w.pg g h0 h1
 have hpl := hp.len
 have hat := bd_at h h0 (show g < m.length by omega)
 induction d with
 | zero =>
  intro j hj hd
  refine Ev.succ ?_
  simp only [impl_blocking.l1, if_neg (show ¬ j < (f1.length : Int) by omega), blkS]
  exact hR
 | succ d ih =>
  intro j hj hd
  refine Ev.succ ?_
  have h' := ih (j + 1) (by omega) (by omega)
  simp only [impl_blocking.l1, if_pos (show j < (f1.length : Int) by omega), if_pos h0, if_pos h1, rowL_is, wrap_id (show (-9223372036854775808 : Int) ≤ j + 1 by omega) (show (j + 1 ≤ 9223372036854775807) by omega)]
  refine Ev.bind (ixEv hp (by omega) hj (by omega)) ?_
  simp only [ranksM_len, if_pos (show g < (m.length : Int) by omega), ranksM_at f0 m h0 (show g < m.length by omega)]
  rw [blkS]
  unfold blk at h' ⊢
  by_cases hlt : pl (row_ f0 g) j < pl (row_ f0 g) (rd m g)
  ·have hne : rd m g ≠ j := fun e => by rw [e] at hlt; omega
   simp only [if_neg (show ¬ pl (row_ f0 g) j ≥ pl (row_ f0 g) (rd m g) by omega), decide_eq_true hlt, Bool.true_and]
   refine Ev.bind (implTakes_ev h.w (by omega) (by omega) (by omega) h.low j g hj (by omega) h0 h1) ?_
   rw [takes_would h.w (by omega) hj (by omega) h0 h1 hne]
   by_cases hw : wouldM f1 f2 m j g = true
   ·simp only [if_pos hw]
    exact Ev.now _
   ·simp only [if_neg hw]
    exact h'
  ·simp only [if_pos (show pl (row_ f0 g) j ≥ pl (row_ f0 g) (rd m g) by omega), decide_eq_false hlt, Bool.false_and, Bool.false_eq_true, if_false]
   exact h'
theorem implBlock_l0 {f0 f1 : List (List Int)} {f2 m : List Int} (h : Bd f0 f1 f2 m) (d : Nat) : ∀ (g : Int), 0 ≤ g → g + d = f0.length →
  Ev (fun k => impl_blocking.l0 k m (ranksM f0 m) (f0.length : Int) g f0 f1 f2) (match blkG (blk f0 f1 f2 m) f1.length d g with
   | some p => (p.1, p.2, true)
   | none => (0, 0, false)) := by
 have hg := h.lg
 induction d with
 | zero =>
  intro g h0 hd
  refine Ev.succ ?_
  simp only [impl_blocking.l0, if_neg (show ¬ g < (f0.length : Int) by omega), blkG]
  exact Ev.now _
 | succ d ih =>
  intro g h0 hd
  refine Ev.succ ?_
  have h' := ih (g + 1) (by omega) (by omega)
  simp only [impl_blocking.l0, if_pos (show g < (f0.length : Int) by omega)]
  have := implBlock_l1 h h0 (by omega) _ (by rw [wrap_id (show (-9223372036854775808 : Int) ≤ g + 1 by omega) (show (g + 1 ≤ 9223372036854775807) by omega)]; exact h') f1.length 0 (by omega) (by omega)
  rw [blkG]
  cases hb : blkS (blk f0 f1 f2 m g) f1.length 0 with
  | some s =>
   rw [hb] at this
   exact this
  | none =>
   rw [hb] at this
   exact this
def blockR (f0 f1 : List (List Int)) (f2 m : List Int) : Int × Int × Bool := match blockM f0 f1 f2 m with
 | some p => (p.1, p.2, true)
 | none => (0, 0, false)
theorem implBlocking_ev {f0 f1 : List (List Int)} {f2 m : List Int} (h : Bd f0 f1 f2 m) : Ev (fun k => impl_blocking.f k f0 f1 f2 m) (blockR f0 f1 f2 m) := by
 unfold impl_blocking.f
 refine Ev.bind (implRanks_ev h) ?_
 exact implBlock_l0 h f0.length 0 (by omega) (by omega)
theorem block_low {f0 f1 : List (List Int)} {f2 m : List Int} {p : Int × Int} (h : blockM f0 f1 f2 m = some p) : blk f0 f1 f2 m p.1 p.2 = true ∧ 0 ≤ p.1 ∧ p.1 < f0.length ∧ 0 ≤ p.2 ∧ p.2 < f1.length := by
 have := blkG_ok (blk f0 f1 f2 m) f1.length f0.length 0
 unfold blockM at h
 rw [h] at this
 obtain ⟨x, s⟩ := p
 obtain ⟨h1, h2, h3, h4, h5⟩ := this
 exact ⟨h1, h2, by show x < _; omega, h4, h5⟩
def isStable (f0 f1 : List (List Int)) (f2 m : List Int) : Bool × Bool := if goodM f0 f1 f2 m = true then (!(blockR f0 f1 f2 m).2.2, true) else (false, false)
theorem specIsStable_ev {f0 f1 : List (List Int)} {f2 : List Int} (ok : okW f0 f1 f2) (m : List Int) (hm : m.length ≤ 1048576) : Ev (fun k => spec_IsStable.f k f0 f1 f2 m) (isStable f0 f1 f2 m) := by
 unfold spec_IsStable.f isStable
 refine Ev.bind (specGoodM_ev ok m hm) ?_
 by_cases h : goodM f0 f1 f2 m = true
 ·simp only [if_pos h]
  refine Ev.bind (specBlock_ev (bd_of h)) ?_
  refine Ev.some_ ?_
  unfold blockR
  cases hb : blockM f0 f1 f2 m with
  | some p =>
   have := block_low hb
   simp only [Option.getD_some, decide_eq_false (show ¬ p.1 < 0 by omega), Bool.not_true]
  | none => rfl
 ·simp only [if_neg h]
  exact Ev.now _
theorem implIsStable_ev {f0 f1 : List (List Int)} {f2 : List Int} (ok : okW f0 f1 f2) (m : List Int) (hm : m.length ≤ 1048576) : Ev (fun k => impl_IsStable.f k f0 f1 f2 m) (isStable f0 f1 f2 m) := by
 unfold impl_IsStable.f isStable
 refine Ev.bind (implGoodM_ev ok m hm) ?_
 by_cases h : goodM f0 f1 f2 m = true
 ·simp only [if_pos h]
  exact Ev.bind (implBlocking_ev (bd_of h)) (Ev.now _)
 ·simp only [if_neg h]
  exact Ev.now _
end Go.Proofs.Ytoipbblhmcpneaa.P

namespace Go.Proofs.Ytoipbblhmcpneaa.Pure
open Go.RowKit Go.Proofs.Ytoipbblhmcpneaa.P Go.Proofs.YtoipbblhmcpneaaW.PrintWords Go.Proofs.YtoipbblhmcpneaaW.PrintLast
set_option linter.unusedVariables false
set_option linter.unusedSimpArgs false
theorem FnExactIsStable : laws_FnExactIsStable.Pure := by
 intro s l hs _
 obtain ⟨⟨h0, h0'⟩, ⟨h1, h1'⟩, h2, h2'⟩ := hs
 refine Ev.rounds ?_
 unfold laws_FnExactIsStable.f
 by_cases hq : (l.length : Int) > 1048576
 ·simp only [if_pos hq]
  exact Ev.now _
 simp only [if_neg hq]
 have hl : l.length ≤ 1048576 := by omega
 obtain ⟨r, er, hr⟩ := szWishes_ev s.f0 s.f1 s.f2 h0 (fun x hx => (h0' x hx).1) h1 (fun x hx => (h1' x hx).1) h2
 refine Ev.bind er ?_
 by_cases h : r < 0
 ·simp only [if_pos h]
  exact Ev.now _
 ·simp only [if_neg h]
  have ok := hr h
  refine Ev.bind (toWishes_ev ok) ?_
  refine Ev.bind (toIntS_ev l hl) ?_
  refine Ev.bind (specIsStable_ev ok l hl) ?_
  refine Ev.bind (toWishes_ev ok) ?_
  refine Ev.bind (toIntS_ev l hl) ?_
  refine Ev.bind (implIsStable_ev ok l hl) ?_
  simp only [bne_self_eq_false, Bool.false_eq_true, if_false]
  refine Ev.succ ?_
  simp only [laws_FnExactIsStable.j0, Bool.false_eq_true, if_false]
  refine Ev.bind (toWishes_ev ok) ?_
  refine Ev.bind (eqWishes_ev ok) ?_
  simp only [if_true]
  refine Ev.bind (toIntS_ev l hl) ?_
  refine Ev.bind (eqIntS_ev _ _ (by omega)) ?_
  simp only [decide_true, if_true]
  exact Ev.now _
end Go.Proofs.Ytoipbblhmcpneaa.Pure
