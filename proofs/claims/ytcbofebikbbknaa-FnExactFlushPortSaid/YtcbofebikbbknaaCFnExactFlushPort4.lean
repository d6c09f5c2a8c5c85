/- Functions, walks and plain lemmas that the law FnExactFlushPort reaches, part 4. -/
import Derived.Test.YtcbofebikbbknaaCFnExactFlushPort3
import Derived.WalkKit
import Derived.ProofKit
import Derived.OpenShut
import Derived.ChangeOld
import Derived.Below
import Derived.SizedLaws
import Derived.ChangeArms
import Derived.DataElems
import Derived.Deep.Draws
import Derived.Deep.AppendLies
import Derived.Maps.AppendAt
import Derived.OwnWalk
import Derived.Laws.BytesArg
import Derived.Laws.MakeOwn
import Derived.Laws.OwnMore
import Derived.Deep.OwnRows
import Derived.Tactics
import Derived.Lib.ConvBytes
import Derived.Laws.Slices
import Derived.KernelRfl
import Derived.RowKit3
import Derived.Deep.LoopGhost
import Derived.Deep.QuietTactic
import Derived.BigQuiet
import Derived.WideLaws
import Derived.Deep.DeepCutAuto
import Derived.Deep.CutBlock
import Derived.Deep.RegionHeld3
import Derived.Laws.Rows
import Derived.Lib.AppendStr
import Derived.ArgAppend
import Derived.Laws.IdiomCopy
import Derived.OrdersHeld
import Derived.Laws.BitsLemmas
import Derived.RowKit
import Derived.WalkSpells
import Derived.Lib.SliceRun
import Derived.Shelf.Abstract
import Derived.ShutString
namespace Go.Proofs.Ytcbofebikbbknaa.P
open Go.RowKit Go.Proofs.YtcbofebikbbknaaW.PrintWords Go.Proofs.YtcbofebikbbknaaW.PrintLast Go.Proofs.YtcbofebikbbknaaW.PrintMore
attribute [local go_sem] max2_int min2_int max_two min_two max_three min_three max_four min_four   -- for this text's walks alone
set_option linter.unusedVariables false
set_option linter.unusedSimpArgs false
mutual
def laws_FnExactFlushPort.j0 : Nat → Int → Bool → Bool → Bool → Int → List (S51) → Int → List (S53) → Int → List (S53) → Int → List (S53) → Option (Bool)
 | 0, _, _, _, _, _, _, _, _, _, _, _, _ => none
 | k + 1, x1, x7, x10, x44, x433000, x433001, x444000, x444001, x449000, x449001, x455000, x455001 => if x44 = true then (some false) else ((laws_toTable.f k x433000 x433001).bind fun bt456 => ((laws_eqTable.f k x449000 x449001 bt456.1 bt456.2).bind fun t460 => (if t460 = true then ((laws_markTable.f k x449000 x449001 1).bind fun bt461 => (if bt461.1 < 0 then (laws_FnExactFlushPort.j1 k x1 x7 true x433000 x433001 x444000 x444001 x455000 x455001) else ((laws_eqTable.f k x455000 x455001 x444000 x444001).bind fun t463 => (if t463 = true then (laws_FnExactFlushPort.j1 k x1 x7 (x10 != x7) x433000 x433001 x444000 x444001 x455000 x455001) else (laws_FnExactFlushPort.j1 k x1 x7 true x433000 x433001 x444000 x444001 x455000 x455001))))) else (some false))))
def laws_FnExactFlushPort.j1 : Nat → Int → Bool → Bool → Int → List (S51) → Int → List (S53) → Int → List (S53) → Option (Bool)
 | 0, _, _, _, _, _, _, _, _, _ => none
 | k + 1, x1, x7, x65, x433000, x433001, x444000, x444001, x455000, x455001 => if x65 = true then (some false) else ((laws_markTable.f k x455000 x455001 1).bind fun bt464 => ((laws_heldTable.f k x455000 bt464.2 1).bind fun t466 => (if t466 < 0 then (some false) else (if t466 = bt464.1 then ((laws_toTable.f k x433000 x433001).bind fun bt467 => ((impl_FlushPort.f k bt467.1 bt467.2 x1).bind fun bt471 => ((laws_eqTable.f k bt471.1 bt471.2.1 x444000 x444001).bind fun t477 => (if t477 = true then (laws_FnExactFlushPort.j2 k bt464.1 (bt471.2.2 != x7) x455000 bt464.2) else (laws_FnExactFlushPort.j2 k bt464.1 true x455000 bt464.2))))) else (some false)))))
def laws_FnExactFlushPort.j2 : Nat → Int → Bool → Int → List (S53) → Option (Bool)
 | 0, _, _, _, _ => none
 | k + 1, x12, x92, x455000, x455001 => if x92 = true then (some false) else ((laws_heldTable.f k x455000 x455001 1).bind fun t478 => (if t478 < 0 then (some false) else (if t478 = x12 then (some true) else (some false))))
end
def laws_FnExactFlushPort.f (k : Nat) (a0_0 : Int) (l0_1 : List (S51)) (a1 : Int) : Option (Bool) := (laws_szTable.f a0_0 l0_1 1048576).bind fun t433 => (if t433 < 0 then (some true) else ((laws_toTable.f k a0_0 l0_1).bind fun bt434 => ((spec_FlushPort.f k bt434.1 bt434.2 a1).bind fun bt438 => ((laws_toTable.f k a0_0 l0_1).bind fun bt444 => ((impl_FlushPort.f k bt444.1 bt444.2 a1).bind fun bt449 => ((laws_eqTable.f k bt449.1 bt449.2.1 bt438.1 bt438.2.1).bind fun t455 => (if t455 = true then (laws_FnExactFlushPort.j0 k a1 bt438.2.2 bt449.2.2 (bt449.2.2 != bt438.2.2) a0_0 l0_1 bt438.1 bt438.2.1 bt444.1 bt444.2 bt449.1 bt449.2.1) else (laws_FnExactFlushPort.j0 k a1 bt438.2.2 bt449.2.2 true a0_0 l0_1 bt438.1 bt438.2.1 bt444.1 bt444.2 bt449.1 bt449.2.1))))))))
set_option maxHeartbeats 8000000 in
set_option maxRecDepth 100000 in
theorem laws_FnExactFlushPort.calls (k : Nat) (a0_0 : Int) (A0_1 : Option Addr) (c0_1 : Nat) (l0_1 : List (S51)) (a1 : Int) (r : Bool) (w : World) (hr0_1 : Kd.C k51 w A0_1 l0_1.length l0_1) (hc0_1 : l0_1.length ≤ c0_1) (h : laws_FnExactFlushPort.f k a0_0 l0_1 a1 = some r) :
  Calls Try.prog 8 #[.agg #[.int .i64 a0_0, .slice A0_1 l0_1.length c0_1], .int .i64 a1] w fun e w' => e = .returned (.bool r) ∧ Below w.heap.size w w' := by
 have hu32 := Try.underlying32
 have hu24 := Try.underlying24
 have HR0_1 := Aside0.mk hr0_1
 have HC0_1 := Aside0.mk hc0_1
 clear hr0_1 hc0_1
 have HB := Aside0.mk (Below.refl w.heap.size w)
 have H : ((laws_szTable.f a0_0 l0_1 1048576).bind fun t433 => (if t433 < 0 then (some true) else ((laws_toTable.f k a0_0 l0_1).bind fun bt434 => ((spec_FlushPort.f k bt434.1 bt434.2 a1).bind fun bt438 => ((laws_toTable.f k a0_0 l0_1).bind fun bt444 => ((impl_FlushPort.f k bt444.1 bt444.2 a1).bind fun bt449 => ((laws_eqTable.f k bt449.1 bt449.2.1 bt438.1 bt438.2.1).bind fun t455 => (if t455 = true then (laws_FnExactFlushPort.j0 k a1 bt438.2.2 bt449.2.2 (bt449.2.2 != bt438.2.2) a0_0 l0_1 bt438.1 bt438.2.1 bt444.1 bt444.2 bt449.1 bt449.2.1) else (laws_FnExactFlushPort.j0 k a1 bt438.2.2 bt449.2.2 true a0_0 l0_1 bt438.1 bt438.2.1 bt444.1 bt444.2 bt449.1 bt449.2.1))))))))) = some r := h
 clear h
 replace H := Option.bind_eq_some_iff.mp H
 obtain ⟨t433, A30, H⟩ := H
 replace H : (if t433 < 0 then (some true) else ((laws_toTable.f k a0_0 l0_1).bind fun bt434 => ((spec_FlushPort.f k bt434.1 bt434.2 a1).bind fun bt438 => ((laws_toTable.f k a0_0 l0_1).bind fun bt444 => ((impl_FlushPort.f k bt444.1 bt444.2 a1).bind fun bt449 => ((laws_eqTable.f k bt449.1 bt449.2.1 bt438.1 bt438.2.1).bind fun t455 => (if t455 = true then (laws_FnExactFlushPort.j0 k a1 bt438.2.2 bt449.2.2 (bt449.2.2 != bt438.2.2) a0_0 l0_1 bt438.1 bt438.2.1 bt444.1 bt444.2 bt449.1 bt449.2.1) else (laws_FnExactFlushPort.j0 k a1 bt438.2.2 bt449.2.2 true a0_0 l0_1 bt438.1 bt438.2.1 bt444.1 bt444.2 bt449.1 bt449.2.1)))))))) = some r := H
 have A3 := Aside0.mk A30
 clear A30
 by_cases c4 : t433 < 0
 ·rw [if_pos c4] at H
  have c4b0 : decide (t433 < 0) = true := decide_eq_true c4
  clear c4
  obtain rfl := Option.some.inj H
  go_enter Try.func8, Try.ntmps8
  go_wp2_with (first | ((with_reducible refine gate_dst (N := 2) rfl ?_); refine box_event ?hg (N := 2) ?hd (cs := #[.int .i64 a0_0, .slice A0_1 l0_1.length c0_1]) (t := 32) ?hr ?_; (case hd => rfl); (case hg => rfl); (case hr => first | (go_simp; done) | (go_simp; rfl)); intro gb432 hg w5 hbox hb; have n0_ := Aside0.mk (below_step (by repeat (first | (with_reducible first | exact HB.out | apply below_alloc | apply pw_below_drewN | apply below_drew1) | exact HB.out)) hb); have n1_ := Aside0.mk (hbox); have n2_ := Aside0.mk ((by rw [hg]; exact (below_size (by repeat (first | (with_reducible first | exact HB.out | apply below_alloc | apply pw_below_drewN | apply below_drew1) | exact HB.out))) : w.heap.size ≤ gb432)); have n3_ := Aside0.mk ((by rw [hg]; exact (below_size (by repeat (first | (with_reducible first | exact HB.out | apply below_alloc | apply pw_below_drewN | apply below_drew1) | exact HB.out))) : w.heap.size ≤ gb432)); clear HB; have HB := n0_; have BK432 := n1_; have GW432 := n2_; have GE432 := n3_; clear n0_ n1_ n2_ n3_; clear hb hbox hg; have hcz6_0 : w5.cell? ⟨gb432, 0, none⟩ = some (.int .i64 a0_0) := (blk_cell BK432.out 0).trans rfl; have hcz6_1 : w5.cell? ⟨gb432, 1, none⟩ = some (.slice A0_1 l0_1.length c0_1) := (blk_cell BK432.out 1).trans rfl; have hfz6_0 := blk_frozen BK432.out 0; have hfz6_1 := blk_frozen BK432.out 1) | ((with_reducible refine gate_callee (f := 17) rfl ?_); refine goesL_ (some 18) rfl rfl Try.func17 (by kernel_rfl) rfl #[.agg #[.int .i64 a0_0, .slice A0_1 l0_1.length c0_1], .int .i64 1048576] rfl (by (try simp only [List.map_toArray, List.map_cons, List.map_nil]); first | done | rfl | (simp only [List.length_drop, List.length_take]; rfl)) ?_; (with_reducible refine (laws_szTable.calls a0_0 _ _ l0_1 1048576 t433 _ ?side1 ?side2 A3.out).mono ?_); (case side1 => repeat (first | exact (Kd.C_below HR0_1.out HB.out) | (with_reducible refine Kd.C_alloc ?_ _) | (with_reducible refine Kd.C_drewN ?_ _) | (with_reducible refine Kd.C_drew ?_))); (case side2 => exact HC0_1.out); rintro e w7 ⟨rfl, hb⟩; refine ⟨_, rfl, ?_⟩; have n0_ := Aside0.mk (blk_below (g := gb432) (o := .cells #[.int .i64 a0_0, .slice A0_1 l0_1.length c0_1] 32 (0, 0)) (by (with_reducible repeat (first | refine blk_drewN ?_ _ | refine blk_drew ?_ | refine blk_alloc ?_ _)); exact BK432.out) hb); have n1_ := Aside0.mk (below_step (by repeat (first | (with_reducible first | exact HB.out | apply below_alloc | apply pw_below_drewN | apply below_drew1 | refine below_set ?_ GE432.out) | exact HB.out)) hb); clear BK432; clear HB; have BK432 := n0_; have HB := n1_; clear n0_ n1_; (try clear hb); (try clear hb2); (try clear hk); (try clear hi)))
  go_ret
  exact ⟨by first | rfl | (simp [errW_none, errW_some] <;> rfl) | (simp [*, errW_none, errW_some] <;> rfl), by repeat (first | (with_reducible first | exact HB.out | apply below_alloc | apply pw_below_drewN | apply below_drew1 | refine below_set ?_ GE432.out) | exact HB.out)⟩
 ·rw [if_neg c4] at H
  have c4b0 : decide (t433 < 0) = false := decide_eq_false c4
  clear c4
  replace H := Option.bind_eq_some_iff.mp H
  obtain ⟨⟨t434, t435⟩, A80, H⟩ := H
  replace H : ((spec_FlushPort.f k t434 t435 a1).bind fun bt438 => ((laws_toTable.f k a0_0 l0_1).bind fun bt444 => ((impl_FlushPort.f k bt444.1 bt444.2 a1).bind fun bt449 => ((laws_eqTable.f k bt449.1 bt449.2.1 bt438.1 bt438.2.1).bind fun t455 => (if t455 = true then (laws_FnExactFlushPort.j0 k a1 bt438.2.2 bt449.2.2 (bt449.2.2 != bt438.2.2) a0_0 l0_1 bt438.1 bt438.2.1 bt444.1 bt444.2 bt449.1 bt449.2.1) else (laws_FnExactFlushPort.j0 k a1 bt438.2.2 bt449.2.2 true a0_0 l0_1 bt438.1 bt438.2.1 bt444.1 bt444.2 bt449.1 bt449.2.1)))))) = some r := H
  have A8 := Aside0.mk A80
  clear A80
  replace H := Option.bind_eq_some_iff.mp H
  obtain ⟨⟨t438, t439, t442⟩, A90, H⟩ := H
  replace H : ((laws_toTable.f k a0_0 l0_1).bind fun bt444 => ((impl_FlushPort.f k bt444.1 bt444.2 a1).bind fun bt449 => ((laws_eqTable.f k bt449.1 bt449.2.1 t438 t439).bind fun t455 => (if t455 = true then (laws_FnExactFlushPort.j0 k a1 t442 bt449.2.2 (bt449.2.2 != t442) a0_0 l0_1 t438 t439 bt444.1 bt444.2 bt449.1 bt449.2.1) else (laws_FnExactFlushPort.j0 k a1 t442 bt449.2.2 true a0_0 l0_1 t438 t439 bt444.1 bt444.2 bt449.1 bt449.2.1))))) = some r := H
  have A9 := Aside0.mk A90
  clear A90
  replace H := Option.bind_eq_some_iff.mp H
  obtain ⟨⟨t444, t445⟩, A100, H⟩ := H
  replace H : ((impl_FlushPort.f k t444 t445 a1).bind fun bt449 => ((laws_eqTable.f k bt449.1 bt449.2.1 t438 t439).bind fun t455 => (if t455 = true then (laws_FnExactFlushPort.j0 k a1 t442 bt449.2.2 (bt449.2.2 != t442) a0_0 l0_1 t438 t439 t444 t445 bt449.1 bt449.2.1) else (laws_FnExactFlushPort.j0 k a1 t442 bt449.2.2 true a0_0 l0_1 t438 t439 t444 t445 bt449.1 bt449.2.1)))) = some r := H
  have A10 := Aside0.mk A100
  clear A100
  replace H := Option.bind_eq_some_iff.mp H
  obtain ⟨⟨t449, t450, t453⟩, A110, H⟩ := H
  replace H : ((laws_eqTable.f k t449 t450 t438 t439).bind fun t455 => (if t455 = true then (laws_FnExactFlushPort.j0 k a1 t442 t453 (t453 != t442) a0_0 l0_1 t438 t439 t444 t445 t449 t450) else (laws_FnExactFlushPort.j0 k a1 t442 t453 true a0_0 l0_1 t438 t439 t444 t445 t449 t450))) = some r := H
  have A11 := Aside0.mk A110
  clear A110
  have HC12 := Aside0.mk H
  clear H
  go_enter Try.func8, Try.ntmps8
  go_upto_region 8 with (first | ((with_reducible refine gate_dst (N := 2) rfl ?_); refine box_event ?hg (N := 2) ?hd (cs := #[.int .i64 a0_0, .slice A0_1 l0_1.length c0_1]) (t := 32) ?hr ?_; (case hd => rfl); (case hg => rfl); (case hr => first | (go_simp; done) | (go_simp; rfl)); intro gb432 hg w13 hbox hb; have n0_ := Aside0.mk (below_step (by repeat (first | (with_reducible first | exact HB.out | apply below_alloc | apply pw_below_drewN | apply below_drew1) | exact HB.out)) hb); have n1_ := Aside0.mk (hbox); have n2_ := Aside0.mk ((by rw [hg]; exact (below_size (by repeat (first | (with_reducible first | exact HB.out | apply below_alloc | apply pw_below_drewN | apply below_drew1) | exact HB.out))) : w.heap.size ≤ gb432)); have n3_ := Aside0.mk ((by rw [hg]; exact (below_size (by repeat (first | (with_reducible first | exact HB.out | apply below_alloc | apply pw_below_drewN | apply below_drew1) | exact HB.out))) : w.heap.size ≤ gb432)); clear HB; have HB := n0_; have BK432 := n1_; have GW432 := n2_; have GE432 := n3_; clear n0_ n1_ n2_ n3_; clear hb hbox hg; have hcz14_0 : w13.cell? ⟨gb432, 0, none⟩ = some (.int .i64 a0_0) := (blk_cell BK432.out 0).trans rfl; have hcz14_1 : w13.cell? ⟨gb432, 1, none⟩ = some (.slice A0_1 l0_1.length c0_1) := (blk_cell BK432.out 1).trans rfl; have hfz14_0 := blk_frozen BK432.out 0; have hfz14_1 := blk_frozen BK432.out 1) | ((with_reducible refine gate_callee (f := 17) rfl ?_); refine goesL_ (some 18) rfl rfl Try.func17 (by kernel_rfl) rfl #[.agg #[.int .i64 a0_0, .slice A0_1 l0_1.length c0_1], .int .i64 1048576] rfl (by (try simp only [List.map_toArray, List.map_cons, List.map_nil]); first | done | rfl | (simp only [List.length_drop, List.length_take]; rfl)) ?_; (with_reducible refine (laws_szTable.calls a0_0 _ _ l0_1 1048576 t433 _ ?side1 ?side2 A3.out).mono ?_); (case side1 => repeat (first | exact (Kd.C_below HR0_1.out HB.out) | (with_reducible refine Kd.C_alloc ?_ _) | (with_reducible refine Kd.C_drewN ?_ _) | (with_reducible refine Kd.C_drew ?_))); (case side2 => exact HC0_1.out); rintro e w15 ⟨rfl, hb⟩; refine ⟨_, rfl, ?_⟩; have n0_ := Aside0.mk (blk_below (g := gb432) (o := .cells #[.int .i64 a0_0, .slice A0_1 l0_1.length c0_1] 32 (0, 0)) (by (with_reducible repeat (first | refine blk_drewN ?_ _ | refine blk_drew ?_ | refine blk_alloc ?_ _)); exact BK432.out) hb); have n1_ := Aside0.mk (below_step (by repeat (first | (with_reducible first | exact HB.out | apply below_alloc | apply pw_below_drewN | apply below_drew1 | refine below_set ?_ GE432.out) | exact HB.out)) hb); clear BK432; clear HB; have BK432 := n0_; have HB := n1_; clear n0_ n1_; (try clear hb); (try clear hb2); (try clear hk); (try clear hi); have hcz16_0 : w15.cell? ⟨gb432, 0, none⟩ = some (.int .i64 a0_0) := (blk_cell BK432.out 0).trans rfl; have hcz16_1 : w15.cell? ⟨gb432, 1, none⟩ = some (.slice A0_1 l0_1.length c0_1) := (blk_cell BK432.out 1).trans rfl; have hfz16_0 := blk_frozen BK432.out 0; have hfz16_1 := blk_frozen BK432.out 1) | ((with_reducible refine gate_callee (f := 19) rfl ?_); refine goesL_ (some 23) rfl rfl Try.func19 (by kernel_rfl) rfl #[.agg #[.int .i64 a0_0, .slice A0_1 l0_1.length c0_1]] rfl (by (try simp only [List.map_toArray, List.map_cons, List.map_nil]); first | done | rfl | (simp only [List.length_drop, List.length_take]; rfl)) ?_; (with_reducible refine (laws_toTable.calls k a0_0 _ _ l0_1 t434 t435 _ ?side1 ?side2 A8.out).mono ?_); (case side1 => repeat (first | exact (Kd.C_below HR0_1.out HB.out) | (with_reducible refine Kd.C_alloc ?_ _) | (with_reducible refine Kd.C_drewN ?_ _) | (with_reducible refine Kd.C_drew ?_))); (case side2 => exact HC0_1.out); rintro e w17 ⟨v436, rfl, ho0, hb⟩; refine ⟨_, rfl, ?_⟩; have n0_ := Aside0.mk (Kd.R_lower ho0 (below_size (by repeat (first | (with_reducible first | exact HB.out | apply below_alloc | apply pw_below_drewN | apply below_drew1 | refine below_set ?_ GE432.out) | exact HB.out)))); have n1_ := Aside0.mk (blk_below (g := gb432) (o := .cells #[.int .i64 a0_0, .slice A0_1 l0_1.length c0_1] 32 (0, 0)) (by (with_reducible repeat (first | refine blk_drewN ?_ _ | refine blk_drew ?_ | refine blk_alloc ?_ _)); exact BK432.out) hb); have n2_ := Aside0.mk (below_step (by repeat (first | (with_reducible first | exact HB.out | apply below_alloc | apply pw_below_drewN | apply below_drew1 | refine below_set ?_ GE432.out) | exact HB.out)) hb); clear BK432; clear HB; have HO437 := n0_; have BK432 := n1_; have HB := n2_; clear n0_ n1_ n2_; (try clear hb); (try clear hb2); (try clear hk); (try clear hi); (try clear ho0); obtain ⟨Ao18, co18, eo18⟩ := Kd.R_slice HO437.out; subst eo18) | ((with_reducible refine gate_callee (f := 30) rfl ?_); refine goesL_ (some 25) rfl rfl Try.func30 (by kernel_rfl) rfl #[.agg #[.int .i64 t434, .slice Ao18 t435.length co18], .int .i64 a1] rfl (by (try simp only [List.map_toArray, List.map_cons, List.map_nil]); first | done | rfl | (simp only [List.length_drop, List.length_take]; rfl)) ?_; (with_reducible refine (spec_FlushPort.calls k t434 _ _ t435 a1 t438 t439 t442 _ ?side1 ?side2 A9.out).mono ?_); (case side1 => repeat (first | exact (Kd.R_reads' HO437.out).2.2 | (with_reducible refine Kd.C_alloc ?_ _) | (with_reducible refine Kd.C_drewN ?_ _) | (with_reducible refine Kd.C_drew ?_))); (case side2 => exact (Kd.R_reads' HO437.out).2.1); rintro e w19 ⟨v440, rfl, ho0, hb⟩; refine ⟨_, rfl, ?_⟩; have n0_ := Aside0.mk (Kd.R_elder' (by (with_reducible repeat (first | apply Kd.R_alloc | apply Kd.R_drewN | apply Kd.R_drew)); exact HO437.out) (Kd.R_base ho0) hb); have n1_ := Aside0.mk (Kd.R_lower (Kd.R_new' ho0 (Kd.R_lt (by (with_reducible repeat (first | apply Kd.R_alloc | apply Kd.R_drewN | apply Kd.R_drew)); exact HO437.out))) (below_size (by repeat (first | (with_reducible first | exact HB.out | apply below_alloc | apply pw_below_drewN | apply below_drew1 | refine below_set ?_ GE432.out) | exact HB.out)))); have n2_ := Aside0.mk (blk_below (g := gb432) (o := .cells #[.int .i64 a0_0, .slice A0_1 l0_1.length c0_1] 32 (0, 0)) (by (with_reducible repeat (first | refine blk_drewN ?_ _ | refine blk_drew ?_ | refine blk_alloc ?_ _)); exact BK432.out) hb); have n3_ := Aside0.mk (below_step (by repeat (first | (with_reducible first | exact HB.out | apply below_alloc | apply pw_below_drewN | apply below_drew1 | refine below_set ?_ GE432.out) | exact HB.out)) hb); clear HO437; clear BK432; clear HB; have HO437 := n0_; have HO441 := n1_; have BK432 := n2_; have HB := n3_; clear n0_ n1_ n2_ n3_; (try clear hb); (try clear hb2); (try clear hk); (try clear hi); (try clear ho0)) | ((with_reducible refine gate_dst (N := 6) rfl ?_); refine box_event ?hg (N := 6) ?hd (cs := #[.int .i64 0, .slice none 0 0]) (t := 24) ?hr ?_; (case hd => rfl); (case hg => rfl); (case hr => first | (go_simp; done) | (go_simp; rfl)); intro gb443 hg w20 hbox hb; have n0_ := Aside0.mk (Kd.R_below (by (with_reducible repeat (first | apply Kd.R_alloc | apply Kd.R_drewN | apply Kd.R_drew)); exact HO437.out) hb); have n1_ := Aside0.mk (Kd.R_below (by (with_reducible repeat (first | apply Kd.R_alloc | apply Kd.R_drewN | apply Kd.R_drew)); exact HO441.out) hb); have n2_ := Aside0.mk (blk_below (g := gb432) (o := .cells #[.int .i64 a0_0, .slice A0_1 l0_1.length c0_1] 32 (0, 0)) (by (with_reducible repeat (first | refine blk_drewN ?_ _ | refine blk_drew ?_ | refine blk_alloc ?_ _)); exact BK432.out) hb); have n3_ := Aside0.mk (below_step (by repeat (first | (with_reducible first | exact HB.out | apply below_alloc | apply pw_below_drewN | apply below_drew1 | refine below_set ?_ GE432.out) | exact HB.out)) hb); have n4_ := Aside0.mk (hbox); have n5_ := Aside0.mk ((by rw [hg]; exact (below_size (by repeat (first | (with_reducible first | exact HB.out | apply below_alloc | apply pw_below_drewN | apply below_drew1 | refine below_set ?_ GE432.out) | exact HB.out))) : w.heap.size ≤ gb443)); have n6_ := Aside0.mk ((by rw [hg]; exact (below_size (by repeat (first | (with_reducible first | exact HB.out | apply below_alloc | apply pw_below_drewN | apply below_drew1 | refine below_set ?_ GE432.out) | exact HB.out))) : w.heap.size ≤ gb443)); have n7_ := Aside0.mk ((by rw [hg]; exact Nat.ne_of_lt (blk_lt (g := gb432) (o := .cells #[.int .i64 a0_0, .slice A0_1 l0_1.length c0_1] 32 (0, 0)) (by (with_reducible repeat (first | refine blk_drewN ?_ _ | refine blk_drew ?_ | refine blk_alloc ?_ _)); exact BK432.out)) : gb432 ≠ gb443)); have n8_ := Aside0.mk ((by rw [hg]; exact Nat.ne_of_gt (blk_lt (g := gb432) (o := .cells #[.int .i64 a0_0, .slice A0_1 l0_1.length c0_1] 32 (0, 0)) (by (with_reducible repeat (first | refine blk_drewN ?_ _ | refine blk_drew ?_ | refine blk_alloc ?_ _)); exact BK432.out)) : gb443 ≠ gb432)); clear HO437; clear HO441; clear BK432; clear HB; have HO437 := n0_; have HO441 := n1_; have BK432 := n2_; have HB := n3_; have BK443 := n4_; have GW443 := n5_; have GE443 := n6_; have NB432_443 := n7_; have NB443_432 := n8_; clear n0_ n1_ n2_ n3_ n4_ n5_ n6_ n7_ n8_; clear hb hbox hg; have hnb21 := NB443_432.out; have hnc21 := NB432_443.out; have hcz22_0 : w20.cell? ⟨gb443, 0, none⟩ = some (.int .i64 0) := (blk_cell BK443.out 0).trans rfl; have hcz22_1 : w20.cell? ⟨gb443, 1, none⟩ = some (.slice none 0 0) := (blk_cell BK443.out 1).trans rfl; have hfz22_0 := blk_frozen BK443.out 0; have hfz22_1 := blk_frozen BK443.out 1; obtain ⟨Ao23, co23, eo23⟩ := Kd.R_slice HO441.out; subst eo23; have hcz24_0 : w20.cell? ⟨gb432, 0, none⟩ = some (.int .i64 a0_0) := (blk_cell BK432.out 0).trans rfl; have hcz24_1 : w20.cell? ⟨gb432, 1, none⟩ = some (.slice A0_1 l0_1.length c0_1) := (blk_cell BK432.out 1).trans rfl; have hfz24_0 := blk_frozen BK432.out 0; have hfz24_1 := blk_frozen BK432.out 1) | ((with_reducible refine gate_callee (f := 19) rfl ?_); refine goesL_ (some 29) rfl rfl Try.func19 (by kernel_rfl) rfl #[.agg #[.int .i64 a0_0, .slice A0_1 l0_1.length c0_1]] rfl (by (try simp only [List.map_toArray, List.map_cons, List.map_nil]); first | done | rfl | (simp only [List.length_drop, List.length_take]; rfl)) ?_; (with_reducible refine (laws_toTable.calls k a0_0 _ _ l0_1 t444 t445 _ ?side1 ?side2 A10.out).mono ?_); (case side1 => exact Kd.C_below HR0_1.out (by repeat (first | (with_reducible first | exact HB.out | apply below_alloc | apply pw_below_drewN | apply below_drew1 | refine below_set ?_ GE432.out | refine below_set ?_ GE443.out) | exact HB.out))); (case side2 => exact HC0_1.out); rintro e w25 ⟨v446, rfl, ho0, hb⟩; refine ⟨_, rfl, ?_⟩; have n0_ := Aside0.mk (Kd.R_elder' (by (with_reducible repeat (first | apply Kd.R_alloc | apply Kd.R_drewN | apply Kd.R_drew)); exact (Kd.R_mono (Kd.R_far (p := ⟨gb443, 1, none⟩) (Kd.R_far (p := ⟨gb443, 0, none⟩) (Kd.R_types HO437.out BK443.out (by decide)) (fun _ hk => hk.2) (.int .i64 t438)) (fun _ hk => hk.2) (.slice Ao23 t439.length co23)) (fun _ h_ => h_.1))) (Kd.R_base ho0) hb); have n1_ := Aside0.mk (Kd.R_elder' (by (with_reducible repeat (first | apply Kd.R_alloc | apply Kd.R_drewN | apply Kd.R_drew)); exact (Kd.R_mono (Kd.R_far (p := ⟨gb443, 1, none⟩) (Kd.R_far (p := ⟨gb443, 0, none⟩) (Kd.R_types HO441.out BK443.out (by decide)) (fun _ hk => hk.2) (.int .i64 t438)) (fun _ hk => hk.2) (.slice Ao23 t439.length co23)) (fun _ h_ => h_.1))) (Kd.R_base ho0) hb); have n2_ := Aside0.mk (Kd.R_lower (Kd.R_new' (Kd.R_new' ho0 (Kd.R_lt (by (with_reducible repeat (first | apply Kd.R_alloc | apply Kd.R_drewN | apply Kd.R_drew)); exact (Kd.R_mono (Kd.R_far (p := ⟨gb443, 1, none⟩) (Kd.R_far (p := ⟨gb443, 0, none⟩) (Kd.R_types HO437.out BK443.out (by decide)) (fun _ hk => hk.2) (.int .i64 t438)) (fun _ hk => hk.2) (.slice Ao23 t439.length co23)) (fun _ h_ => h_.1))))) (Kd.R_lt (by (with_reducible repeat (first | apply Kd.R_alloc | apply Kd.R_drewN | apply Kd.R_drew)); exact (Kd.R_mono (Kd.R_far (p := ⟨gb443, 1, none⟩) (Kd.R_far (p := ⟨gb443, 0, none⟩) (Kd.R_types HO441.out BK443.out (by decide)) (fun _ hk => hk.2) (.int .i64 t438)) (fun _ hk => hk.2) (.slice Ao23 t439.length co23)) (fun _ h_ => h_.1))))) (below_size (by repeat (first | (with_reducible first | exact HB.out | apply below_alloc | apply pw_below_drewN | apply below_drew1 | refine below_set ?_ GE432.out | refine below_set ?_ GE443.out) | exact HB.out)))); have n3_ := Aside0.mk (blk_below (g := gb432) (o := .cells #[.int .i64 a0_0, .slice A0_1 l0_1.length c0_1] 32 (0, 0)) (by (with_reducible repeat (first | refine blk_drewN ?_ _ | refine blk_drew ?_ | refine blk_alloc ?_ _)); refine blk_far ?_ NB432_443.out _; (with_reducible repeat (first | refine blk_drewN ?_ _ | refine blk_drew ?_ | refine blk_alloc ?_ _)); refine blk_far ?_ NB432_443.out _; (with_reducible repeat (first | refine blk_drewN ?_ _ | refine blk_drew ?_ | refine blk_alloc ?_ _)); exact BK432.out) hb); have n4_ := Aside0.mk (blk_below (g := gb443) (o := .cells #[.int .i64 t438, .slice Ao23 t439.length co23] 24 (0, 0)) (by (with_reducible repeat (first | refine blk_drewN ?_ _ | refine blk_drew ?_ | refine blk_alloc ?_ _)); refine blk_put (cs := #[.int .i64 t438, .slice none 0 0]) ?_ 1 _ rfl; (with_reducible repeat (first | refine blk_drewN ?_ _ | refine blk_drew ?_ | refine blk_alloc ?_ _)); refine blk_put (cs := #[.int .i64 0, .slice none 0 0]) ?_ 0 _ rfl; (with_reducible repeat (first | refine blk_drewN ?_ _ | refine blk_drew ?_ | refine blk_alloc ?_ _)); exact BK443.out) hb); have n5_ := Aside0.mk (below_step (by repeat (first | (with_reducible first | exact HB.out | apply below_alloc | apply pw_below_drewN | apply below_drew1 | refine below_set ?_ GE432.out | refine below_set ?_ GE443.out) | exact HB.out)) hb); clear HO437; clear HO441; clear BK432; clear BK443; clear HB; have HO437 := n0_; have HO441 := n1_; have HO447 := n2_; have BK432 := n3_; have BK443 := n4_; have HB := n5_; clear n0_ n1_ n2_ n3_ n4_ n5_; (try clear hb); (try clear hb2); (try clear hk); (try clear hi); (try clear ho0)) | ((with_reducible refine gate_dst (N := 8) rfl ?_); refine box_event ?hg (N := 8) ?hd (cs := #[.int .i64 0, .slice none 0 0]) (t := 24) ?hr ?_; (case hd => rfl); (case hg => rfl); (case hr => first | (go_simp; done) | (go_simp; rfl)); intro gb448 hg w26 hbox hb; have n0_ := Aside0.mk (Kd.R_below (by (with_reducible repeat (first | apply Kd.R_alloc | apply Kd.R_drewN | apply Kd.R_drew)); exact HO437.out) hb); have n1_ := Aside0.mk (Kd.R_below (by (with_reducible repeat (first | apply Kd.R_alloc | apply Kd.R_drewN | apply Kd.R_drew)); exact HO441.out) hb); have n2_ := Aside0.mk (Kd.R_below (by (with_reducible repeat (first | apply Kd.R_alloc | apply Kd.R_drewN | apply Kd.R_drew)); exact HO447.out) hb); have n3_ := Aside0.mk (blk_below (g := gb432) (o := .cells #[.int .i64 a0_0, .slice A0_1 l0_1.length c0_1] 32 (0, 0)) (by (with_reducible repeat (first | refine blk_drewN ?_ _ | refine blk_drew ?_ | refine blk_alloc ?_ _)); exact BK432.out) hb); have n4_ := Aside0.mk (blk_below (g := gb443) (o := .cells #[.int .i64 t438, .slice Ao23 t439.length co23] 24 (0, 0)) (by (with_reducible repeat (first | refine blk_drewN ?_ _ | refine blk_drew ?_ | refine blk_alloc ?_ _)); exact BK443.out) hb); have n5_ := Aside0.mk (below_step (by repeat (first | (with_reducible first | exact HB.out | apply below_alloc | apply pw_below_drewN | apply below_drew1 | refine below_set ?_ GE432.out | refine below_set ?_ GE443.out) | exact HB.out)) hb); have n6_ := Aside0.mk (hbox); have n7_ := Aside0.mk ((by rw [hg]; exact (below_size (by repeat (first | (with_reducible first | exact HB.out | apply below_alloc | apply pw_below_drewN | apply below_drew1 | refine below_set ?_ GE432.out | refine below_set ?_ GE443.out) | exact HB.out))) : w.heap.size ≤ gb448)); have n8_ := Aside0.mk ((by rw [hg]; exact (below_size (by repeat (first | (with_reducible first | exact HB.out | apply below_alloc | apply pw_below_drewN | apply below_drew1 | refine below_set ?_ GE432.out | refine below_set ?_ GE443.out) | exact HB.out))) : w.heap.size ≤ gb448)); have n9_ := Aside0.mk ((by rw [hg]; exact Nat.ne_of_lt (blk_lt (g := gb432) (o := .cells #[.int .i64 a0_0, .slice A0_1 l0_1.length c0_1] 32 (0, 0)) (by (with_reducible repeat (first | refine blk_drewN ?_ _ | refine blk_drew ?_ | refine blk_alloc ?_ _)); exact BK432.out)) : gb432 ≠ gb448)); have n10_ := Aside0.mk ((by rw [hg]; exact Nat.ne_of_gt (blk_lt (g := gb432) (o := .cells #[.int .i64 a0_0, .slice A0_1 l0_1.length c0_1] 32 (0, 0)) (by (with_reducible repeat (first | refine blk_drewN ?_ _ | refine blk_drew ?_ | refine blk_alloc ?_ _)); exact BK432.out)) : gb448 ≠ gb432)); have n11_ := Aside0.mk ((by rw [hg]; exact Nat.ne_of_lt (blk_lt (g := gb443) (o := .cells #[.int .i64 t438, .slice Ao23 t439.length co23] 24 (0, 0)) (by (with_reducible repeat (first | refine blk_drewN ?_ _ | refine blk_drew ?_ | refine blk_alloc ?_ _)); exact BK443.out)) : gb443 ≠ gb448)); have n12_ := Aside0.mk ((by rw [hg]; exact Nat.ne_of_gt (blk_lt (g := gb443) (o := .cells #[.int .i64 t438, .slice Ao23 t439.length co23] 24 (0, 0)) (by (with_reducible repeat (first | refine blk_drewN ?_ _ | refine blk_drew ?_ | refine blk_alloc ?_ _)); exact BK443.out)) : gb448 ≠ gb443)); clear HO437; clear HO441; clear HO447; clear BK432; clear BK443; clear HB; have HO437 := n0_; have HO441 := n1_; have HO447 := n2_; have BK432 := n3_; have BK443 := n4_; have HB := n5_; have BK448 := n6_; have GW448 := n7_; have GE448 := n8_; have NB432_448 := n9_; have NB448_432 := n10_; have NB443_448 := n11_; have NB448_443 := n12_; clear n0_ n1_ n2_ n3_ n4_ n5_ n6_ n7_ n8_ n9_ n10_ n11_ n12_; clear hb hbox hg; have hnb27 := NB448_432.out; have hnc27 := NB432_448.out; have hnb28 := NB448_443.out; have hnc28 := NB443_448.out; have hcz29_0 : w26.cell? ⟨gb448, 0, none⟩ = some (.int .i64 0) := (blk_cell BK448.out 0).trans rfl; have hcz29_1 : w26.cell? ⟨gb448, 1, none⟩ = some (.slice none 0 0) := (blk_cell BK448.out 1).trans rfl; have hfz29_0 := blk_frozen BK448.out 0; have hfz29_1 := blk_frozen BK448.out 1; obtain ⟨Ao30, co30, eo30⟩ := Kd.R_slice HO447.out; subst eo30) | ((with_reducible refine gate_callee (f := 31) rfl ?_); refine goesL_ (some 33) rfl rfl Try.func31 (by kernel_rfl) rfl #[.agg #[.int .i64 t444, .slice Ao30 t445.length co30], .int .i64 a1] rfl (by (try simp only [List.map_toArray, List.map_cons, List.map_nil]); first | done | rfl | (simp only [List.length_drop, List.length_take]; rfl)) ?_; (with_reducible refine (impl_FlushPort.calls k t444 _ _ t445 a1 t449 t450 t453 _ ?side1 ?side2 A11.out).mono ?_); (case side1 => refine (Kd.R_reads' (e := 53) (base := w.heap.size) (ok := fun k_ => ((True ∧ some k_ ≠ (.slice Ao18 t435.length co18 : Value).ownBlock) ∧ some k_ ≠ (.slice Ao23 t439.length co23 : Value).ownBlock)) (n := t445.length) (c := co30) ?_).2.2; exact (by (with_reducible repeat (first | apply Kd.R_alloc | apply Kd.R_drewN | apply Kd.R_drew)); exact (Kd.R_mono (Kd.R_far (p := ⟨gb448, 1, none⟩) (Kd.R_far (p := ⟨gb448, 0, none⟩) (Kd.R_types HO447.out BK448.out (by decide)) (fun _ hk => hk.2) (.int .i64 t444)) (fun _ hk => hk.2) (.slice Ao30 t445.length co30)) (fun _ h_ => h_.1)))); (case side2 => exact (Kd.R_reads' HO447.out).2.1); rintro e w31 ⟨v451, rfl, ho0, hb⟩; refine ⟨_, rfl, ?_⟩; have n0_ := Aside0.mk (Kd.R_elder' (by (with_reducible repeat (first | apply Kd.R_alloc | apply Kd.R_drewN | apply Kd.R_drew)); exact (Kd.R_mono (Kd.R_far (p := ⟨gb448, 1, none⟩) (Kd.R_far (p := ⟨gb448, 0, none⟩) (Kd.R_types HO437.out BK448.out (by decide)) (fun _ hk => hk.2) (.int .i64 t444)) (fun _ hk => hk.2) (.slice Ao30 t445.length co30)) (fun _ h_ => h_.1))) (Kd.R_base ho0) hb); have n1_ := Aside0.mk (Kd.R_elder' (by (with_reducible repeat (first | apply Kd.R_alloc | apply Kd.R_drewN | apply Kd.R_drew)); exact (Kd.R_mono (Kd.R_far (p := ⟨gb448, 1, none⟩) (Kd.R_far (p := ⟨gb448, 0, none⟩) (Kd.R_types HO441.out BK448.out (by decide)) (fun _ hk => hk.2) (.int .i64 t444)) (fun _ hk => hk.2) (.slice Ao30 t445.length co30)) (fun _ h_ => h_.1))) (Kd.R_base ho0) hb); have n2_ := Aside0.mk (Kd.R_elder' (by (with_reducible repeat (first | apply Kd.R_alloc | apply Kd.R_drewN | apply Kd.R_drew)); exact (Kd.R_mono (Kd.R_far (p := ⟨gb448, 1, none⟩) (Kd.R_far (p := ⟨gb448, 0, none⟩) (Kd.R_types HO447.out BK448.out (by decide)) (fun _ hk => hk.2) (.int .i64 t444)) (fun _ hk => hk.2) (.slice Ao30 t445.length co30)) (fun _ h_ => h_.1))) (Kd.R_base ho0) hb); have n3_ := Aside0.mk (Kd.R_lower (Kd.R_new' (Kd.R_new' (Kd.R_new' ho0 (Kd.R_lt (by (with_reducible repeat (first | apply Kd.R_alloc | apply Kd.R_drewN | apply Kd.R_drew)); exact (Kd.R_mono (Kd.R_far (p := ⟨gb448, 1, none⟩) (Kd.R_far (p := ⟨gb448, 0, none⟩) (Kd.R_types HO437.out BK448.out (by decide)) (fun _ hk => hk.2) (.int .i64 t444)) (fun _ hk => hk.2) (.slice Ao30 t445.length co30)) (fun _ h_ => h_.1))))) (Kd.R_lt (by (with_reducible repeat (first | apply Kd.R_alloc | apply Kd.R_drewN | apply Kd.R_drew)); exact (Kd.R_mono (Kd.R_far (p := ⟨gb448, 1, none⟩) (Kd.R_far (p := ⟨gb448, 0, none⟩) (Kd.R_types HO441.out BK448.out (by decide)) (fun _ hk => hk.2) (.int .i64 t444)) (fun _ hk => hk.2) (.slice Ao30 t445.length co30)) (fun _ h_ => h_.1))))) (Kd.R_lt (by (with_reducible repeat (first | apply Kd.R_alloc | apply Kd.R_drewN | apply Kd.R_drew)); exact (Kd.R_mono (Kd.R_far (p := ⟨gb448, 1, none⟩) (Kd.R_far (p := ⟨gb448, 0, none⟩) (Kd.R_types HO447.out BK448.out (by decide)) (fun _ hk => hk.2) (.int .i64 t444)) (fun _ hk => hk.2) (.slice Ao30 t445.length co30)) (fun _ h_ => h_.1))))) (below_size (by repeat (first | (with_reducible first | exact HB.out | apply below_alloc | apply pw_below_drewN | apply below_drew1 | refine below_set ?_ GE432.out | refine below_set ?_ GE443.out | refine below_set ?_ GE448.out) | exact HB.out)))); have n4_ := Aside0.mk (blk_below (g := gb432) (o := .cells #[.int .i64 a0_0, .slice A0_1 l0_1.length c0_1] 32 (0, 0)) (by (with_reducible repeat (first | refine blk_drewN ?_ _ | refine blk_drew ?_ | refine blk_alloc ?_ _)); refine blk_far ?_ NB432_448.out _; (with_reducible repeat (first | refine blk_drewN ?_ _ | refine blk_drew ?_ | refine blk_alloc ?_ _)); refine blk_far ?_ NB432_448.out _; (with_reducible repeat (first | refine blk_drewN ?_ _ | refine blk_drew ?_ | refine blk_alloc ?_ _)); exact BK432.out) hb); have n5_ := Aside0.mk (blk_below (g := gb443) (o := .cells #[.int .i64 t438, .slice Ao23 t439.length co23] 24 (0, 0)) (by (with_reducible repeat (first | refine blk_drewN ?_ _ | refine blk_drew ?_ | refine blk_alloc ?_ _)); refine blk_far ?_ NB443_448.out _; (with_reducible repeat (first | refine blk_drewN ?_ _ | refine blk_drew ?_ | refine blk_alloc ?_ _)); refine blk_far ?_ NB443_448.out _; (with_reducible repeat (first | refine blk_drewN ?_ _ | refine blk_drew ?_ | refine blk_alloc ?_ _)); exact BK443.out) hb); have n6_ := Aside0.mk (blk_below (g := gb448) (o := .cells #[.int .i64 t444, .slice Ao30 t445.length co30] 24 (0, 0)) (by (with_reducible repeat (first | refine blk_drewN ?_ _ | refine blk_drew ?_ | refine blk_alloc ?_ _)); refine blk_put (cs := #[.int .i64 t444, .slice none 0 0]) ?_ 1 _ rfl; (with_reducible repeat (first | refine blk_drewN ?_ _ | refine blk_drew ?_ | refine blk_alloc ?_ _)); refine blk_put (cs := #[.int .i64 0, .slice none 0 0]) ?_ 0 _ rfl; (with_reducible repeat (first | refine blk_drewN ?_ _ | refine blk_drew ?_ | refine blk_alloc ?_ _)); exact BK448.out) hb); have n7_ := Aside0.mk (below_step (by repeat (first | (with_reducible first | exact HB.out | apply below_alloc | apply pw_below_drewN | apply below_drew1 | refine below_set ?_ GE432.out | refine below_set ?_ GE443.out | refine below_set ?_ GE448.out) | exact HB.out)) hb); clear HO437; clear HO441; clear HO447; clear BK432; clear BK443; clear BK448; clear HB; have HO437 := n0_; have HO441 := n1_; have HO447 := n2_; have HO452 := n3_; have BK432 := n4_; have BK443 := n5_; have BK448 := n6_; have HB := n7_; clear n0_ n1_ n2_ n3_ n4_ n5_ n6_ n7_; (try clear hb); (try clear hb2); (try clear hk); (try clear hi); (try clear ho0)) | ((with_reducible refine gate_dst (N := 9) rfl ?_); refine box_event ?hg (N := 9) ?hd (cs := #[.int .i64 0, .slice none 0 0]) (t := 24) ?hr ?_; (case hd => rfl); (case hg => rfl); (case hr => first | (go_simp; done) | (go_simp; rfl)); intro gb454 hg w32 hbox hb; have n0_ := Aside0.mk (Kd.R_below (by (with_reducible repeat (first | apply Kd.R_alloc | apply Kd.R_drewN | apply Kd.R_drew)); exact HO437.out) hb); have n1_ := Aside0.mk (Kd.R_below (by (with_reducible repeat (first | apply Kd.R_alloc | apply Kd.R_drewN | apply Kd.R_drew)); exact HO441.out) hb); have n2_ := Aside0.mk (Kd.R_below (by (with_reducible repeat (first | apply Kd.R_alloc | apply Kd.R_drewN | apply Kd.R_drew)); exact HO447.out) hb); have n3_ := Aside0.mk (Kd.R_below (by (with_reducible repeat (first | apply Kd.R_alloc | apply Kd.R_drewN | apply Kd.R_drew)); exact HO452.out) hb); have n4_ := Aside0.mk (blk_below (g := gb432) (o := .cells #[.int .i64 a0_0, .slice A0_1 l0_1.length c0_1] 32 (0, 0)) (by (with_reducible repeat (first | refine blk_drewN ?_ _ | refine blk_drew ?_ | refine blk_alloc ?_ _)); exact BK432.out) hb); have n5_ := Aside0.mk (blk_below (g := gb443) (o := .cells #[.int .i64 t438, .slice Ao23 t439.length co23] 24 (0, 0)) (by (with_reducible repeat (first | refine blk_drewN ?_ _ | refine blk_drew ?_ | refine blk_alloc ?_ _)); exact BK443.out) hb); have n6_ := Aside0.mk (blk_below (g := gb448) (o := .cells #[.int .i64 t444, .slice Ao30 t445.length co30] 24 (0, 0)) (by (with_reducible repeat (first | refine blk_drewN ?_ _ | refine blk_drew ?_ | refine blk_alloc ?_ _)); exact BK448.out) hb); have n7_ := Aside0.mk (below_step (by repeat (first | (with_reducible first | exact HB.out | apply below_alloc | apply pw_below_drewN | apply below_drew1 | refine below_set ?_ GE432.out | refine below_set ?_ GE443.out | refine below_set ?_ GE448.out) | exact HB.out)) hb); have n8_ := Aside0.mk (hbox); have n9_ := Aside0.mk ((by rw [hg]; exact (below_size (by repeat (first | (with_reducible first | exact HB.out | apply below_alloc | apply pw_below_drewN | apply below_drew1 | refine below_set ?_ GE432.out | refine below_set ?_ GE443.out | refine below_set ?_ GE448.out) | exact HB.out))) : w.heap.size ≤ gb454)); have n10_ := Aside0.mk ((by rw [hg]; exact (below_size (by repeat (first | (with_reducible first | exact HB.out | apply below_alloc | apply pw_below_drewN | apply below_drew1 | refine below_set ?_ GE432.out | refine below_set ?_ GE443.out | refine below_set ?_ GE448.out) | exact HB.out))) : w.heap.size ≤ gb454)); have n11_ := Aside0.mk ((by rw [hg]; exact Nat.ne_of_lt (blk_lt (g := gb432) (o := .cells #[.int .i64 a0_0, .slice A0_1 l0_1.length c0_1] 32 (0, 0)) (by (with_reducible repeat (first | refine blk_drewN ?_ _ | refine blk_drew ?_ | refine blk_alloc ?_ _)); exact BK432.out)) : gb432 ≠ gb454)); have n12_ := Aside0.mk ((by rw [hg]; exact Nat.ne_of_gt (blk_lt (g := gb432) (o := .cells #[.int .i64 a0_0, .slice A0_1 l0_1.length c0_1] 32 (0, 0)) (by (with_reducible repeat (first | refine blk_drewN ?_ _ | refine blk_drew ?_ | refine blk_alloc ?_ _)); exact BK432.out)) : gb454 ≠ gb432)); have n13_ := Aside0.mk ((by rw [hg]; exact Nat.ne_of_lt (blk_lt (g := gb443) (o := .cells #[.int .i64 t438, .slice Ao23 t439.length co23] 24 (0, 0)) (by (with_reducible repeat (first | refine blk_drewN ?_ _ | refine blk_drew ?_ | refine blk_alloc ?_ _)); exact BK443.out)) : gb443 ≠ gb454)); have n14_ := Aside0.mk ((by rw [hg]; exact Nat.ne_of_gt (blk_lt (g := gb443) (o := .cells #[.int .i64 t438, .slice Ao23 t439.length co23] 24 (0, 0)) (by (with_reducible repeat (first | refine blk_drewN ?_ _ | refine blk_drew ?_ | refine blk_alloc ?_ _)); exact BK443.out)) : gb454 ≠ gb443)); have n15_ := Aside0.mk ((by rw [hg]; exact Nat.ne_of_lt (blk_lt (g := gb448) (o := .cells #[.int .i64 t444, .slice Ao30 t445.length co30] 24 (0, 0)) (by (with_reducible repeat (first | refine blk_drewN ?_ _ | refine blk_drew ?_ | refine blk_alloc ?_ _)); exact BK448.out)) : gb448 ≠ gb454)); have n16_ := Aside0.mk ((by rw [hg]; exact Nat.ne_of_gt (blk_lt (g := gb448) (o := .cells #[.int .i64 t444, .slice Ao30 t445.length co30] 24 (0, 0)) (by (with_reducible repeat (first | refine blk_drewN ?_ _ | refine blk_drew ?_ | refine blk_alloc ?_ _)); exact BK448.out)) : gb454 ≠ gb448)); clear HO437; clear HO441; clear HO447; clear HO452; clear BK432; clear BK443; clear BK448; clear HB; have HO437 := n0_; have HO441 := n1_; have HO447 := n2_; have HO452 := n3_; have BK432 := n4_; have BK443 := n5_; have BK448 := n6_; have HB := n7_; have BK454 := n8_; have GW454 := n9_; have GE454 := n10_; have NB432_454 := n11_; have NB454_432 := n12_; have NB443_454 := n13_; have NB454_443 := n14_; have NB448_454 := n15_; have NB454_448 := n16_; clear n0_ n1_ n2_ n3_ n4_ n5_ n6_ n7_ n8_ n9_ n10_ n11_ n12_ n13_ n14_ n15_ n16_; clear hb hbox hg; have hnb33 := NB454_432.out; have hnc33 := NB432_454.out; have hnb34 := NB454_443.out; have hnc34 := NB443_454.out; have hnb35 := NB454_448.out; have hnc35 := NB448_454.out; have hcz36_0 : w32.cell? ⟨gb454, 0, none⟩ = some (.int .i64 0) := (blk_cell BK454.out 0).trans rfl; have hcz36_1 : w32.cell? ⟨gb454, 1, none⟩ = some (.slice none 0 0) := (blk_cell BK454.out 1).trans rfl; have hfz36_0 := blk_frozen BK454.out 0; have hfz36_1 := blk_frozen BK454.out 1; obtain ⟨Ao37, co37, eo37⟩ := Kd.R_slice HO452.out; subst eo37))
  (try simp only [Act.put, List.setIfInBounds_toArray, List.set_cons_zero, List.set_cons_succ])
  go_cut [44] (fun v44 wc => ∃ (kq : Nat) (x44_11 : Bool), v44 = .bool x44_11 ∧ Aside0 (laws_FnExactFlushPort.j0 kq a1 t442 t453 x44_11 a0_0 l0_1 t438 t439 t444 t445 t449 t450 = some r) ∧ Aside0 (kq ≤ k) ∧ Aside0 (Kd.R k53 53 wc w.heap.size (fun k_ => some k_ ≠ ((.slice Ao30 t445.length co30) : Value).ownBlock ∧ some k_ ≠ ((.slice Ao37 t450.length co37) : Value).ownBlock) (.slice Ao23 t439.length co23) t439) ∧ Aside0 (Kd.R k53 53 wc w.heap.size (fun k_ => some k_ ≠ ((.slice Ao23 t439.length co23) : Value).ownBlock ∧ some k_ ≠ ((.slice Ao37 t450.length co37) : Value).ownBlock) (.slice Ao30 t445.length co30) t445) ∧ Aside0 (Kd.R k53 53 wc w.heap.size (fun k_ => some k_ ≠ ((.slice Ao23 t439.length co23) : Value).ownBlock ∧ some k_ ≠ ((.slice Ao30 t445.length co30) : Value).ownBlock) (.slice Ao37 t450.length co37) t450) ∧ Aside0 (wc.heap[gb432]? = some (.cells #[.int .i64 a0_0, (.slice A0_1 l0_1.length c0_1)] 32 (0, 0))) ∧ Aside0 (wc.heap[gb443]? = some (.cells #[.int .i64 t438, (.slice Ao23 t439.length co23)] 24 (0, 0))) ∧ Aside0 (wc.heap[gb448]? = some (.cells #[.int .i64 t444, (.slice Ao30 t445.length co30)] 24 (0, 0))) ∧ Aside0 (wc.heap[gb454]? = some (.cells #[.int .i64 t449, (.slice Ao37 t450.length co37)] 24 (0, 0))) ∧ Aside0 (Below w.heap.size w wc))
  case first =>
   have H := HC12.out
   clear HC12
   replace H := Option.bind_eq_some_iff.mp H
   obtain ⟨t455, A380, H⟩ := H
   replace H : (if t455 = true then (laws_FnExactFlushPort.j0 k a1 t442 t453 (t453 != t442) a0_0 l0_1 t438 t439 t444 t445 t449 t450) else (laws_FnExactFlushPort.j0 k a1 t442 t453 true a0_0 l0_1 t438 t439 t444 t445 t449 t450)) = some r := H
   have A38 := Aside0.mk A380
   clear A380
   by_cases c39 : t455 = true
   ·subst c39
    have H1 : (laws_FnExactFlushPort.j0 k a1 t442 t453 (t453 != t442) a0_0 l0_1 t438 t439 t444 t445 t449 t450) = some r := by rw [if_pos rfl] at H; exact H
    clear H
    have H := H1
    clear H1
    have H' := Aside0.mk H
    clear H
    have hnb40 := NB454_432.out
    have hnc40 := NB432_454.out
    have hnb41 := NB454_443.out
    have hnc41 := NB443_454.out
    have hnb42 := NB454_448.out
    have hnc42 := NB448_454.out
    have hcz43_0 : w32.cell? ⟨gb454, 0, none⟩ = some (.int .i64 0) := (blk_cell BK454.out 0).trans rfl
    have hcz43_1 : w32.cell? ⟨gb454, 1, none⟩ = some (.slice none 0 0) := (blk_cell BK454.out 1).trans rfl
    have hfz43_0 := blk_frozen BK454.out 0
    have hfz43_1 := blk_frozen BK454.out 1
    have hnb44 := NB443_432.out
    have hnc44 := NB432_443.out
    have hnb45 := NB443_448.out
    have hnc45 := NB448_443.out
    have hcz46_0 : w32.cell? ⟨gb443, 0, none⟩ = some (.int .i64 t438) := (blk_cell BK443.out 0).trans rfl
    have hcz46_1 : w32.cell? ⟨gb443, 1, none⟩ = some (.slice Ao23 t439.length co23) := (blk_cell BK443.out 1).trans rfl
    have hfz46_0 := blk_frozen BK443.out 0
    have hfz46_1 := blk_frozen BK443.out 1
    go_wp2_with (first | ((with_reducible refine gate_callee (f := 14) rfl ?_); refine goesL_ (some 38) rfl rfl Try.func14 (by kernel_rfl) rfl #[.agg #[.int .i64 t449, .slice Ao37 t450.length co37], .agg #[.int .i64 t438, .slice Ao23 t439.length co23]] rfl (by (try simp only [List.map_toArray, List.map_cons, List.map_nil]); first | done | rfl | (simp only [List.length_drop, List.length_take]; rfl)) ?_; (with_reducible refine (laws_eqTable.calls k t449 _ _ t450 t438 _ _ t439 true _ ?side1 ?side2 ?side3 ?side4 A38.out).mono ?_); (case side1 => refine (Kd.R_reads' (e := 53) (base := w.heap.size) (ok := fun k_ => (((True ∧ some k_ ≠ (.slice Ao18 t435.length co18 : Value).ownBlock) ∧ some k_ ≠ (.slice Ao23 t439.length co23 : Value).ownBlock) ∧ some k_ ≠ (.slice Ao30 t445.length co30 : Value).ownBlock)) (n := t450.length) (c := co37) ?_).2.2; exact (by (with_reducible repeat (first | apply Kd.R_alloc | apply Kd.R_drewN | apply Kd.R_drew)); exact (Kd.R_mono (Kd.R_far (p := ⟨gb454, 1, none⟩) (Kd.R_far (p := ⟨gb454, 0, none⟩) (Kd.R_types HO452.out BK454.out (by decide)) (fun _ hk => hk.2) (.int .i64 t449)) (fun _ hk => hk.2) (.slice Ao37 t450.length co37)) (fun _ h_ => h_.1)))); (case side2 => exact (Kd.R_reads' HO452.out).2.1); (case side3 => refine (Kd.R_reads' (e := 53) (base := w.heap.size) (ok := fun k_ => (((True ∧ some k_ ≠ (.slice Ao18 t435.length co18 : Value).ownBlock) ∧ some k_ ≠ (.slice Ao30 t445.length co30 : Value).ownBlock) ∧ some k_ ≠ (.slice Ao37 t450.length co37 : Value).ownBlock)) (n := t439.length) (c := co23) ?_).2.2; exact (by (with_reducible repeat (first | apply Kd.R_alloc | apply Kd.R_drewN | apply Kd.R_drew)); exact (Kd.R_mono (Kd.R_far (p := ⟨gb454, 1, none⟩) (Kd.R_far (p := ⟨gb454, 0, none⟩) (Kd.R_types HO441.out BK454.out (by decide)) (fun _ hk => hk.2) (.int .i64 t449)) (fun _ hk => hk.2) (.slice Ao37 t450.length co37)) (fun _ h_ => h_.1)))); (case side4 => exact (Kd.R_reads' HO441.out).2.1); rintro e w47 ⟨rfl, hb⟩; refine ⟨_, rfl, ?_⟩; have n0_ := Aside0.mk (Kd.R_below (by (with_reducible repeat (first | apply Kd.R_alloc | apply Kd.R_drewN | apply Kd.R_drew)); exact (Kd.R_mono (Kd.R_far (p := ⟨gb454, 1, none⟩) (Kd.R_far (p := ⟨gb454, 0, none⟩) (Kd.R_types HO437.out BK454.out (by decide)) (fun _ hk => hk.2) (.int .i64 t449)) (fun _ hk => hk.2) (.slice Ao37 t450.length co37)) (fun _ h_ => h_.1))) hb); have n1_ := Aside0.mk (Kd.R_below (by (with_reducible repeat (first | apply Kd.R_alloc | apply Kd.R_drewN | apply Kd.R_drew)); exact (Kd.R_mono (Kd.R_far (p := ⟨gb454, 1, none⟩) (Kd.R_far (p := ⟨gb454, 0, none⟩) (Kd.R_types HO441.out BK454.out (by decide)) (fun _ hk => hk.2) (.int .i64 t449)) (fun _ hk => hk.2) (.slice Ao37 t450.length co37)) (fun _ h_ => h_.1))) hb); have n2_ := Aside0.mk (Kd.R_below (by (with_reducible repeat (first | apply Kd.R_alloc | apply Kd.R_drewN | apply Kd.R_drew)); exact (Kd.R_mono (Kd.R_far (p := ⟨gb454, 1, none⟩) (Kd.R_far (p := ⟨gb454, 0, none⟩) (Kd.R_types HO447.out BK454.out (by decide)) (fun _ hk => hk.2) (.int .i64 t449)) (fun _ hk => hk.2) (.slice Ao37 t450.length co37)) (fun _ h_ => h_.1))) hb); have n3_ := Aside0.mk (Kd.R_below (by (with_reducible repeat (first | apply Kd.R_alloc | apply Kd.R_drewN | apply Kd.R_drew)); exact (Kd.R_mono (Kd.R_far (p := ⟨gb454, 1, none⟩) (Kd.R_far (p := ⟨gb454, 0, none⟩) (Kd.R_types HO452.out BK454.out (by decide)) (fun _ hk => hk.2) (.int .i64 t449)) (fun _ hk => hk.2) (.slice Ao37 t450.length co37)) (fun _ h_ => h_.1))) hb); have n4_ := Aside0.mk (blk_below (g := gb432) (o := .cells #[.int .i64 a0_0, .slice A0_1 l0_1.length c0_1] 32 (0, 0)) (by (with_reducible repeat (first | refine blk_drewN ?_ _ | refine blk_drew ?_ | refine blk_alloc ?_ _)); refine blk_far ?_ NB432_454.out _; (with_reducible repeat (first | refine blk_drewN ?_ _ | refine blk_drew ?_ | refine blk_alloc ?_ _)); refine blk_far ?_ NB432_454.out _; (with_reducible repeat (first | refine blk_drewN ?_ _ | refine blk_drew ?_ | refine blk_alloc ?_ _)); exact BK432.out) hb); have n5_ := Aside0.mk (blk_below (g := gb443) (o := .cells #[.int .i64 t438, .slice Ao23 t439.length co23] 24 (0, 0)) (by (with_reducible repeat (first | refine blk_drewN ?_ _ | refine blk_drew ?_ | refine blk_alloc ?_ _)); refine blk_far ?_ NB443_454.out _; (with_reducible repeat (first | refine blk_drewN ?_ _ | refine blk_drew ?_ | refine blk_alloc ?_ _)); refine blk_far ?_ NB443_454.out _; (with_reducible repeat (first | refine blk_drewN ?_ _ | refine blk_drew ?_ | refine blk_alloc ?_ _)); exact BK443.out) hb); have n6_ := Aside0.mk (blk_below (g := gb448) (o := .cells #[.int .i64 t444, .slice Ao30 t445.length co30] 24 (0, 0)) (by (with_reducible repeat (first | refine blk_drewN ?_ _ | refine blk_drew ?_ | refine blk_alloc ?_ _)); refine blk_far ?_ NB448_454.out _; (with_reducible repeat (first | refine blk_drewN ?_ _ | refine blk_drew ?_ | refine blk_alloc ?_ _)); refine blk_far ?_ NB448_454.out _; (with_reducible repeat (first | refine blk_drewN ?_ _ | refine blk_drew ?_ | refine blk_alloc ?_ _)); exact BK448.out) hb); have n7_ := Aside0.mk (blk_below (g := gb454) (o := .cells #[.int .i64 t449, .slice Ao37 t450.length co37] 24 (0, 0)) (by (with_reducible repeat (first | refine blk_drewN ?_ _ | refine blk_drew ?_ | refine blk_alloc ?_ _)); refine blk_put (cs := #[.int .i64 t449, .slice none 0 0]) ?_ 1 _ rfl; (with_reducible repeat (first | refine blk_drewN ?_ _ | refine blk_drew ?_ | refine blk_alloc ?_ _)); refine blk_put (cs := #[.int .i64 0, .slice none 0 0]) ?_ 0 _ rfl; (with_reducible repeat (first | refine blk_drewN ?_ _ | refine blk_drew ?_ | refine blk_alloc ?_ _)); exact BK454.out) hb); have n8_ := Aside0.mk (below_step (by repeat (first | (with_reducible first | exact HB.out | apply below_alloc | apply pw_below_drewN | apply below_drew1 | refine below_set ?_ GE432.out | refine below_set ?_ GE443.out | refine below_set ?_ GE448.out | refine below_set ?_ GE454.out) | exact HB.out)) hb); clear HO437; clear HO441; clear HO447; clear HO452; clear BK432; clear BK443; clear BK448; clear BK454; clear HB; have HO437 := n0_; have HO441 := n1_; have HO447 := n2_; have HO452 := n3_; have BK432 := n4_; have BK443 := n5_; have BK448 := n6_; have BK454 := n7_; have HB := n8_; clear n0_ n1_ n2_ n3_ n4_ n5_ n6_ n7_ n8_; (try clear hb); (try clear hb2); (try clear hk); (try clear hi)))
    go_meet
    case rel => exact ⟨_, ((t453 != t442)), (by first | rfl | (simp; done) | (simp [*]; done)), H', ⟨by first | omega | exact Nat.le_refl _⟩, ⟨by (with_reducible repeat (first | apply Kd.R_alloc | apply Kd.R_drewN | apply Kd.R_drew)); exact Kd.R_mono HO441.out (fun _ hk => ⟨hk.1.2, hk.2⟩)⟩, ⟨by (with_reducible repeat (first | apply Kd.R_alloc | apply Kd.R_drewN | apply Kd.R_drew)); exact Kd.R_mono HO447.out (fun _ hk => ⟨hk.1.2, hk.2⟩)⟩, ⟨by (with_reducible repeat (first | apply Kd.R_alloc | apply Kd.R_drewN | apply Kd.R_drew)); exact Kd.R_mono HO452.out (fun _ hk => ⟨hk.1.2, hk.2⟩)⟩, ⟨by (with_reducible repeat (first | refine blk_drewN ?_ _ | refine blk_drew ?_ | refine blk_alloc ?_ _)); exact BK432.out⟩, ⟨by (with_reducible repeat (first | refine blk_drewN ?_ _ | refine blk_drew ?_ | refine blk_alloc ?_ _)); exact BK443.out⟩, ⟨by (with_reducible repeat (first | refine blk_drewN ?_ _ | refine blk_drew ?_ | refine blk_alloc ?_ _)); exact BK448.out⟩, ⟨by (with_reducible repeat (first | refine blk_drewN ?_ _ | refine blk_drew ?_ | refine blk_alloc ?_ _)); exact BK454.out⟩, ⟨by repeat (first | (with_reducible first | exact HB.out | apply below_alloc | apply pw_below_drewN | apply below_drew1 | refine below_set ?_ GE432.out | refine below_set ?_ GE443.out | refine below_set ?_ GE448.out | refine below_set ?_ GE454.out) | exact HB.out)⟩⟩
   ·replace c39 := Bool.eq_false_iff.mpr c39
    subst c39
    have H1 : (laws_FnExactFlushPort.j0 k a1 t442 t453 true a0_0 l0_1 t438 t439 t444 t445 t449 t450) = some r := by rw [if_neg (show ¬ (false = true) by decide)] at H; exact H
    clear H
    have H := H1
    clear H1
    have H' := Aside0.mk H
    clear H
    have hnb48 := NB454_432.out
    have hnc48 := NB432_454.out
    have hnb49 := NB454_443.out
    have hnc49 := NB443_454.out
    have hnb50 := NB454_448.out
    have hnc50 := NB448_454.out
    have hcz51_0 : w32.cell? ⟨gb454, 0, none⟩ = some (.int .i64 0) := (blk_cell BK454.out 0).trans rfl
    have hcz51_1 : w32.cell? ⟨gb454, 1, none⟩ = some (.slice none 0 0) := (blk_cell BK454.out 1).trans rfl
    have hfz51_0 := blk_frozen BK454.out 0
    have hfz51_1 := blk_frozen BK454.out 1
    have hnb52 := NB443_432.out
    have hnc52 := NB432_443.out
    have hnb53 := NB443_448.out
    have hnc53 := NB448_443.out
    have hcz54_0 : w32.cell? ⟨gb443, 0, none⟩ = some (.int .i64 t438) := (blk_cell BK443.out 0).trans rfl
    have hcz54_1 : w32.cell? ⟨gb443, 1, none⟩ = some (.slice Ao23 t439.length co23) := (blk_cell BK443.out 1).trans rfl
    have hfz54_0 := blk_frozen BK443.out 0
    have hfz54_1 := blk_frozen BK443.out 1
    go_wp2_with (first | ((with_reducible refine gate_callee (f := 14) rfl ?_); refine goesL_ (some 38) rfl rfl Try.func14 (by kernel_rfl) rfl #[.agg #[.int .i64 t449, .slice Ao37 t450.length co37], .agg #[.int .i64 t438, .slice Ao23 t439.length co23]] rfl (by (try simp only [List.map_toArray, List.map_cons, List.map_nil]); first | done | rfl | (simp only [List.length_drop, List.length_take]; rfl)) ?_; (with_reducible refine (laws_eqTable.calls k t449 _ _ t450 t438 _ _ t439 false _ ?side1 ?side2 ?side3 ?side4 A38.out).mono ?_); (case side1 => refine (Kd.R_reads' (e := 53) (base := w.heap.size) (ok := fun k_ => (((True ∧ some k_ ≠ (.slice Ao18 t435.length co18 : Value).ownBlock) ∧ some k_ ≠ (.slice Ao23 t439.length co23 : Value).ownBlock) ∧ some k_ ≠ (.slice Ao30 t445.length co30 : Value).ownBlock)) (n := t450.length) (c := co37) ?_).2.2; exact (by (with_reducible repeat (first | apply Kd.R_alloc | apply Kd.R_drewN | apply Kd.R_drew)); exact (Kd.R_mono (Kd.R_far (p := ⟨gb454, 1, none⟩) (Kd.R_far (p := ⟨gb454, 0, none⟩) (Kd.R_types HO452.out BK454.out (by decide)) (fun _ hk => hk.2) (.int .i64 t449)) (fun _ hk => hk.2) (.slice Ao37 t450.length co37)) (fun _ h_ => h_.1)))); (case side2 => exact (Kd.R_reads' HO452.out).2.1); (case side3 => refine (Kd.R_reads' (e := 53) (base := w.heap.size) (ok := fun k_ => (((True ∧ some k_ ≠ (.slice Ao18 t435.length co18 : Value).ownBlock) ∧ some k_ ≠ (.slice Ao30 t445.length co30 : Value).ownBlock) ∧ some k_ ≠ (.slice Ao37 t450.length co37 : Value).ownBlock)) (n := t439.length) (c := co23) ?_).2.2; exact (by (with_reducible repeat (first | apply Kd.R_alloc | apply Kd.R_drewN | apply Kd.R_drew)); exact (Kd.R_mono (Kd.R_far (p := ⟨gb454, 1, none⟩) (Kd.R_far (p := ⟨gb454, 0, none⟩) (Kd.R_types HO441.out BK454.out (by decide)) (fun _ hk => hk.2) (.int .i64 t449)) (fun _ hk => hk.2) (.slice Ao37 t450.length co37)) (fun _ h_ => h_.1)))); (case side4 => exact (Kd.R_reads' HO441.out).2.1); rintro e w55 ⟨rfl, hb⟩; refine ⟨_, rfl, ?_⟩; have n0_ := Aside0.mk (Kd.R_below (by (with_reducible repeat (first | apply Kd.R_alloc | apply Kd.R_drewN | apply Kd.R_drew)); exact (Kd.R_mono (Kd.R_far (p := ⟨gb454, 1, none⟩) (Kd.R_far (p := ⟨gb454, 0, none⟩) (Kd.R_types HO437.out BK454.out (by decide)) (fun _ hk => hk.2) (.int .i64 t449)) (fun _ hk => hk.2) (.slice Ao37 t450.length co37)) (fun _ h_ => h_.1))) hb); have n1_ := Aside0.mk (Kd.R_below (by (with_reducible repeat (first | apply Kd.R_alloc | apply Kd.R_drewN | apply Kd.R_drew)); exact (Kd.R_mono (Kd.R_far (p := ⟨gb454, 1, none⟩) (Kd.R_far (p := ⟨gb454, 0, none⟩) (Kd.R_types HO441.out BK454.out (by decide)) (fun _ hk => hk.2) (.int .i64 t449)) (fun _ hk => hk.2) (.slice Ao37 t450.length co37)) (fun _ h_ => h_.1))) hb); have n2_ := Aside0.mk (Kd.R_below (by (with_reducible repeat (first | apply Kd.R_alloc | apply Kd.R_drewN | apply Kd.R_drew)); exact (Kd.R_mono (Kd.R_far (p := ⟨gb454, 1, none⟩) (Kd.R_far (p := ⟨gb454, 0, none⟩) (Kd.R_types HO447.out BK454.out (by decide)) (fun _ hk => hk.2) (.int .i64 t449)) (fun _ hk => hk.2) (.slice Ao37 t450.length co37)) (fun _ h_ => h_.1))) hb); have n3_ := Aside0.mk (Kd.R_below (by (with_reducible repeat (first | apply Kd.R_alloc | apply Kd.R_drewN | apply Kd.R_drew)); exact (Kd.R_mono (Kd.R_far (p := ⟨gb454, 1, none⟩) (Kd.R_far (p := ⟨gb454, 0, none⟩) (Kd.R_types HO452.out BK454.out (by decide)) (fun _ hk => hk.2) (.int .i64 t449)) (fun _ hk => hk.2) (.slice Ao37 t450.length co37)) (fun _ h_ => h_.1))) hb); have n4_ := Aside0.mk (blk_below (g := gb432) (o := .cells #[.int .i64 a0_0, .slice A0_1 l0_1.length c0_1] 32 (0, 0)) (by (with_reducible repeat (first | refine blk_drewN ?_ _ | refine blk_drew ?_ | refine blk_alloc ?_ _)); refine blk_far ?_ NB432_454.out _; (with_reducible repeat (first | refine blk_drewN ?_ _ | refine blk_drew ?_ | refine blk_alloc ?_ _)); refine blk_far ?_ NB432_454.out _; (with_reducible repeat (first | refine blk_drewN ?_ _ | refine blk_drew ?_ | refine blk_alloc ?_ _)); exact BK432.out) hb); have n5_ := Aside0.mk (blk_below (g := gb443) (o := .cells #[.int .i64 t438, .slice Ao23 t439.length co23] 24 (0, 0)) (by (with_reducible repeat (first | refine blk_drewN ?_ _ | refine blk_drew ?_ | refine blk_alloc ?_ _)); refine blk_far ?_ NB443_454.out _; (with_reducible repeat (first | refine blk_drewN ?_ _ | refine blk_drew ?_ | refine blk_alloc ?_ _)); refine blk_far ?_ NB443_454.out _; (with_reducible repeat (first | refine blk_drewN ?_ _ | refine blk_drew ?_ | refine blk_alloc ?_ _)); exact BK443.out) hb); have n6_ := Aside0.mk (blk_below (g := gb448) (o := .cells #[.int .i64 t444, .slice Ao30 t445.length co30] 24 (0, 0)) (by (with_reducible repeat (first | refine blk_drewN ?_ _ | refine blk_drew ?_ | refine blk_alloc ?_ _)); refine blk_far ?_ NB448_454.out _; (with_reducible repeat (first | refine blk_drewN ?_ _ | refine blk_drew ?_ | refine blk_alloc ?_ _)); refine blk_far ?_ NB448_454.out _; (with_reducible repeat (first | refine blk_drewN ?_ _ | refine blk_drew ?_ | refine blk_alloc ?_ _)); exact BK448.out) hb); have n7_ := Aside0.mk (blk_below (g := gb454) (o := .cells #[.int .i64 t449, .slice Ao37 t450.length co37] 24 (0, 0)) (by (with_reducible repeat (first | refine blk_drewN ?_ _ | refine blk_drew ?_ | refine blk_alloc ?_ _)); refine blk_put (cs := #[.int .i64 t449, .slice none 0 0]) ?_ 1 _ rfl; (with_reducible repeat (first | refine blk_drewN ?_ _ | refine blk_drew ?_ | refine blk_alloc ?_ _)); refine blk_put (cs := #[.int .i64 0, .slice none 0 0]) ?_ 0 _ rfl; (with_reducible repeat (first | refine blk_drewN ?_ _ | refine blk_drew ?_ | refine blk_alloc ?_ _)); exact BK454.out) hb); have n8_ := Aside0.mk (below_step (by repeat (first | (with_reducible first | exact HB.out | apply below_alloc | apply pw_below_drewN | apply below_drew1 | refine below_set ?_ GE432.out | refine below_set ?_ GE443.out | refine below_set ?_ GE448.out | refine below_set ?_ GE454.out) | exact HB.out)) hb); clear HO437; clear HO441; clear HO447; clear HO452; clear BK432; clear BK443; clear BK448; clear BK454; clear HB; have HO437 := n0_; have HO441 := n1_; have HO447 := n2_; have HO452 := n3_; have BK432 := n4_; have BK443 := n5_; have BK448 := n6_; have BK454 := n7_; have HB := n8_; clear n0_ n1_ n2_ n3_ n4_ n5_ n6_ n7_ n8_; (try clear hb); (try clear hb2); (try clear hk); (try clear hi)))
    go_meet
    case rel => exact ⟨_, (true), (by first | rfl | (simp; done) | (simp [*]; done)), H', ⟨by first | omega | exact Nat.le_refl _⟩, ⟨by (with_reducible repeat (first | apply Kd.R_alloc | apply Kd.R_drewN | apply Kd.R_drew)); exact Kd.R_mono HO441.out (fun _ hk => ⟨hk.1.2, hk.2⟩)⟩, ⟨by (with_reducible repeat (first | apply Kd.R_alloc | apply Kd.R_drewN | apply Kd.R_drew)); exact Kd.R_mono HO447.out (fun _ hk => ⟨hk.1.2, hk.2⟩)⟩, ⟨by (with_reducible repeat (first | apply Kd.R_alloc | apply Kd.R_drewN | apply Kd.R_drew)); exact Kd.R_mono HO452.out (fun _ hk => ⟨hk.1.2, hk.2⟩)⟩, ⟨by (with_reducible repeat (first | refine blk_drewN ?_ _ | refine blk_drew ?_ | refine blk_alloc ?_ _)); exact BK432.out⟩, ⟨by (with_reducible repeat (first | refine blk_drewN ?_ _ | refine blk_drew ?_ | refine blk_alloc ?_ _)); exact BK443.out⟩, ⟨by (with_reducible repeat (first | refine blk_drewN ?_ _ | refine blk_drew ?_ | refine blk_alloc ?_ _)); exact BK448.out⟩, ⟨by (with_reducible repeat (first | refine blk_drewN ?_ _ | refine blk_drew ?_ | refine blk_alloc ?_ _)); exact BK454.out⟩, ⟨by repeat (first | (with_reducible first | exact HB.out | apply below_alloc | apply pw_below_drewN | apply below_drew1 | refine below_set ?_ GE432.out | refine below_set ?_ GE443.out | refine below_set ?_ GE448.out | refine below_set ?_ GE454.out) | exact HB.out)⟩⟩
  case rest =>
   clear HC12
   try clear c1
   try clear c2
   try clear p2
   try clear c3
   try clear c4
   try clear c4b0
   try clear c5
   try clear c8
   try clear c14
   try clear c17
   try clear c19
   try clear c21
   try clear c27
   try clear c28
   try clear c30
   try clear c31
   try clear c33
   try clear c34
   try clear c35
   try clear c39
   try clear c40
   try clear c41
   try clear c42
   try clear c44
   try clear c45
   try clear c48
   try clear c49
   try clear c50
   try clear c52
   try clear c53
   try clear hcz14_0
   try clear hcz14_1
   try clear hcz16_0
   try clear hcz16_1
   try clear hcz22_0
   try clear hcz22_1
   try clear hcz24_0
   try clear hcz24_1
   try clear hcz29_0
   try clear hcz29_1
   try clear hcz36_0
   try clear hcz36_1
   try clear hcz43_0
   try clear hcz43_1
   try clear hcz46_0
   try clear hcz46_1
   try clear hcz51_0
   try clear hcz51_1
   try clear hcz54_0
   try clear hcz54_1
   try clear hcz6_0
   try clear hcz6_1
   try clear hfz14_0
   try clear hfz14_1
   try clear hfz16_0
   try clear hfz16_1
   try clear hfz22_0
   try clear hfz22_1
   try clear hfz24_0
   try clear hfz24_1
   try clear hfz29_0
   try clear hfz29_1
   try clear hfz36_0
   try clear hfz36_1
   try clear hfz43_0
   try clear hfz43_1
   try clear hfz46_0
   try clear hfz46_1
   try clear hfz51_0
   try clear hfz51_1
   try clear hfz54_0
   try clear hfz54_1
   try clear hfz6_0
   try clear hfz6_1
   obtain ⟨kq, x44_11, rfl, HA, HJ11, HO_444001, HO_449001, HO_455001, BK432, BK443, BK448, BK454, HB⟩ := hcut
   cases kq with
   | zero => exact absurd HA.out (by simp [laws_FnExactFlushPort.j0])
   | succ kj11 =>
    have H := HA.out
    clear HA
    simp only [laws_FnExactFlushPort.j0] at H
    by_cases c56 : x44_11 = true
    ·subst c56
     have H1 : (some false) = some r := by rw [if_pos rfl] at H; exact H
     clear H
     have H := H1
     clear H1
     obtain rfl := Option.some.inj H
     go_wp2
     go_ret
     exact ⟨by first | rfl | (simp [errW_none, errW_some] <;> rfl) | (simp [*, errW_none, errW_some] <;> rfl), by repeat (first | (with_reducible first | exact HB.out | apply below_alloc | apply pw_below_drewN | apply below_drew1 | refine below_set ?_ GE432.out | refine below_set ?_ GE443.out | refine below_set ?_ GE448.out | refine below_set ?_ GE454.out) | exact HB.out)⟩
    ·replace c56 := Bool.eq_false_iff.mpr c56
     subst c56
     have H1 : ((laws_toTable.f kj11 a0_0 l0_1).bind fun bt456 => ((laws_eqTable.f kj11 t444 t445 bt456.1 bt456.2).bind fun t460 => (if t460 = true then ((laws_markTable.f kj11 t444 t445 1).bind fun bt461 => (if bt461.1 < 0 then (laws_FnExactFlushPort.j1 kj11 a1 t442 true a0_0 l0_1 t438 t439 t449 t450) else ((laws_eqTable.f kj11 t449 t450 t438 t439).bind fun t463 => (if t463 = true then (laws_FnExactFlushPort.j1 kj11 a1 t442 (t453 != t442) a0_0 l0_1 t438 t439 t449 t450) else (laws_FnExactFlushPort.j1 kj11 a1 t442 true a0_0 l0_1 t438 t439 t449 t450))))) else (some false)))) = some r := by rw [if_neg (show ¬ (false = true) by decide)] at H; exact H
     clear H
     have H := H1
     clear H1
     replace H := Option.bind_eq_some_iff.mp H
     obtain ⟨⟨t456, t457⟩, A570, H⟩ := H
     replace H : ((laws_eqTable.f kj11 t444 t445 t456 t457).bind fun t460 => (if t460 = true then ((laws_markTable.f kj11 t444 t445 1).bind fun bt461 => (if bt461.1 < 0 then (laws_FnExactFlushPort.j1 kj11 a1 t442 true a0_0 l0_1 t438 t439 t449 t450) else ((laws_eqTable.f kj11 t449 t450 t438 t439).bind fun t463 => (if t463 = true then (laws_FnExactFlushPort.j1 kj11 a1 t442 (t453 != t442) a0_0 l0_1 t438 t439 t449 t450) else (laws_FnExactFlushPort.j1 kj11 a1 t442 true a0_0 l0_1 t438 t439 t449 t450))))) else (some false))) = some r := H
     have A57 := Aside0.mk A570
     clear A570
     replace H := Option.bind_eq_some_iff.mp H
     obtain ⟨t460, A580, H⟩ := H
     replace H : (if t460 = true then ((laws_markTable.f kj11 t444 t445 1).bind fun bt461 => (if bt461.1 < 0 then (laws_FnExactFlushPort.j1 kj11 a1 t442 true a0_0 l0_1 t438 t439 t449 t450) else ((laws_eqTable.f kj11 t449 t450 t438 t439).bind fun t463 => (if t463 = true then (laws_FnExactFlushPort.j1 kj11 a1 t442 (t453 != t442) a0_0 l0_1 t438 t439 t449 t450) else (laws_FnExactFlushPort.j1 kj11 a1 t442 true a0_0 l0_1 t438 t439 t449 t450))))) else (some false)) = some r := H
     have A58 := Aside0.mk A580
     clear A580
     by_cases c59 : t460 = true
     ·subst c59
      have H1 : ((laws_markTable.f kj11 t444 t445 1).bind fun bt461 => (if bt461.1 < 0 then (laws_FnExactFlushPort.j1 kj11 a1 t442 true a0_0 l0_1 t438 t439 t449 t450) else ((laws_eqTable.f kj11 t449 t450 t438 t439).bind fun t463 => (if t463 = true then (laws_FnExactFlushPort.j1 kj11 a1 t442 (t453 != t442) a0_0 l0_1 t438 t439 t449 t450) else (laws_FnExactFlushPort.j1 kj11 a1 t442 true a0_0 l0_1 t438 t439 t449 t450))))) = some r := by rw [if_pos rfl] at H; exact H
      clear H
      have H := H1
      clear H1
      replace H := Option.bind_eq_some_iff.mp H
      obtain ⟨⟨t461, t462⟩, A600, H⟩ := H
      replace H : (if t461 < 0 then (laws_FnExactFlushPort.j1 kj11 a1 t442 true a0_0 l0_1 t438 t439 t449 t450) else ((laws_eqTable.f kj11 t449 t450 t438 t439).bind fun t463 => (if t463 = true then (laws_FnExactFlushPort.j1 kj11 a1 t442 (t453 != t442) a0_0 l0_1 t438 t439 t449 t450) else (laws_FnExactFlushPort.j1 kj11 a1 t442 true a0_0 l0_1 t438 t439 t449 t450)))) = some r := H
      have A60 := Aside0.mk A600
      clear A600
      have HC61 := Aside0.mk H
      clear H
      try go_wp2
      have n0_ := Aside0.mk (Kd.R_drew HO_444001.out)
      have n1_ := Aside0.mk (Kd.R_drew HO_449001.out)
      have n2_ := Aside0.mk (Kd.R_drew HO_455001.out)
      have n3_ := Aside0.mk (blk_drew BK432.out)
      have n4_ := Aside0.mk (blk_drew BK443.out)
      have n5_ := Aside0.mk (blk_drew BK448.out)
      have n6_ := Aside0.mk (blk_drew BK454.out)
      have n7_ := Aside0.mk (below_drew1 HB.out)
      clear HO_444001
      clear HO_449001
      clear HO_455001
      clear BK432
      clear BK443
      clear BK448
      clear BK454
      clear HB
      have HO_444001 := n0_
      have HO_449001 := n1_
      have HO_455001 := n2_
      have BK432 := n3_
      have BK443 := n4_
      have BK448 := n5_
      have BK454 := n6_
      have HB := n7_
      clear n0_ n1_ n2_ n3_ n4_ n5_ n6_ n7_
      refine start_ (n := 5) (S := fun w' => w'.cell? ⟨gb448, 0, none⟩ = some (.int .i64 t444) ∧ w'.cell? ⟨gb448, 1, none⟩ = some (.slice Ao30 t445.length co30) ∧ w'.cell? ⟨gb432, 0, none⟩ = some (.int .i64 a0_0) ∧ w'.cell? ⟨gb432, 1, none⟩ = some (.slice A0_1 l0_1.length c0_1)) (ds := []) #[false, false, false, false, false] (by kernel_rfl) rfl rfl ⟨(blk_cell BK448.out 0).trans rfl, (blk_cell BK448.out 1).trans rfl, (blk_cell BK432.out 0).trans rfl, (blk_cell BK432.out 1).trans rfl⟩ (fun hHeld => ?_)
      generalize wc.drew = w62 at HO_444001 HO_449001 HO_455001 BK432 BK443 BK448 BK454 HB hHeld ⊢
      refine take_ (i := 0) (N := some 45) (v := ?_) (a' := ?_) #[true, false, false, false, false] rfl rfl (by kernel_rfl) (fun _ _ _ h => h) (Or.inl ⟨by rfl, ?_⟩) hHeld ?_ ?_
      rotate_left
      ·rintro w' ⟨s0, s1, s2, s3⟩
       go_simp
       with_reducible rfl
      rotate_left
      ·simp only [Act.put, List.setIfInBounds_toArray, List.set_cons_zero, List.set_cons_succ, i64_w, i32_w]
       rfl
      refine take_ (i := 1) (N := some 46) (v := ?_) (a' := ?_) #[true, true, false, false, false] rfl rfl (by kernel_rfl) (fun _ _ _ h => h) (Or.inl ⟨by rfl, ?_⟩) hHeld ?_ ?_
      rotate_left
      ·rintro w' ⟨s0, s1, s2, s3⟩
       go_simp
       with_reducible rfl
      rotate_left
      ·simp only [Act.put, List.setIfInBounds_toArray, List.set_cons_zero, List.set_cons_succ, i64_w, i32_w]
       rfl
      refine one_ (i := 2) (N := some 47) #[true, true, true, false, false] rfl rfl (by kernel_rfl) (by decide) (fun K hK => ?_)
      refine goes_ Try.func19 (by kernel_rfl) rfl #[.agg #[.int .i64 a0_0, .slice A0_1 l0_1.length c0_1]] (by rfl) rfl rfl (by (try simp only [List.map_toArray, List.map_cons, List.map_nil]); first | done | rfl | (simp only [List.length_drop, List.length_take]; rfl)) ?_
      with_reducible refine (laws_toTable.calls kj11 a0_0 _ _ l0_1 t456 t457 _ ?side1 ?side2 A57.out).mono ?_
      (case side1 => repeat (first | exact (Kd.C_below HR0_1.out HB.out) | (with_reducible refine Kd.C_alloc ?_ _) | (with_reducible refine Kd.C_drewN ?_ _) | (with_reducible refine Kd.C_drew ?_)))
      (case side2 => exact HC0_1.out)
      rintro e w63 ⟨v458, rfl, ho0, hb⟩
      refine ⟨_, rfl, ?_⟩
      have n0_ := Aside0.mk (Kd.R_elder' (by (with_reducible repeat (first | apply Kd.R_alloc | apply Kd.R_drewN | apply Kd.R_drew)); exact HO_444001.out) (Kd.R_base ho0) hb)
      have n1_ := Aside0.mk (Kd.R_elder' (by (with_reducible repeat (first | apply Kd.R_alloc | apply Kd.R_drewN | apply Kd.R_drew)); exact HO_449001.out) (Kd.R_base ho0) hb)
      have n2_ := Aside0.mk (Kd.R_elder' (by (with_reducible repeat (first | apply Kd.R_alloc | apply Kd.R_drewN | apply Kd.R_drew)); exact HO_455001.out) (Kd.R_base ho0) hb)
      have n3_ := Aside0.mk (Kd.R_lower (Kd.R_new' (Kd.R_new' (Kd.R_new' ho0 (Kd.R_lt (by (with_reducible repeat (first | apply Kd.R_alloc | apply Kd.R_drewN | apply Kd.R_drew)); exact HO_444001.out))) (Kd.R_lt (by (with_reducible repeat (first | apply Kd.R_alloc | apply Kd.R_drewN | apply Kd.R_drew)); exact HO_449001.out))) (Kd.R_lt (by (with_reducible repeat (first | apply Kd.R_alloc | apply Kd.R_drewN | apply Kd.R_drew)); exact HO_455001.out))) (below_size (by repeat (first | (with_reducible first | exact HB.out | apply below_alloc | apply pw_below_drewN | apply below_drew1 | refine below_set ?_ GE432.out | refine below_set ?_ GE443.out | refine below_set ?_ GE448.out | refine below_set ?_ GE454.out) | exact HB.out))))
      have n4_ := Aside0.mk (blk_below (g := gb432) (o := .cells #[.int .i64 a0_0, .slice A0_1 l0_1.length c0_1] 32 (0, 0)) (by (with_reducible repeat (first | refine blk_drewN ?_ _ | refine blk_drew ?_ | refine blk_alloc ?_ _)); exact BK432.out) hb)
      have n5_ := Aside0.mk (blk_below (g := gb443) (o := .cells #[.int .i64 t438, .slice Ao23 t439.length co23] 24 (0, 0)) (by (with_reducible repeat (first | refine blk_drewN ?_ _ | refine blk_drew ?_ | refine blk_alloc ?_ _)); exact BK443.out) hb)
      have n6_ := Aside0.mk (blk_below (g := gb448) (o := .cells #[.int .i64 t444, .slice Ao30 t445.length co30] 24 (0, 0)) (by (with_reducible repeat (first | refine blk_drewN ?_ _ | refine blk_drew ?_ | refine blk_alloc ?_ _)); exact BK448.out) hb)
      have n7_ := Aside0.mk (blk_below (g := gb454) (o := .cells #[.int .i64 t449, .slice Ao37 t450.length co37] 24 (0, 0)) (by (with_reducible repeat (first | refine blk_drewN ?_ _ | refine blk_drew ?_ | refine blk_alloc ?_ _)); exact BK454.out) hb)
      have n8_ := Aside0.mk (below_step (by repeat (first | (with_reducible first | exact HB.out | apply below_alloc | apply pw_below_drewN | apply below_drew1 | refine below_set ?_ GE432.out | refine below_set ?_ GE443.out | refine below_set ?_ GE448.out | refine below_set ?_ GE454.out) | exact HB.out)) hb)
      clear HO_444001
      clear HO_449001
      clear HO_455001
      clear BK432
      clear BK443
      clear BK448
      clear BK454
      clear HB
      have HO_444001 := n0_
      have HO_449001 := n1_
      have HO_455001 := n2_
      have HO459 := n3_
      have BK432 := n4_
      have BK443 := n5_
      have BK448 := n6_
      have BK454 := n7_
      have HB := n8_
      clear n0_ n1_ n2_ n3_ n4_ n5_ n6_ n7_ n8_
      (try clear hb)
      (try clear hb2)
      (try clear hk)
      (try clear hi)
      (try clear ho0)
      obtain ⟨Ao64, co64, eo64⟩ := Kd.R_slice HO459.out
      (first | subst eo64 | (injection eo64 with f1_ f2_ f3_; have f4_ := f1_.symm; have f5_ := f3_.symm; clear f1_ f2_ f3_; subst f4_; subst f5_))
      refine hK.out _ _ ⟨(blk_cell BK448.out 0).trans rfl, (blk_cell BK448.out 1).trans rfl, (blk_cell BK432.out 0).trans rfl, (blk_cell BK432.out 1).trans rfl⟩ (fun hHeld => ?_)
      clear hK K
      refine norm_ (a' := ?_) ?_ ?_
      rotate_left
      ·show Act.put _ (some 47) _ = _
       simp only [Act.put, List.setIfInBounds_toArray, List.set_cons_zero, List.set_cons_succ, i64_w, i32_w]
       rfl
      refine one_ (i := 3) (N := some 48) #[true, true, true, true, false] rfl rfl (by kernel_rfl) (by decide) (fun K hK => ?_)
      refine goes_ Try.func14 (by kernel_rfl) rfl #[.agg #[.int .i64 t444, .slice Ao30 t445.length co30], .agg #[.int .i64 t456, .slice Ao64 t457.length co64]] (by rfl) rfl rfl (by (try simp only [List.map_toArray, List.map_cons, List.map_nil]); first | done | rfl | (simp only [List.length_drop, List.length_take]; rfl)) ?_
      with_reducible refine (laws_eqTable.calls kj11 t444 _ _ t445 t456 _ _ t457 true _ ?side1 ?side2 ?side3 ?side4 A58.out).mono ?_
      (case side1 => repeat (first | exact (Kd.R_reads' HO_449001.out).2.2 | (with_reducible refine Kd.C_alloc ?_ _) | (with_reducible refine Kd.C_drewN ?_ _) | (with_reducible refine Kd.C_drew ?_)))
      (case side2 => exact (Kd.R_reads' HO_449001.out).2.1)
      (case side3 => repeat (first | exact (Kd.R_reads' HO459.out).2.2 | (with_reducible refine Kd.C_alloc ?_ _) | (with_reducible refine Kd.C_drewN ?_ _) | (with_reducible refine Kd.C_drew ?_)))
      (case side4 => exact (Kd.R_reads' HO459.out).2.1)
      rintro e w65 ⟨rfl, hb⟩
      refine ⟨_, rfl, ?_⟩
      have n0_ := Aside0.mk (Kd.R_below (by (with_reducible repeat (first | apply Kd.R_alloc | apply Kd.R_drewN | apply Kd.R_drew)); exact HO_444001.out) hb)
      have n1_ := Aside0.mk (Kd.R_below (by (with_reducible repeat (first | apply Kd.R_alloc | apply Kd.R_drewN | apply Kd.R_drew)); exact HO_449001.out) hb)
      have n2_ := Aside0.mk (Kd.R_below (by (with_reducible repeat (first | apply Kd.R_alloc | apply Kd.R_drewN | apply Kd.R_drew)); exact HO_455001.out) hb)
      have n3_ := Aside0.mk (Kd.R_below (by (with_reducible repeat (first | apply Kd.R_alloc | apply Kd.R_drewN | apply Kd.R_drew)); exact HO459.out) hb)
      have n4_ := Aside0.mk (blk_below (g := gb432) (o := .cells #[.int .i64 a0_0, .slice A0_1 l0_1.length c0_1] 32 (0, 0)) (by (with_reducible repeat (first | refine blk_drewN ?_ _ | refine blk_drew ?_ | refine blk_alloc ?_ _)); exact BK432.out) hb)
      have n5_ := Aside0.mk (blk_below (g := gb443) (o := .cells #[.int .i64 t438, .slice Ao23 t439.length co23] 24 (0, 0)) (by (with_reducible repeat (first | refine blk_drewN ?_ _ | refine blk_drew ?_ | refine blk_alloc ?_ _)); exact BK443.out) hb)
      have n6_ := Aside0.mk (blk_below (g := gb448) (o := .cells #[.int .i64 t444, .slice Ao30 t445.length co30] 24 (0, 0)) (by (with_reducible repeat (first | refine blk_drewN ?_ _ | refine blk_drew ?_ | refine blk_alloc ?_ _)); exact BK448.out) hb)
      have n7_ := Aside0.mk (blk_below (g := gb454) (o := .cells #[.int .i64 t449, .slice Ao37 t450.length co37] 24 (0, 0)) (by (with_reducible repeat (first | refine blk_drewN ?_ _ | refine blk_drew ?_ | refine blk_alloc ?_ _)); exact BK454.out) hb)
      have n8_ := Aside0.mk (below_step (by repeat (first | (with_reducible first | exact HB.out | apply below_alloc | apply pw_below_drewN | apply below_drew1 | refine below_set ?_ GE432.out | refine below_set ?_ GE443.out | refine below_set ?_ GE448.out | refine below_set ?_ GE454.out) | exact HB.out)) hb)
      clear HO_444001
      clear HO_449001
      clear HO_455001
      clear HO459
      clear BK432
      clear BK443
      clear BK448
      clear BK454
      clear HB
      have HO_444001 := n0_
      have HO_449001 := n1_
      have HO_455001 := n2_
      have HO459 := n3_
      have BK432 := n4_
      have BK443 := n5_
      have BK448 := n6_
      have BK454 := n7_
      have HB := n8_
      clear n0_ n1_ n2_ n3_ n4_ n5_ n6_ n7_ n8_
      (try clear hb)
      (try clear hb2)
      (try clear hk)
      (try clear hi)
      refine hK.out _ _ ⟨(blk_cell BK448.out 0).trans rfl, (blk_cell BK448.out 1).trans rfl, (blk_cell BK432.out 0).trans rfl, (blk_cell BK432.out 1).trans rfl⟩ (fun hHeld => ?_)
      clear hK K
      refine norm_ (a' := ?_) ?_ ?_
      rotate_left
      ·show Act.put _ (some 48) _ = _
       simp only [Act.put, List.setIfInBounds_toArray, List.set_cons_zero, List.set_cons_succ, i64_w, i32_w]
       rfl
      refine pure_ (i := 4) (N := some 49) (v := ?_) (a' := ?_) #[true, true, true, true, true] rfl rfl (by kernel_rfl) (fun _ _ _ h => h) (Or.inl ⟨by rfl, ?_⟩) ?_ ?_
      rotate_left
      ·intro w'
       go_simp
       with_reducible rfl
      rotate_left
      ·simp only [Act.put, List.setIfInBounds_toArray, List.set_cons_zero, List.set_cons_succ, i64_w, i32_w]
       rfl
      refine done_ (by kernel_rfl) ?_
      have hnb66 := NB448_432.out
      have hnc66 := NB432_448.out
      have hnb67 := NB448_443.out
      have hnc67 := NB443_448.out
      have hnb68 := NB448_454.out
      have hnc68 := NB454_448.out
      have hcz69_0 : w65.cell? ⟨gb448, 0, none⟩ = some (.int .i64 t444) := (blk_cell BK448.out 0).trans rfl
      have hcz69_1 : w65.cell? ⟨gb448, 1, none⟩ = some (.slice Ao30 t445.length co30) := (blk_cell BK448.out 1).trans rfl
      have hfz69_0 := blk_frozen BK448.out 0
      have hfz69_1 := blk_frozen BK448.out 1
      go_upto_region 14 with (first | ((with_reducible refine gate_callee (f := 15) rfl ?_); refine goesL_ (some 52) rfl rfl Try.func15 (by kernel_rfl) rfl #[.agg #[.int .i64 t444, .slice Ao30 t445.length co30], .int .i64 1] rfl (by (try simp only [List.map_toArray, List.map_cons, List.map_nil]); first | done | rfl | (simp only [List.length_drop, List.length_take]; rfl)) ?_; (with_reducible refine (laws_markTable.calls kj11 t444 (fun k_ => some k_ = (.slice Ao30 t445.length co30 : Value).ownBlock) (.slice Ao30 t445.length co30) t445 1 t461 t462 w _ ?side1 ?side2 A60.out).mono ?_); (case side1 => repeat (first | (with_reducible first | exact HB.out | apply below_alloc | apply pw_below_drewN | apply below_drew1 | refine below_set ?_ GE432.out | refine below_set ?_ GE443.out | refine below_set ?_ GE448.out | refine below_set ?_ GE454.out) | exact HB.out)); (case side2 => exact Kd.R_tight rfl HO_449001.out); rintro e w70 ⟨rfl, hy0, hb, hkp⟩; refine ⟨_, rfl, ?_⟩; have n0_ := Aside0.mk (Kd.R_mono (ok' := fun k_ => some k_ ≠ (.slice Ao30 t445.length co30 : Value).ownBlock ∧ some k_ ≠ (.slice Ao37 t450.length co37 : Value).ownBlock ∧ some k_ ≠ (.slice Ao64 t457.length co64 : Value).ownBlock) (Kd.R_keptB (HO_444001.out) hkp (fun k_ hk_ hs_ => (hk_.1.1) hs_)) (fun k_ hk_ => ⟨hk_.1.1.1, hk_.1.1.2, hk_.1.2⟩)); have n1_ := Aside0.mk (Kd.R_reok rfl hy0 (fun k_ e_ => HO_449001.out.1 k_ e_)); have n2_ := Aside0.mk (Kd.R_mono (ok' := fun k_ => some k_ ≠ (.slice Ao23 t439.length co23 : Value).ownBlock ∧ some k_ ≠ (.slice Ao30 t445.length co30 : Value).ownBlock ∧ some k_ ≠ (.slice Ao64 t457.length co64 : Value).ownBlock) (Kd.R_keptB (HO_455001.out) hkp (fun k_ hk_ hs_ => (hk_.1.2) hs_)) (fun k_ hk_ => ⟨hk_.1.1.1, hk_.1.1.2, hk_.1.2⟩)); have n3_ := Aside0.mk (blk_kept (by (with_reducible repeat (first | refine blk_drewN ?_ _ | refine blk_drew ?_ | refine blk_alloc ?_ _)); exact BK432.out) hkp (fun hs_ => (fun e_ => (Kd.R_ne HO_449001.out BK432.out (by decide)) e_) hs_)); have n4_ := Aside0.mk (blk_kept (by (with_reducible repeat (first | refine blk_drewN ?_ _ | refine blk_drew ?_ | refine blk_alloc ?_ _)); exact BK443.out) hkp (fun hs_ => (fun e_ => (Kd.R_ne HO_449001.out BK443.out (by decide)) e_) hs_)); have n5_ := Aside0.mk (blk_kept (by (with_reducible repeat (first | refine blk_drewN ?_ _ | refine blk_drew ?_ | refine blk_alloc ?_ _)); exact BK448.out) hkp (fun hs_ => (fun e_ => (Kd.R_ne HO_449001.out BK448.out (by decide)) e_) hs_)); have n6_ := Aside0.mk (blk_kept (by (with_reducible repeat (first | refine blk_drewN ?_ _ | refine blk_drew ?_ | refine blk_alloc ?_ _)); exact BK454.out) hkp (fun hs_ => (fun e_ => (Kd.R_ne HO_449001.out BK454.out (by decide)) e_) hs_)); have n7_ := Aside0.mk (Kd.R_mono (ok' := fun k_ => some k_ ≠ (.slice Ao23 t439.length co23 : Value).ownBlock ∧ some k_ ≠ (.slice Ao30 t445.length co30 : Value).ownBlock ∧ some k_ ≠ (.slice Ao37 t450.length co37 : Value).ownBlock) (Kd.R_keptB (HO459.out) hkp (fun k_ hk_ hs_ => (hk_.1.2) hs_)) (fun k_ hk_ => ⟨hk_.1.1.1.2, hk_.1.1.2, hk_.1.2⟩)); have n8_ := Aside0.mk (hb); clear HO_444001; clear HO_449001; clear HO_455001; clear BK432; clear BK443; clear BK448; clear BK454; clear HO459; clear HB; have HO_444001 := n0_; have HO_449001 := n1_; have HO_455001 := n2_; have BK432 := n3_; have BK443 := n4_; have BK448 := n5_; have BK454 := n6_; have HO459 := n7_; have HB := n8_; clear n0_ n1_ n2_ n3_ n4_ n5_ n6_ n7_ n8_; (try clear hb); (try clear hkp); (try clear hy0)))
      (try simp only [Act.put, List.setIfInBounds_toArray, List.set_cons_zero, List.set_cons_succ])
      go_cut [65] (fun v65 wc => ∃ (kq : Nat) (x65_60 : Bool), v65 = .bool x65_60 ∧ Aside0 (laws_FnExactFlushPort.j1 kq a1 t442 x65_60 a0_0 l0_1 t438 t439 t449 t450 = some r) ∧ Aside0 (kq ≤ kj11) ∧ Aside0 (Kd.R k53 53 wc w.heap.size (fun k_ => some k_ ≠ ((.slice Ao30 t445.length co30) : Value).ownBlock ∧ some k_ ≠ ((.slice Ao37 t450.length co37) : Value).ownBlock) (.slice Ao23 t439.length co23) t439) ∧ Aside0 (Kd.R k53 53 wc w.heap.size (fun k_ => some k_ ≠ ((.slice Ao23 t439.length co23) : Value).ownBlock ∧ some k_ ≠ ((.slice Ao37 t450.length co37) : Value).ownBlock) (.slice Ao30 t445.length co30) t462) ∧ Aside0 (Kd.R k53 53 wc w.heap.size (fun k_ => some k_ ≠ ((.slice Ao23 t439.length co23) : Value).ownBlock ∧ some k_ ≠ ((.slice Ao30 t445.length co30) : Value).ownBlock) (.slice Ao37 t450.length co37) t450) ∧ Aside0 (wc.heap[gb432]? = some (.cells #[.int .i64 a0_0, (.slice A0_1 l0_1.length c0_1)] 32 (0, 0))) ∧ Aside0 (wc.heap[gb443]? = some (.cells #[.int .i64 t438, (.slice Ao23 t439.length co23)] 24 (0, 0))) ∧ Aside0 (wc.heap[gb448]? = some (.cells #[.int .i64 t444, (.slice Ao30 t445.length co30)] 24 (0, 0))) ∧ Aside0 (wc.heap[gb454]? = some (.cells #[.int .i64 t449, (.slice Ao37 t450.length co37)] 24 (0, 0))) ∧ Aside0 (Below w.heap.size w wc))
      case first =>
       have H := HC61.out
       clear HC61
       by_cases c71 : t461 < 0
       ·rw [if_pos c71] at H
        have c71b0 : decide (t461 < 0) = true := decide_eq_true c71
        clear c71
        (first | rw [c71b0] | (simp only [i64_w, i32_w]; rw [c71b0]) | skip)
        have H' := Aside0.mk H
        clear H
        go_wp2
        go_meet
        case rel => exact ⟨_, (true), (by first | rfl | (simp; done) | (simp [*]; done)), H', ⟨by have := HJ11.out; first | omega | exact Nat.le_refl _⟩, ⟨by (with_reducible repeat (first | apply Kd.R_alloc | apply Kd.R_drewN | apply Kd.R_drew)); exact Kd.R_mono HO_444001.out (fun _ hk => ⟨hk.1, hk.2.1⟩)⟩, ⟨by (with_reducible repeat (first | apply Kd.R_alloc | apply Kd.R_drewN | apply Kd.R_drew)); exact Kd.R_mono HO_449001.out (fun _ hk => ⟨hk.1.1, hk.1.2⟩)⟩, ⟨by (with_reducible repeat (first | apply Kd.R_alloc | apply Kd.R_drewN | apply Kd.R_drew)); exact Kd.R_mono HO_455001.out (fun _ hk => ⟨hk.1, hk.2.1⟩)⟩, ⟨by (with_reducible repeat (first | refine blk_drewN ?_ _ | refine blk_drew ?_ | refine blk_alloc ?_ _)); exact BK432.out⟩, ⟨by (with_reducible repeat (first | refine blk_drewN ?_ _ | refine blk_drew ?_ | refine blk_alloc ?_ _)); exact BK443.out⟩, ⟨by (with_reducible repeat (first | refine blk_drewN ?_ _ | refine blk_drew ?_ | refine blk_alloc ?_ _)); exact BK448.out⟩, ⟨by (with_reducible repeat (first | refine blk_drewN ?_ _ | refine blk_drew ?_ | refine blk_alloc ?_ _)); exact BK454.out⟩, ⟨by repeat (first | (with_reducible first | exact HB.out | apply below_alloc | apply pw_below_drewN | apply below_drew1 | refine below_set ?_ GE432.out | refine below_set ?_ GE443.out | refine below_set ?_ GE448.out | refine below_set ?_ GE454.out) | exact HB.out)⟩⟩
       ·rw [if_neg c71] at H
        have c71b0 : decide (t461 < 0) = false := decide_eq_false c71
        clear c71
        (first | rw [c71b0] | (simp only [i64_w, i32_w]; rw [c71b0]) | skip)
        replace H := Option.bind_eq_some_iff.mp H
        obtain ⟨t463, A720, H⟩ := H
        replace H : (if t463 = true then (laws_FnExactFlushPort.j1 kj11 a1 t442 (t453 != t442) a0_0 l0_1 t438 t439 t449 t450) else (laws_FnExactFlushPort.j1 kj11 a1 t442 true a0_0 l0_1 t438 t439 t449 t450)) = some r := H
        have A72 := Aside0.mk A720
        clear A720
        by_cases c73 : t463 = true
        ·subst c73
         have H1 : (laws_FnExactFlushPort.j1 kj11 a1 t442 (t453 != t442) a0_0 l0_1 t438 t439 t449 t450) = some r := by rw [if_pos rfl] at H; exact H
         clear H
         have H := H1
         clear H1
         have H' := Aside0.mk H
         clear H
         have hnb74 := NB454_432.out
         have hnc74 := NB432_454.out
         have hnb75 := NB454_443.out
         have hnc75 := NB443_454.out
         have hnb76 := NB454_448.out
         have hnc76 := NB448_454.out
         have hcz77_0 : w70.cell? ⟨gb454, 0, none⟩ = some (.int .i64 t449) := (blk_cell BK454.out 0).trans rfl
         have hcz77_1 : w70.cell? ⟨gb454, 1, none⟩ = some (.slice Ao37 t450.length co37) := (blk_cell BK454.out 1).trans rfl
         have hfz77_0 := blk_frozen BK454.out 0
         have hfz77_1 := blk_frozen BK454.out 1
         have hnb78 := NB443_432.out
         have hnc78 := NB432_443.out
         have hnb79 := NB443_448.out
         have hnc79 := NB448_443.out
         have hcz80_0 : w70.cell? ⟨gb443, 0, none⟩ = some (.int .i64 t438) := (blk_cell BK443.out 0).trans rfl
         have hcz80_1 : w70.cell? ⟨gb443, 1, none⟩ = some (.slice Ao23 t439.length co23) := (blk_cell BK443.out 1).trans rfl
         have hfz80_0 := blk_frozen BK443.out 0
         have hfz80_1 := blk_frozen BK443.out 1
         go_wp2_with (first | (go_at_call 14; (with_reducible refine (laws_eqTable.calls kj11 t449 _ _ t450 t438 _ _ t439 true _ ?side1 ?side2 ?side3 ?side4 A72.out).mono ?_); (case side1 => repeat (first | exact (Kd.R_reads' HO_455001.out).2.2 | (with_reducible refine Kd.C_alloc ?_ _) | (with_reducible refine Kd.C_drewN ?_ _) | (with_reducible refine Kd.C_drew ?_))); (case side2 => exact (Kd.R_reads' HO_455001.out).2.1); (case side3 => repeat (first | exact (Kd.R_reads' HO_444001.out).2.2 | (with_reducible refine Kd.C_alloc ?_ _) | (with_reducible refine Kd.C_drewN ?_ _) | (with_reducible refine Kd.C_drew ?_))); (case side4 => exact (Kd.R_reads' HO_444001.out).2.1); rintro e w81 ⟨rfl, hb⟩; have n0_ := Aside0.mk (Kd.R_below (by (with_reducible repeat (first | apply Kd.R_alloc | apply Kd.R_drewN | apply Kd.R_drew)); exact HO_444001.out) hb); have n1_ := Aside0.mk (Kd.R_below (by (with_reducible repeat (first | apply Kd.R_alloc | apply Kd.R_drewN | apply Kd.R_drew)); exact HO_449001.out) hb); have n2_ := Aside0.mk (Kd.R_below (by (with_reducible repeat (first | apply Kd.R_alloc | apply Kd.R_drewN | apply Kd.R_drew)); exact HO_455001.out) hb); have n3_ := Aside0.mk (Kd.R_below (by (with_reducible repeat (first | apply Kd.R_alloc | apply Kd.R_drewN | apply Kd.R_drew)); exact HO459.out) hb); have n4_ := Aside0.mk (blk_below (g := gb432) (o := .cells #[.int .i64 a0_0, .slice A0_1 l0_1.length c0_1] 32 (0, 0)) (by (with_reducible repeat (first | refine blk_drewN ?_ _ | refine blk_drew ?_ | refine blk_alloc ?_ _)); exact BK432.out) hb); have n5_ := Aside0.mk (blk_below (g := gb443) (o := .cells #[.int .i64 t438, .slice Ao23 t439.length co23] 24 (0, 0)) (by (with_reducible repeat (first | refine blk_drewN ?_ _ | refine blk_drew ?_ | refine blk_alloc ?_ _)); exact BK443.out) hb); have n6_ := Aside0.mk (blk_below (g := gb448) (o := .cells #[.int .i64 t444, .slice Ao30 t445.length co30] 24 (0, 0)) (by (with_reducible repeat (first | refine blk_drewN ?_ _ | refine blk_drew ?_ | refine blk_alloc ?_ _)); exact BK448.out) hb); have n7_ := Aside0.mk (blk_below (g := gb454) (o := .cells #[.int .i64 t449, .slice Ao37 t450.length co37] 24 (0, 0)) (by (with_reducible repeat (first | refine blk_drewN ?_ _ | refine blk_drew ?_ | refine blk_alloc ?_ _)); exact BK454.out) hb); have n8_ := Aside0.mk (below_step (by repeat (first | (with_reducible first | exact HB.out | apply below_alloc | apply pw_below_drewN | apply below_drew1 | refine below_set ?_ GE432.out | refine below_set ?_ GE443.out | refine below_set ?_ GE448.out | refine below_set ?_ GE454.out) | exact HB.out)) hb); clear HO_444001; clear HO_449001; clear HO_455001; clear HO459; clear BK432; clear BK443; clear BK448; clear BK454; clear HB; have HO_444001 := n0_; have HO_449001 := n1_; have HO_455001 := n2_; have HO459 := n3_; have BK432 := n4_; have BK443 := n5_; have BK448 := n6_; have BK454 := n7_; have HB := n8_; clear n0_ n1_ n2_ n3_ n4_ n5_ n6_ n7_ n8_; (try clear hb); (try clear hb2); (try clear hk); (try clear hi)))
         go_meet
         case rel => exact ⟨_, ((t453 != t442)), (by first | rfl | (simp; done) | (simp [*]; done)), H', ⟨by have := HJ11.out; first | omega | exact Nat.le_refl _⟩, ⟨by (with_reducible repeat (first | apply Kd.R_alloc | apply Kd.R_drewN | apply Kd.R_drew)); exact Kd.R_mono HO_444001.out (fun _ hk => ⟨hk.1, hk.2.1⟩)⟩, ⟨by (with_reducible repeat (first | apply Kd.R_alloc | apply Kd.R_drewN | apply Kd.R_drew)); exact Kd.R_mono HO_449001.out (fun _ hk => ⟨hk.1.1, hk.1.2⟩)⟩, ⟨by (with_reducible repeat (first | apply Kd.R_alloc | apply Kd.R_drewN | apply Kd.R_drew)); exact Kd.R_mono HO_455001.out (fun _ hk => ⟨hk.1, hk.2.1⟩)⟩, ⟨by (with_reducible repeat (first | refine blk_drewN ?_ _ | refine blk_drew ?_ | refine blk_alloc ?_ _)); exact BK432.out⟩, ⟨by (with_reducible repeat (first | refine blk_drewN ?_ _ | refine blk_drew ?_ | refine blk_alloc ?_ _)); exact BK443.out⟩, ⟨by (with_reducible repeat (first | refine blk_drewN ?_ _ | refine blk_drew ?_ | refine blk_alloc ?_ _)); exact BK448.out⟩, ⟨by (with_reducible repeat (first | refine blk_drewN ?_ _ | refine blk_drew ?_ | refine blk_alloc ?_ _)); exact BK454.out⟩, ⟨by repeat (first | (with_reducible first | exact HB.out | apply below_alloc | apply pw_below_drewN | apply below_drew1 | refine below_set ?_ GE432.out | refine below_set ?_ GE443.out | refine below_set ?_ GE448.out | refine below_set ?_ GE454.out) | exact HB.out)⟩⟩
        ·replace c73 := Bool.eq_false_iff.mpr c73
         subst c73
         have H1 : (laws_FnExactFlushPort.j1 kj11 a1 t442 true a0_0 l0_1 t438 t439 t449 t450) = some r := by rw [if_neg (show ¬ (false = true) by decide)] at H; exact H
         clear H
         have H := H1
         clear H1
         have H' := Aside0.mk H
         clear H
         have hnb82 := NB454_432.out
         have hnc82 := NB432_454.out
         have hnb83 := NB454_443.out
         have hnc83 := NB443_454.out
         have hnb84 := NB454_448.out
         have hnc84 := NB448_454.out
         have hcz85_0 : w70.cell? ⟨gb454, 0, none⟩ = some (.int .i64 t449) := (blk_cell BK454.out 0).trans rfl
         have hcz85_1 : w70.cell? ⟨gb454, 1, none⟩ = some (.slice Ao37 t450.length co37) := (blk_cell BK454.out 1).trans rfl
         have hfz85_0 := blk_frozen BK454.out 0
         have hfz85_1 := blk_frozen BK454.out 1
         have hnb86 := NB443_432.out
         have hnc86 := NB432_443.out
         have hnb87 := NB443_448.out
         have hnc87 := NB448_443.out
         have hcz88_0 : w70.cell? ⟨gb443, 0, none⟩ = some (.int .i64 t438) := (blk_cell BK443.out 0).trans rfl
         have hcz88_1 : w70.cell? ⟨gb443, 1, none⟩ = some (.slice Ao23 t439.length co23) := (blk_cell BK443.out 1).trans rfl
         have hfz88_0 := blk_frozen BK443.out 0
         have hfz88_1 := blk_frozen BK443.out 1
         go_wp2_with (first | (go_at_call 14; (with_reducible refine (laws_eqTable.calls kj11 t449 _ _ t450 t438 _ _ t439 false _ ?side1 ?side2 ?side3 ?side4 A72.out).mono ?_); (case side1 => repeat (first | exact (Kd.R_reads' HO_455001.out).2.2 | (with_reducible refine Kd.C_alloc ?_ _) | (with_reducible refine Kd.C_drewN ?_ _) | (with_reducible refine Kd.C_drew ?_))); (case side2 => exact (Kd.R_reads' HO_455001.out).2.1); (case side3 => repeat (first | exact (Kd.R_reads' HO_444001.out).2.2 | (with_reducible refine Kd.C_alloc ?_ _) | (with_reducible refine Kd.C_drewN ?_ _) | (with_reducible refine Kd.C_drew ?_))); (case side4 => exact (Kd.R_reads' HO_444001.out).2.1); rintro e w89 ⟨rfl, hb⟩; have n0_ := Aside0.mk (Kd.R_below (by (with_reducible repeat (first | apply Kd.R_alloc | apply Kd.R_drewN | apply Kd.R_drew)); exact HO_444001.out) hb); have n1_ := Aside0.mk (Kd.R_below (by (with_reducible repeat (first | apply Kd.R_alloc | apply Kd.R_drewN | apply Kd.R_drew)); exact HO_449001.out) hb); have n2_ := Aside0.mk (Kd.R_below (by (with_reducible repeat (first | apply Kd.R_alloc | apply Kd.R_drewN | apply Kd.R_drew)); exact HO_455001.out) hb); have n3_ := Aside0.mk (Kd.R_below (by (with_reducible repeat (first | apply Kd.R_alloc | apply Kd.R_drewN | apply Kd.R_drew)); exact HO459.out) hb); have n4_ := Aside0.mk (blk_below (g := gb432) (o := .cells #[.int .i64 a0_0, .slice A0_1 l0_1.length c0_1] 32 (0, 0)) (by (with_reducible repeat (first | refine blk_drewN ?_ _ | refine blk_drew ?_ | refine blk_alloc ?_ _)); exact BK432.out) hb); have n5_ := Aside0.mk (blk_below (g := gb443) (o := .cells #[.int .i64 t438, .slice Ao23 t439.length co23] 24 (0, 0)) (by (with_reducible repeat (first | refine blk_drewN ?_ _ | refine blk_drew ?_ | refine blk_alloc ?_ _)); exact BK443.out) hb); have n6_ := Aside0.mk (blk_below (g := gb448) (o := .cells #[.int .i64 t444, .slice Ao30 t445.length co30] 24 (0, 0)) (by (with_reducible repeat (first | refine blk_drewN ?_ _ | refine blk_drew ?_ | refine blk_alloc ?_ _)); exact BK448.out) hb); have n7_ := Aside0.mk (blk_below (g := gb454) (o := .cells #[.int .i64 t449, .slice Ao37 t450.length co37] 24 (0, 0)) (by (with_reducible repeat (first | refine blk_drewN ?_ _ | refine blk_drew ?_ | refine blk_alloc ?_ _)); exact BK454.out) hb); have n8_ := Aside0.mk (below_step (by repeat (first | (with_reducible first | exact HB.out | apply below_alloc | apply pw_below_drewN | apply below_drew1 | refine below_set ?_ GE432.out | refine below_set ?_ GE443.out | refine below_set ?_ GE448.out | refine below_set ?_ GE454.out) | exact HB.out)) hb); clear HO_444001; clear HO_449001; clear HO_455001; clear HO459; clear BK432; clear BK443; clear BK448; clear BK454; clear HB; have HO_444001 := n0_; have HO_449001 := n1_; have HO_455001 := n2_; have HO459 := n3_; have BK432 := n4_; have BK443 := n5_; have BK448 := n6_; have BK454 := n7_; have HB := n8_; clear n0_ n1_ n2_ n3_ n4_ n5_ n6_ n7_ n8_; (try clear hb); (try clear hb2); (try clear hk); (try clear hi)))
         go_meet
         case rel => exact ⟨_, (true), (by first | rfl | (simp; done) | (simp [*]; done)), H', ⟨by have := HJ11.out; first | omega | exact Nat.le_refl _⟩, ⟨by (with_reducible repeat (first | apply Kd.R_alloc | apply Kd.R_drewN | apply Kd.R_drew)); exact Kd.R_mono HO_444001.out (fun _ hk => ⟨hk.1, hk.2.1⟩)⟩, ⟨by (with_reducible repeat (first | apply Kd.R_alloc | apply Kd.R_drewN | apply Kd.R_drew)); exact Kd.R_mono HO_449001.out (fun _ hk => ⟨hk.1.1, hk.1.2⟩)⟩, ⟨by (with_reducible repeat (first | apply Kd.R_alloc | apply Kd.R_drewN | apply Kd.R_drew)); exact Kd.R_mono HO_455001.out (fun _ hk => ⟨hk.1, hk.2.1⟩)⟩, ⟨by (with_reducible repeat (first | refine blk_drewN ?_ _ | refine blk_drew ?_ | refine blk_alloc ?_ _)); exact BK432.out⟩, ⟨by (with_reducible repeat (first | refine blk_drewN ?_ _ | refine blk_drew ?_ | refine blk_alloc ?_ _)); exact BK443.out⟩, ⟨by (with_reducible repeat (first | refine blk_drewN ?_ _ | refine blk_drew ?_ | refine blk_alloc ?_ _)); exact BK448.out⟩, ⟨by (with_reducible repeat (first | refine blk_drewN ?_ _ | refine blk_drew ?_ | refine blk_alloc ?_ _)); exact BK454.out⟩, ⟨by repeat (first | (with_reducible first | exact HB.out | apply below_alloc | apply pw_below_drewN | apply below_drew1 | refine below_set ?_ GE432.out | refine below_set ?_ GE443.out | refine below_set ?_ GE448.out | refine below_set ?_ GE454.out) | exact HB.out)⟩⟩
      case rest =>
       clear HC61
       try clear c1
       try clear c2
       try clear p2
       try clear c3
       try clear c4
       try clear c4b0
       try clear c5
       try clear c6
       try clear c7
       try clear c8
       try clear c14
       try clear c15
       try clear c17
       try clear c19
       try clear c21
       try clear c27
       try clear c28
       try clear c30
       try clear c31
       try clear c33
       try clear c34
       try clear c35
       try clear c39
       try clear c40
       try clear c41
       try clear c42
       try clear c44
       try clear c45
       try clear c48
       try clear c49
       try clear c50
       try clear c52
       try clear c53
       try clear c56
       try clear c59
       try clear c66
       try clear c67
       try clear c68
       try clear c71
       try clear c71b0
       try clear c73
       try clear c74
       try clear c75
       try clear c76
       try clear c78
       try clear c79
       try clear c82
       try clear c83
       try clear c84
       try clear c86
       try clear c87
       try clear hcz14_0
       try clear hcz14_1
       try clear hcz16_0
       try clear hcz16_1
       try clear hcz22_0
       try clear hcz22_1
       try clear hcz24_0
       try clear hcz24_1
       try clear hcz29_0
       try clear hcz29_1
       try clear hcz36_0
       try clear hcz36_1
       try clear hcz43_0
       try clear hcz43_1
       try clear hcz46_0
       try clear hcz46_1
       try clear hcz51_0
       try clear hcz51_1
       try clear hcz54_0
       try clear hcz54_1
       try clear hcz69_0
       try clear hcz69_1
       try clear hcz6_0
       try clear hcz6_1
       try clear hcz77_0
       try clear hcz77_1
       try clear hcz80_0
       try clear hcz80_1
       try clear hcz85_0
       try clear hcz85_1
       try clear hcz88_0
       try clear hcz88_1
       try clear hfz14_0
       try clear hfz14_1
       try clear hfz16_0
       try clear hfz16_1
       try clear hfz22_0
       try clear hfz22_1
       try clear hfz24_0
       try clear hfz24_1
       try clear hfz29_0
       try clear hfz29_1
       try clear hfz36_0
       try clear hfz36_1
       try clear hfz43_0
       try clear hfz43_1
       try clear hfz46_0
       try clear hfz46_1
       try clear hfz51_0
       try clear hfz51_1
       try clear hfz54_0
       try clear hfz54_1
       try clear hfz69_0
       try clear hfz69_1
       try clear hfz6_0
       try clear hfz6_1
       try clear hfz77_0
       try clear hfz77_1
       try clear hfz80_0
       try clear hfz80_1
       try clear hfz85_0
       try clear hfz85_1
       try clear hfz88_0
       try clear hfz88_1
       try clear p2
       obtain ⟨kq, x65_60, rfl, HA, HJ60, HO_444001, HO_449001, HO_455001, BK432, BK443, BK448, BK454, HB⟩ := hcut
       have hl449001_60 := (Kd.R_reads' HO_449001.out).1
       rw [hl449001_60] at HO_449001
       (try simp only [hl449001_60])
       (try simp only [hl449001_60] at BK432)
       (try simp only [hl449001_60] at BK443)
       (try simp only [hl449001_60] at BK448)
       (try simp only [hl449001_60] at BK454)
       (try simp only [hl449001_60] at HO_444001)
       (try simp only [hl449001_60] at HO_455001)
       cases kq with
       | zero => exact absurd HA.out (by simp [laws_FnExactFlushPort.j1])
       | succ kj60 =>
        have H := HA.out
        clear HA
        simp only [laws_FnExactFlushPort.j1] at H
        by_cases c90 : x65_60 = true
        ·subst c90
         have H1 : (some false) = some r := by rw [if_pos rfl] at H; exact H
         clear H
         have H := H1
         clear H1
         obtain rfl := Option.some.inj H
         go_wp2
         go_ret
         exact ⟨by first | rfl | (simp [errW_none, errW_some] <;> rfl) | (simp [*, errW_none, errW_some] <;> rfl), by repeat (first | (with_reducible first | exact HB.out | apply below_alloc | apply pw_below_drewN | apply below_drew1 | refine below_set ?_ GE432.out | refine below_set ?_ GE443.out | refine below_set ?_ GE448.out | refine below_set ?_ GE454.out) | exact HB.out)⟩
        ·replace c90 := Bool.eq_false_iff.mpr c90
         subst c90
         have H1 : ((laws_markTable.f kj60 t449 t450 1).bind fun bt464 => ((laws_heldTable.f kj60 t449 bt464.2 1).bind fun t466 => (if t466 < 0 then (some false) else (if t466 = bt464.1 then ((laws_toTable.f kj60 a0_0 l0_1).bind fun bt467 => ((impl_FlushPort.f kj60 bt467.1 bt467.2 a1).bind fun bt471 => ((laws_eqTable.f kj60 bt471.1 bt471.2.1 t438 t439).bind fun t477 => (if t477 = true then (laws_FnExactFlushPort.j2 kj60 bt464.1 (bt471.2.2 != t442) t449 bt464.2) else (laws_FnExactFlushPort.j2 kj60 bt464.1 true t449 bt464.2))))) else (some false))))) = some r := by rw [if_neg (show ¬ (false = true) by decide)] at H; exact H
         clear H
         have H := H1
         clear H1
         replace H := Option.bind_eq_some_iff.mp H
         obtain ⟨⟨t464, t465⟩, A910, H⟩ := H
         replace H : ((laws_heldTable.f kj60 t449 t465 1).bind fun t466 => (if t466 < 0 then (some false) else (if t466 = t464 then ((laws_toTable.f kj60 a0_0 l0_1).bind fun bt467 => ((impl_FlushPort.f kj60 bt467.1 bt467.2 a1).bind fun bt471 => ((laws_eqTable.f kj60 bt471.1 bt471.2.1 t438 t439).bind fun t477 => (if t477 = true then (laws_FnExactFlushPort.j2 kj60 t464 (bt471.2.2 != t442) t449 t465) else (laws_FnExactFlushPort.j2 kj60 t464 true t449 t465))))) else (some false)))) = some r := H
         have A91 := Aside0.mk A910
         clear A910
         replace H := Option.bind_eq_some_iff.mp H
         obtain ⟨t466, A920, H⟩ := H
         replace H : (if t466 < 0 then (some false) else (if t466 = t464 then ((laws_toTable.f kj60 a0_0 l0_1).bind fun bt467 => ((impl_FlushPort.f kj60 bt467.1 bt467.2 a1).bind fun bt471 => ((laws_eqTable.f kj60 bt471.1 bt471.2.1 t438 t439).bind fun t477 => (if t477 = true then (laws_FnExactFlushPort.j2 kj60 t464 (bt471.2.2 != t442) t449 t465) else (laws_FnExactFlushPort.j2 kj60 t464 true t449 t465))))) else (some false))) = some r := H
         have A92 := Aside0.mk A920
         clear A920
         by_cases c93 : t466 < 0
         ·rw [if_pos c93] at H
          have c93b0 : decide (t466 < 0) = true := decide_eq_true c93
          clear c93
          obtain rfl := Option.some.inj H
          have hnb94 := NB454_432.out
          have hnc94 := NB432_454.out
          have hnb95 := NB454_443.out
          have hnc95 := NB443_454.out
          have hnb96 := NB454_448.out
          have hnc96 := NB448_454.out
          have hcz97_0 : wc.cell? ⟨gb454, 0, none⟩ = some (.int .i64 t449) := (blk_cell BK454.out 0).trans rfl
          have hcz97_1 : wc.cell? ⟨gb454, 1, none⟩ = some (.slice Ao37 t450.length co37) := (blk_cell BK454.out 1).trans rfl
          have hfz97_0 := blk_frozen BK454.out 0
          have hfz97_1 := blk_frozen BK454.out 1
          go_wp2_with (first | ((with_reducible refine gate_callee (f := 15) rfl ?_); refine goesL_ (some 68) rfl rfl Try.func15 (by kernel_rfl) rfl #[.agg #[.int .i64 t449, .slice Ao37 t450.length co37], .int .i64 1] rfl (by (try simp only [List.map_toArray, List.map_cons, List.map_nil]); first | done | rfl | (simp only [List.length_drop, List.length_take]; rfl)) ?_; (with_reducible refine (laws_markTable.calls kj60 t449 (fun k_ => some k_ = (.slice Ao37 t450.length co37 : Value).ownBlock) (.slice Ao37 t450.length co37) t450 1 t464 t465 w _ ?side1 ?side2 A91.out).mono ?_); (case side1 => repeat (first | (with_reducible first | exact HB.out | apply below_alloc | apply pw_below_drewN | apply below_drew1 | refine below_set ?_ GE432.out | refine below_set ?_ GE443.out | refine below_set ?_ GE448.out | refine below_set ?_ GE454.out) | exact HB.out)); (case side2 => exact Kd.R_tight rfl HO_455001.out); rintro e w98 ⟨rfl, hy0, hb, hkp⟩; refine ⟨_, rfl, ?_⟩; have n0_ := Aside0.mk (Kd.R_mono (ok' := fun k_ => some k_ ≠ (.slice Ao30 t462.length co30 : Value).ownBlock ∧ some k_ ≠ (.slice Ao37 t450.length co37 : Value).ownBlock) (Kd.R_keptB (HO_444001.out) hkp (fun k_ hk_ hs_ => (hk_.2) hs_)) (fun k_ hk_ => ⟨hk_.1.1, hk_.1.2⟩)); have n1_ := Aside0.mk (Kd.R_mono (ok' := fun k_ => some k_ ≠ (.slice Ao23 t439.length co23 : Value).ownBlock ∧ some k_ ≠ (.slice Ao37 t450.length co37 : Value).ownBlock) (Kd.R_keptB (HO_449001.out) hkp (fun k_ hk_ hs_ => (hk_.2) hs_)) (fun k_ hk_ => ⟨hk_.1.1, hk_.1.2⟩)); have n2_ := Aside0.mk (Kd.R_reok rfl hy0 (fun k_ e_ => HO_455001.out.1 k_ e_)); have n3_ := Aside0.mk (blk_kept (by (with_reducible repeat (first | refine blk_drewN ?_ _ | refine blk_drew ?_ | refine blk_alloc ?_ _)); exact BK432.out) hkp (fun hs_ => (fun e_ => (Kd.R_ne HO_455001.out BK432.out (by decide)) e_) hs_)); have n4_ := Aside0.mk (blk_kept (by (with_reducible repeat (first | refine blk_drewN ?_ _ | refine blk_drew ?_ | refine blk_alloc ?_ _)); exact BK443.out) hkp (fun hs_ => (fun e_ => (Kd.R_ne HO_455001.out BK443.out (by decide)) e_) hs_)); have n5_ := Aside0.mk (blk_kept (by (with_reducible repeat (first | refine blk_drewN ?_ _ | refine blk_drew ?_ | refine blk_alloc ?_ _)); exact BK448.out) hkp (fun hs_ => (fun e_ => (Kd.R_ne HO_455001.out BK448.out (by decide)) e_) hs_)); have n6_ := Aside0.mk (blk_kept (by (with_reducible repeat (first | refine blk_drewN ?_ _ | refine blk_drew ?_ | refine blk_alloc ?_ _)); exact BK454.out) hkp (fun hs_ => (fun e_ => (Kd.R_ne HO_455001.out BK454.out (by decide)) e_) hs_)); have n7_ := Aside0.mk (hb); clear HO_444001; clear HO_449001; clear HO_455001; clear BK432; clear BK443; clear BK448; clear BK454; clear HB; have HO_444001 := n0_; have HO_449001 := n1_; have HO_455001 := n2_; have BK432 := n3_; have BK443 := n4_; have BK448 := n5_; have BK454 := n6_; have HB := n7_; clear n0_ n1_ n2_ n3_ n4_ n5_ n6_ n7_; (try clear hb); (try clear hkp); (try clear hy0); have hcz99_0 : w98.cell? ⟨gb454, 0, none⟩ = some (.int .i64 t449) := (blk_cell BK454.out 0).trans rfl; have hcz99_1 : w98.cell? ⟨gb454, 1, none⟩ = some (.slice Ao37 t450.length co37) := (blk_cell BK454.out 1).trans rfl; have hfz99_0 := blk_frozen BK454.out 0; have hfz99_1 := blk_frozen BK454.out 1) | ((with_reducible refine gate_callee (f := 16) rfl ?_); refine goesL_ (some 71) rfl rfl Try.func16 (by kernel_rfl) rfl #[.agg #[.int .i64 t449, .slice Ao37 t465.length co37], .int .i64 1] rfl (by (try simp only [List.map_toArray, List.map_cons, List.map_nil]); first | done | (rw [show t465.length = t450.length from (Kd.R_reads' HO_455001.out).1.symm] <;> rfl) | rfl | (simp only [List.length_drop, List.length_take]; rfl)) ?_; (with_reducible refine (laws_heldTable.calls kj60 t449 _ _ t465 1 t466 _ ?side1 ?side2 A92.out).mono ?_); (case side1 => repeat (first | exact (Kd.R_reads' HO_455001.out).2.2 | (with_reducible refine Kd.C_alloc ?_ _) | (with_reducible refine Kd.C_drewN ?_ _) | (with_reducible refine Kd.C_drew ?_))); (case side2 => rw [show t465.length = t450.length from (Kd.R_reads' HO_455001.out).1.symm]; exact (Kd.R_reads' HO_455001.out).2.1); rintro e w100 ⟨rfl, hb⟩; refine ⟨_, rfl, ?_⟩; have n0_ := Aside0.mk (Kd.R_below (by (with_reducible repeat (first | apply Kd.R_alloc | apply Kd.R_drewN | apply Kd.R_drew)); exact HO_444001.out) hb); have n1_ := Aside0.mk (Kd.R_below (by (with_reducible repeat (first | apply Kd.R_alloc | apply Kd.R_drewN | apply Kd.R_drew)); exact HO_449001.out) hb); have n2_ := Aside0.mk (Kd.R_below (by (with_reducible repeat (first | apply Kd.R_alloc | apply Kd.R_drewN | apply Kd.R_drew)); exact HO_455001.out) hb); have n3_ := Aside0.mk (blk_below (g := gb432) (o := .cells #[.int .i64 a0_0, .slice A0_1 l0_1.length c0_1] 32 (0, 0)) (by (with_reducible repeat (first | refine blk_drewN ?_ _ | refine blk_drew ?_ | refine blk_alloc ?_ _)); exact BK432.out) hb); have n4_ := Aside0.mk (blk_below (g := gb443) (o := .cells #[.int .i64 t438, .slice Ao23 t439.length co23] 24 (0, 0)) (by (with_reducible repeat (first | refine blk_drewN ?_ _ | refine blk_drew ?_ | refine blk_alloc ?_ _)); exact BK443.out) hb); have n5_ := Aside0.mk (blk_below (g := gb448) (o := .cells #[.int .i64 t444, .slice Ao30 t462.length co30] 24 (0, 0)) (by (with_reducible repeat (first | refine blk_drewN ?_ _ | refine blk_drew ?_ | refine blk_alloc ?_ _)); exact BK448.out) hb); have n6_ := Aside0.mk (blk_below (g := gb454) (o := .cells #[.int .i64 t449, .slice Ao37 t450.length co37] 24 (0, 0)) (by (with_reducible repeat (first | refine blk_drewN ?_ _ | refine blk_drew ?_ | refine blk_alloc ?_ _)); exact BK454.out) hb); have n7_ := Aside0.mk (below_step (by repeat (first | (with_reducible first | exact HB.out | apply below_alloc | apply pw_below_drewN | apply below_drew1 | refine below_set ?_ GE432.out | refine below_set ?_ GE443.out | refine below_set ?_ GE448.out | refine below_set ?_ GE454.out) | exact HB.out)) hb); clear HO_444001; clear HO_449001; clear HO_455001; clear BK432; clear BK443; clear BK448; clear BK454; clear HB; have HO_444001 := n0_; have HO_449001 := n1_; have HO_455001 := n2_; have BK432 := n3_; have BK443 := n4_; have BK448 := n5_; have BK454 := n6_; have HB := n7_; clear n0_ n1_ n2_ n3_ n4_ n5_ n6_ n7_; (try clear hb); (try clear hb2); (try clear hk); (try clear hi)))
          go_ret
          exact ⟨by first | rfl | (simp [errW_none, errW_some] <;> rfl) | (simp [*, errW_none, errW_some] <;> rfl), by repeat (first | (with_reducible first | exact HB.out | apply below_alloc | apply pw_below_drewN | apply below_drew1 | refine below_set ?_ GE432.out | refine below_set ?_ GE443.out | refine below_set ?_ GE448.out | refine below_set ?_ GE454.out) | exact HB.out)⟩
         ·rw [if_neg c93] at H
          have c93b0 : decide (t466 < 0) = false := decide_eq_false c93
          clear c93
          by_cases c101 : t466 = t464
          ·rw [if_pos c101] at H
           have c101b0 : (t466 == t464) = true := beq_iff_eq.mpr c101
           have c101b1 : (t466 != t464) = false := bne_eq_false_iff_eq.mpr c101
           clear c101
           replace H := Option.bind_eq_some_iff.mp H
           obtain ⟨⟨t467, t468⟩, A1020, H⟩ := H
           replace H : ((impl_FlushPort.f kj60 t467 t468 a1).bind fun bt471 => ((laws_eqTable.f kj60 bt471.1 bt471.2.1 t438 t439).bind fun t477 => (if t477 = true then (laws_FnExactFlushPort.j2 kj60 t464 (bt471.2.2 != t442) t449 t465) else (laws_FnExactFlushPort.j2 kj60 t464 true t449 t465)))) = some r := H
           have A102 := Aside0.mk A1020
           clear A1020
           replace H := Option.bind_eq_some_iff.mp H
           obtain ⟨⟨t471, t472, t475⟩, A1030, H⟩ := H
           replace H : ((laws_eqTable.f kj60 t471 t472 t438 t439).bind fun t477 => (if t477 = true then (laws_FnExactFlushPort.j2 kj60 t464 (t475 != t442) t449 t465) else (laws_FnExactFlushPort.j2 kj60 t464 true t449 t465))) = some r := H
           have A103 := Aside0.mk A1030
           clear A1030
           have HC104 := Aside0.mk H
           clear H
           have hnb105 := NB454_432.out
           have hnc105 := NB432_454.out
           have hnb106 := NB454_443.out
           have hnc106 := NB443_454.out
           have hnb107 := NB454_448.out
           have hnc107 := NB448_454.out
           have hcz108_0 : wc.cell? ⟨gb454, 0, none⟩ = some (.int .i64 t449) := (blk_cell BK454.out 0).trans rfl
           have hcz108_1 : wc.cell? ⟨gb454, 1, none⟩ = some (.slice Ao37 t450.length co37) := (blk_cell BK454.out 1).trans rfl
           have hfz108_0 := blk_frozen BK454.out 0
           have hfz108_1 := blk_frozen BK454.out 1
           go_upto_region 25 with (first | ((with_reducible refine gate_callee (f := 15) rfl ?_); refine goesL_ (some 68) rfl rfl Try.func15 (by kernel_rfl) rfl #[.agg #[.int .i64 t449, .slice Ao37 t450.length co37], .int .i64 1] rfl (by (try simp only [List.map_toArray, List.map_cons, List.map_nil]); first | done | rfl | (simp only [List.length_drop, List.length_take]; rfl)) ?_; (with_reducible refine (laws_markTable.calls kj60 t449 (fun k_ => some k_ = (.slice Ao37 t450.length co37 : Value).ownBlock) (.slice Ao37 t450.length co37) t450 1 t464 t465 w _ ?side1 ?side2 A91.out).mono ?_); (case side1 => repeat (first | (with_reducible first | exact HB.out | apply below_alloc | apply pw_below_drewN | apply below_drew1 | refine below_set ?_ GE432.out | refine below_set ?_ GE443.out | refine below_set ?_ GE448.out | refine below_set ?_ GE454.out) | exact HB.out)); (case side2 => exact Kd.R_tight rfl HO_455001.out); rintro e w109 ⟨rfl, hy0, hb, hkp⟩; refine ⟨_, rfl, ?_⟩; have n0_ := Aside0.mk (Kd.R_mono (ok' := fun k_ => some k_ ≠ (.slice Ao30 t462.length co30 : Value).ownBlock ∧ some k_ ≠ (.slice Ao37 t450.length co37 : Value).ownBlock) (Kd.R_keptB (HO_444001.out) hkp (fun k_ hk_ hs_ => (hk_.2) hs_)) (fun k_ hk_ => ⟨hk_.1.1, hk_.1.2⟩)); have n1_ := Aside0.mk (Kd.R_mono (ok' := fun k_ => some k_ ≠ (.slice Ao23 t439.length co23 : Value).ownBlock ∧ some k_ ≠ (.slice Ao37 t450.length co37 : Value).ownBlock) (Kd.R_keptB (HO_449001.out) hkp (fun k_ hk_ hs_ => (hk_.2) hs_)) (fun k_ hk_ => ⟨hk_.1.1, hk_.1.2⟩)); have n2_ := Aside0.mk (Kd.R_reok rfl hy0 (fun k_ e_ => HO_455001.out.1 k_ e_)); have n3_ := Aside0.mk (blk_kept (by (with_reducible repeat (first | refine blk_drewN ?_ _ | refine blk_drew ?_ | refine blk_alloc ?_ _)); exact BK432.out) hkp (fun hs_ => (fun e_ => (Kd.R_ne HO_455001.out BK432.out (by decide)) e_) hs_)); have n4_ := Aside0.mk (blk_kept (by (with_reducible repeat (first | refine blk_drewN ?_ _ | refine blk_drew ?_ | refine blk_alloc ?_ _)); exact BK443.out) hkp (fun hs_ => (fun e_ => (Kd.R_ne HO_455001.out BK443.out (by decide)) e_) hs_)); have n5_ := Aside0.mk (blk_kept (by (with_reducible repeat (first | refine blk_drewN ?_ _ | refine blk_drew ?_ | refine blk_alloc ?_ _)); exact BK448.out) hkp (fun hs_ => (fun e_ => (Kd.R_ne HO_455001.out BK448.out (by decide)) e_) hs_)); have n6_ := Aside0.mk (blk_kept (by (with_reducible repeat (first | refine blk_drewN ?_ _ | refine blk_drew ?_ | refine blk_alloc ?_ _)); exact BK454.out) hkp (fun hs_ => (fun e_ => (Kd.R_ne HO_455001.out BK454.out (by decide)) e_) hs_)); have n7_ := Aside0.mk (hb); clear HO_444001; clear HO_449001; clear HO_455001; clear BK432; clear BK443; clear BK448; clear BK454; clear HB; have HO_444001 := n0_; have HO_449001 := n1_; have HO_455001 := n2_; have BK432 := n3_; have BK443 := n4_; have BK448 := n5_; have BK454 := n6_; have HB := n7_; clear n0_ n1_ n2_ n3_ n4_ n5_ n6_ n7_; (try clear hb); (try clear hkp); (try clear hy0); have hcz110_0 : w109.cell? ⟨gb454, 0, none⟩ = some (.int .i64 t449) := (blk_cell BK454.out 0).trans rfl; have hcz110_1 : w109.cell? ⟨gb454, 1, none⟩ = some (.slice Ao37 t450.length co37) := (blk_cell BK454.out 1).trans rfl; have hfz110_0 := blk_frozen BK454.out 0; have hfz110_1 := blk_frozen BK454.out 1) | ((with_reducible refine gate_callee (f := 16) rfl ?_); refine goesL_ (some 71) rfl rfl Try.func16 (by kernel_rfl) rfl #[.agg #[.int .i64 t449, .slice Ao37 t465.length co37], .int .i64 1] rfl (by (try simp only [List.map_toArray, List.map_cons, List.map_nil]); first | done | (rw [show t465.length = t450.length from (Kd.R_reads' HO_455001.out).1.symm] <;> rfl) | rfl | (simp only [List.length_drop, List.length_take]; rfl)) ?_; (with_reducible refine (laws_heldTable.calls kj60 t449 _ _ t465 1 t466 _ ?side1 ?side2 A92.out).mono ?_); (case side1 => repeat (first | exact (Kd.R_reads' HO_455001.out).2.2 | (with_reducible refine Kd.C_alloc ?_ _) | (with_reducible refine Kd.C_drewN ?_ _) | (with_reducible refine Kd.C_drew ?_))); (case side2 => rw [show t465.length = t450.length from (Kd.R_reads' HO_455001.out).1.symm]; exact (Kd.R_reads' HO_455001.out).2.1); rintro e w111 ⟨rfl, hb⟩; refine ⟨_, rfl, ?_⟩; have n0_ := Aside0.mk (Kd.R_below (by (with_reducible repeat (first | apply Kd.R_alloc | apply Kd.R_drewN | apply Kd.R_drew)); exact HO_444001.out) hb); have n1_ := Aside0.mk (Kd.R_below (by (with_reducible repeat (first | apply Kd.R_alloc | apply Kd.R_drewN | apply Kd.R_drew)); exact HO_449001.out) hb); have n2_ := Aside0.mk (Kd.R_below (by (with_reducible repeat (first | apply Kd.R_alloc | apply Kd.R_drewN | apply Kd.R_drew)); exact HO_455001.out) hb); have n3_ := Aside0.mk (blk_below (g := gb432) (o := .cells #[.int .i64 a0_0, .slice A0_1 l0_1.length c0_1] 32 (0, 0)) (by (with_reducible repeat (first | refine blk_drewN ?_ _ | refine blk_drew ?_ | refine blk_alloc ?_ _)); exact BK432.out) hb); have n4_ := Aside0.mk (blk_below (g := gb443) (o := .cells #[.int .i64 t438, .slice Ao23 t439.length co23] 24 (0, 0)) (by (with_reducible repeat (first | refine blk_drewN ?_ _ | refine blk_drew ?_ | refine blk_alloc ?_ _)); exact BK443.out) hb); have n5_ := Aside0.mk (blk_below (g := gb448) (o := .cells #[.int .i64 t444, .slice Ao30 t462.length co30] 24 (0, 0)) (by (with_reducible repeat (first | refine blk_drewN ?_ _ | refine blk_drew ?_ | refine blk_alloc ?_ _)); exact BK448.out) hb); have n6_ := Aside0.mk (blk_below (g := gb454) (o := .cells #[.int .i64 t449, .slice Ao37 t450.length co37] 24 (0, 0)) (by (with_reducible repeat (first | refine blk_drewN ?_ _ | refine blk_drew ?_ | refine blk_alloc ?_ _)); exact BK454.out) hb); have n7_ := Aside0.mk (below_step (by repeat (first | (with_reducible first | exact HB.out | apply below_alloc | apply pw_below_drewN | apply below_drew1 | refine below_set ?_ GE432.out | refine below_set ?_ GE443.out | refine below_set ?_ GE448.out | refine below_set ?_ GE454.out) | exact HB.out)) hb); clear HO_444001; clear HO_449001; clear HO_455001; clear BK432; clear BK443; clear BK448; clear BK454; clear HB; have HO_444001 := n0_; have HO_449001 := n1_; have HO_455001 := n2_; have BK432 := n3_; have BK443 := n4_; have BK448 := n5_; have BK454 := n6_; have HB := n7_; clear n0_ n1_ n2_ n3_ n4_ n5_ n6_ n7_; (try clear hb); (try clear hb2); (try clear hk); (try clear hi); have hnb112 := NB432_443.out; have hnc112 := NB443_432.out; have hnb113 := NB432_448.out; have hnc113 := NB448_432.out; have hcz114_0 : w111.cell? ⟨gb432, 0, none⟩ = some (.int .i64 a0_0) := (blk_cell BK432.out 0).trans rfl; have hcz114_1 : w111.cell? ⟨gb432, 1, none⟩ = some (.slice A0_1 l0_1.length c0_1) := (blk_cell BK432.out 1).trans rfl; have hfz114_0 := blk_frozen BK432.out 0; have hfz114_1 := blk_frozen BK432.out 1) | ((with_reducible refine gate_callee (f := 19) rfl ?_); refine goesL_ (some 79) rfl rfl Try.func19 (by kernel_rfl) rfl #[.agg #[.int .i64 a0_0, .slice A0_1 l0_1.length c0_1]] rfl (by (try simp only [List.map_toArray, List.map_cons, List.map_nil]); first | done | rfl | (simp only [List.length_drop, List.length_take]; rfl)) ?_; (with_reducible refine (laws_toTable.calls kj60 a0_0 _ _ l0_1 t467 t468 _ ?side1 ?side2 A102.out).mono ?_); (case side1 => repeat (first | exact (Kd.C_below HR0_1.out HB.out) | (with_reducible refine Kd.C_alloc ?_ _) | (with_reducible refine Kd.C_drewN ?_ _) | (with_reducible refine Kd.C_drew ?_))); (case side2 => exact HC0_1.out); rintro e w115 ⟨v469, rfl, ho0, hb⟩; refine ⟨_, rfl, ?_⟩; have n0_ := Aside0.mk (Kd.R_elder' (by (with_reducible repeat (first | apply Kd.R_alloc | apply Kd.R_drewN | apply Kd.R_drew)); exact HO_444001.out) (Kd.R_base ho0) hb); have n1_ := Aside0.mk (Kd.R_elder' (by (with_reducible repeat (first | apply Kd.R_alloc | apply Kd.R_drewN | apply Kd.R_drew)); exact HO_449001.out) (Kd.R_base ho0) hb); have n2_ := Aside0.mk (Kd.R_elder' (by (with_reducible repeat (first | apply Kd.R_alloc | apply Kd.R_drewN | apply Kd.R_drew)); exact HO_455001.out) (Kd.R_base ho0) hb); have n3_ := Aside0.mk (Kd.R_lower (Kd.R_new' (Kd.R_new' (Kd.R_new' ho0 (Kd.R_lt (by (with_reducible repeat (first | apply Kd.R_alloc | apply Kd.R_drewN | apply Kd.R_drew)); exact HO_444001.out))) (Kd.R_lt (by (with_reducible repeat (first | apply Kd.R_alloc | apply Kd.R_drewN | apply Kd.R_drew)); exact HO_449001.out))) (Kd.R_lt (by (with_reducible repeat (first | apply Kd.R_alloc | apply Kd.R_drewN | apply Kd.R_drew)); exact HO_455001.out))) (below_size (by repeat (first | (with_reducible first | exact HB.out | apply below_alloc | apply pw_below_drewN | apply below_drew1 | refine below_set ?_ GE432.out | refine below_set ?_ GE443.out | refine below_set ?_ GE448.out | refine below_set ?_ GE454.out) | exact HB.out)))); have n4_ := Aside0.mk (blk_below (g := gb432) (o := .cells #[.int .i64 a0_0, .slice A0_1 l0_1.length c0_1] 32 (0, 0)) (by (with_reducible repeat (first | refine blk_drewN ?_ _ | refine blk_drew ?_ | refine blk_alloc ?_ _)); exact BK432.out) hb); have n5_ := Aside0.mk (blk_below (g := gb443) (o := .cells #[.int .i64 t438, .slice Ao23 t439.length co23] 24 (0, 0)) (by (with_reducible repeat (first | refine blk_drewN ?_ _ | refine blk_drew ?_ | refine blk_alloc ?_ _)); exact BK443.out) hb); have n6_ := Aside0.mk (blk_below (g := gb448) (o := .cells #[.int .i64 t444, .slice Ao30 t462.length co30] 24 (0, 0)) (by (with_reducible repeat (first | refine blk_drewN ?_ _ | refine blk_drew ?_ | refine blk_alloc ?_ _)); exact BK448.out) hb); have n7_ := Aside0.mk (blk_below (g := gb454) (o := .cells #[.int .i64 t449, .slice Ao37 t450.length co37] 24 (0, 0)) (by (with_reducible repeat (first | refine blk_drewN ?_ _ | refine blk_drew ?_ | refine blk_alloc ?_ _)); exact BK454.out) hb); have n8_ := Aside0.mk (below_step (by repeat (first | (with_reducible first | exact HB.out | apply below_alloc | apply pw_below_drewN | apply below_drew1 | refine below_set ?_ GE432.out | refine below_set ?_ GE443.out | refine below_set ?_ GE448.out | refine below_set ?_ GE454.out) | exact HB.out)) hb); clear HO_444001; clear HO_449001; clear HO_455001; clear BK432; clear BK443; clear BK448; clear BK454; clear HB; have HO_444001 := n0_; have HO_449001 := n1_; have HO_455001 := n2_; have HO470 := n3_; have BK432 := n4_; have BK443 := n5_; have BK448 := n6_; have BK454 := n7_; have HB := n8_; clear n0_ n1_ n2_ n3_ n4_ n5_ n6_ n7_ n8_; (try clear hb); (try clear hb2); (try clear hk); (try clear hi); (try clear ho0); obtain ⟨Ao116, co116, eo116⟩ := Kd.R_slice HO470.out; subst eo116) | ((with_reducible refine gate_callee (f := 31) rfl ?_); refine goesL_ (some 81) rfl rfl Try.func31 (by kernel_rfl) rfl #[.agg #[.int .i64 t467, .slice Ao116 t468.length co116], .int .i64 a1] rfl (by (try simp only [List.map_toArray, List.map_cons, List.map_nil]); first | done | rfl | (simp only [List.length_drop, List.length_take]; rfl)) ?_; (with_reducible refine (impl_FlushPort.calls kj60 t467 _ _ t468 a1 t471 t472 t475 _ ?side1 ?side2 A103.out).mono ?_); (case side1 => repeat (first | exact (Kd.R_reads' HO470.out).2.2 | (with_reducible refine Kd.C_alloc ?_ _) | (with_reducible refine Kd.C_drewN ?_ _) | (with_reducible refine Kd.C_drew ?_))); (case side2 => exact (Kd.R_reads' HO470.out).2.1); rintro e w117 ⟨v473, rfl, ho0, hb⟩; refine ⟨_, rfl, ?_⟩; have n0_ := Aside0.mk (Kd.R_elder' (by (with_reducible repeat (first | apply Kd.R_alloc | apply Kd.R_drewN | apply Kd.R_drew)); exact HO_444001.out) (Kd.R_base ho0) hb); have n1_ := Aside0.mk (Kd.R_elder' (by (with_reducible repeat (first | apply Kd.R_alloc | apply Kd.R_drewN | apply Kd.R_drew)); exact HO_449001.out) (Kd.R_base ho0) hb); have n2_ := Aside0.mk (Kd.R_elder' (by (with_reducible repeat (first | apply Kd.R_alloc | apply Kd.R_drewN | apply Kd.R_drew)); exact HO_455001.out) (Kd.R_base ho0) hb); have n3_ := Aside0.mk (Kd.R_elder' (by (with_reducible repeat (first | apply Kd.R_alloc | apply Kd.R_drewN | apply Kd.R_drew)); exact HO470.out) (Kd.R_base ho0) hb); have n4_ := Aside0.mk (Kd.R_lower (Kd.R_new' (Kd.R_new' (Kd.R_new' (Kd.R_new' ho0 (Kd.R_lt (by (with_reducible repeat (first | apply Kd.R_alloc | apply Kd.R_drewN | apply Kd.R_drew)); exact HO_444001.out))) (Kd.R_lt (by (with_reducible repeat (first | apply Kd.R_alloc | apply Kd.R_drewN | apply Kd.R_drew)); exact HO_449001.out))) (Kd.R_lt (by (with_reducible repeat (first | apply Kd.R_alloc | apply Kd.R_drewN | apply Kd.R_drew)); exact HO_455001.out))) (Kd.R_lt (by (with_reducible repeat (first | apply Kd.R_alloc | apply Kd.R_drewN | apply Kd.R_drew)); exact HO470.out))) (below_size (by repeat (first | (with_reducible first | exact HB.out | apply below_alloc | apply pw_below_drewN | apply below_drew1 | refine below_set ?_ GE432.out | refine below_set ?_ GE443.out | refine below_set ?_ GE448.out | refine below_set ?_ GE454.out) | exact HB.out)))); have n5_ := Aside0.mk (blk_below (g := gb432) (o := .cells #[.int .i64 a0_0, .slice A0_1 l0_1.length c0_1] 32 (0, 0)) (by (with_reducible repeat (first | refine blk_drewN ?_ _ | refine blk_drew ?_ | refine blk_alloc ?_ _)); exact BK432.out) hb); have n6_ := Aside0.mk (blk_below (g := gb443) (o := .cells #[.int .i64 t438, .slice Ao23 t439.length co23] 24 (0, 0)) (by (with_reducible repeat (first | refine blk_drewN ?_ _ | refine blk_drew ?_ | refine blk_alloc ?_ _)); exact BK443.out) hb); have n7_ := Aside0.mk (blk_below (g := gb448) (o := .cells #[.int .i64 t444, .slice Ao30 t462.length co30] 24 (0, 0)) (by (with_reducible repeat (first | refine blk_drewN ?_ _ | refine blk_drew ?_ | refine blk_alloc ?_ _)); exact BK448.out) hb); have n8_ := Aside0.mk (blk_below (g := gb454) (o := .cells #[.int .i64 t449, .slice Ao37 t450.length co37] 24 (0, 0)) (by (with_reducible repeat (first | refine blk_drewN ?_ _ | refine blk_drew ?_ | refine blk_alloc ?_ _)); exact BK454.out) hb); have n9_ := Aside0.mk (below_step (by repeat (first | (with_reducible first | exact HB.out | apply below_alloc | apply pw_below_drewN | apply below_drew1 | refine below_set ?_ GE432.out | refine below_set ?_ GE443.out | refine below_set ?_ GE448.out | refine below_set ?_ GE454.out) | exact HB.out)) hb); clear HO_444001; clear HO_449001; clear HO_455001; clear HO470; clear BK432; clear BK443; clear BK448; clear BK454; clear HB; have HO_444001 := n0_; have HO_449001 := n1_; have HO_455001 := n2_; have HO470 := n3_; have HO474 := n4_; have BK432 := n5_; have BK443 := n6_; have BK448 := n7_; have BK454 := n8_; have HB := n9_; clear n0_ n1_ n2_ n3_ n4_ n5_ n6_ n7_ n8_ n9_; (try clear hb); (try clear hb2); (try clear hk); (try clear hi); (try clear ho0)) | ((with_reducible refine gate_dst (N := 14) rfl ?_); refine box_event ?hg (N := 14) ?hd (cs := #[.int .i64 0, .slice none 0 0]) (t := 24) ?hr ?_; (case hd => rfl); (case hg => rfl); (case hr => first | (go_simp; done) | (go_simp; rfl)); intro gb476 hg w118 hbox hb; have n0_ := Aside0.mk (Kd.R_below (by (with_reducible repeat (first | apply Kd.R_alloc | apply Kd.R_drewN | apply Kd.R_drew)); exact HO_444001.out) hb); have n1_ := Aside0.mk (Kd.R_below (by (with_reducible repeat (first | apply Kd.R_alloc | apply Kd.R_drewN | apply Kd.R_drew)); exact HO_449001.out) hb); have n2_ := Aside0.mk (Kd.R_below (by (with_reducible repeat (first | apply Kd.R_alloc | apply Kd.R_drewN | apply Kd.R_drew)); exact HO_455001.out) hb); have n3_ := Aside0.mk (Kd.R_below (by (with_reducible repeat (first | apply Kd.R_alloc | apply Kd.R_drewN | apply Kd.R_drew)); exact HO470.out) hb); have n4_ := Aside0.mk (Kd.R_below (by (with_reducible repeat (first | apply Kd.R_alloc | apply Kd.R_drewN | apply Kd.R_drew)); exact HO474.out) hb); have n5_ := Aside0.mk (blk_below (g := gb432) (o := .cells #[.int .i64 a0_0, .slice A0_1 l0_1.length c0_1] 32 (0, 0)) (by (with_reducible repeat (first | refine blk_drewN ?_ _ | refine blk_drew ?_ | refine blk_alloc ?_ _)); exact BK432.out) hb); have n6_ := Aside0.mk (blk_below (g := gb443) (o := .cells #[.int .i64 t438, .slice Ao23 t439.length co23] 24 (0, 0)) (by (with_reducible repeat (first | refine blk_drewN ?_ _ | refine blk_drew ?_ | refine blk_alloc ?_ _)); exact BK443.out) hb); have n7_ := Aside0.mk (blk_below (g := gb448) (o := .cells #[.int .i64 t444, .slice Ao30 t462.length co30] 24 (0, 0)) (by (with_reducible repeat (first | refine blk_drewN ?_ _ | refine blk_drew ?_ | refine blk_alloc ?_ _)); exact BK448.out) hb); have n8_ := Aside0.mk (blk_below (g := gb454) (o := .cells #[.int .i64 t449, .slice Ao37 t450.length co37] 24 (0, 0)) (by (with_reducible repeat (first | refine blk_drewN ?_ _ | refine blk_drew ?_ | refine blk_alloc ?_ _)); exact BK454.out) hb); have n9_ := Aside0.mk (below_step (by repeat (first | (with_reducible first | exact HB.out | apply below_alloc | apply pw_below_drewN | apply below_drew1 | refine below_set ?_ GE432.out | refine below_set ?_ GE443.out | refine below_set ?_ GE448.out | refine below_set ?_ GE454.out) | exact HB.out)) hb); have n10_ := Aside0.mk (hbox); have n11_ := Aside0.mk ((by rw [hg]; exact (below_size (by repeat (first | (with_reducible first | exact HB.out | apply below_alloc | apply pw_below_drewN | apply below_drew1 | refine below_set ?_ GE432.out | refine below_set ?_ GE443.out | refine below_set ?_ GE448.out | refine below_set ?_ GE454.out) | exact HB.out))) : w.heap.size ≤ gb476)); have n12_ := Aside0.mk ((by rw [hg]; exact (below_size (by repeat (first | (with_reducible first | exact HB.out | apply below_alloc | apply pw_below_drewN | apply below_drew1 | refine below_set ?_ GE432.out | refine below_set ?_ GE443.out | refine below_set ?_ GE448.out | refine below_set ?_ GE454.out) | exact HB.out))) : w.heap.size ≤ gb476)); have n13_ := Aside0.mk ((by rw [hg]; exact Nat.ne_of_lt (blk_lt (g := gb432) (o := .cells #[.int .i64 a0_0, .slice A0_1 l0_1.length c0_1] 32 (0, 0)) (by (with_reducible repeat (first | refine blk_drewN ?_ _ | refine blk_drew ?_ | refine blk_alloc ?_ _)); exact BK432.out)) : gb432 ≠ gb476)); have n14_ := Aside0.mk ((by rw [hg]; exact Nat.ne_of_gt (blk_lt (g := gb432) (o := .cells #[.int .i64 a0_0, .slice A0_1 l0_1.length c0_1] 32 (0, 0)) (by (with_reducible repeat (first | refine blk_drewN ?_ _ | refine blk_drew ?_ | refine blk_alloc ?_ _)); exact BK432.out)) : gb476 ≠ gb432)); have n15_ := Aside0.mk ((by rw [hg]; exact Nat.ne_of_lt (blk_lt (g := gb443) (o := .cells #[.int .i64 t438, .slice Ao23 t439.length co23] 24 (0, 0)) (by (with_reducible repeat (first | refine blk_drewN ?_ _ | refine blk_drew ?_ | refine blk_alloc ?_ _)); exact BK443.out)) : gb443 ≠ gb476)); have n16_ := Aside0.mk ((by rw [hg]; exact Nat.ne_of_gt (blk_lt (g := gb443) (o := .cells #[.int .i64 t438, .slice Ao23 t439.length co23] 24 (0, 0)) (by (with_reducible repeat (first | refine blk_drewN ?_ _ | refine blk_drew ?_ | refine blk_alloc ?_ _)); exact BK443.out)) : gb476 ≠ gb443)); have n17_ := Aside0.mk ((by rw [hg]; exact Nat.ne_of_lt (blk_lt (g := gb448) (o := .cells #[.int .i64 t444, .slice Ao30 t462.length co30] 24 (0, 0)) (by (with_reducible repeat (first | refine blk_drewN ?_ _ | refine blk_drew ?_ | refine blk_alloc ?_ _)); exact BK448.out)) : gb448 ≠ gb476)); have n18_ := Aside0.mk ((by rw [hg]; exact Nat.ne_of_gt (blk_lt (g := gb448) (o := .cells #[.int .i64 t444, .slice Ao30 t462.length co30] 24 (0, 0)) (by (with_reducible repeat (first | refine blk_drewN ?_ _ | refine blk_drew ?_ | refine blk_alloc ?_ _)); exact BK448.out)) : gb476 ≠ gb448)); have n19_ := Aside0.mk ((by rw [hg]; exact Nat.ne_of_lt (blk_lt (g := gb454) (o := .cells #[.int .i64 t449, .slice Ao37 t450.length co37] 24 (0, 0)) (by (with_reducible repeat (first | refine blk_drewN ?_ _ | refine blk_drew ?_ | refine blk_alloc ?_ _)); exact BK454.out)) : gb454 ≠ gb476)); have n20_ := Aside0.mk ((by rw [hg]; exact Nat.ne_of_gt (blk_lt (g := gb454) (o := .cells #[.int .i64 t449, .slice Ao37 t450.length co37] 24 (0, 0)) (by (with_reducible repeat (first | refine blk_drewN ?_ _ | refine blk_drew ?_ | refine blk_alloc ?_ _)); exact BK454.out)) : gb476 ≠ gb454)); clear HO_444001; clear HO_449001; clear HO_455001; clear HO470; clear HO474; clear BK432; clear BK443; clear BK448; clear BK454; clear HB; have HO_444001 := n0_; have HO_449001 := n1_; have HO_455001 := n2_; have HO470 := n3_; have HO474 := n4_; have BK432 := n5_; have BK443 := n6_; have BK448 := n7_; have BK454 := n8_; have HB := n9_; have BK476 := n10_; have GW476 := n11_; have GE476 := n12_; have NB432_476 := n13_; have NB476_432 := n14_; have NB443_476 := n15_; have NB476_443 := n16_; have NB448_476 := n17_; have NB476_448 := n18_; have NB454_476 := n19_; have NB476_454 := n20_; clear n0_ n1_ n2_ n3_ n4_ n5_ n6_ n7_ n8_ n9_ n10_ n11_ n12_ n13_ n14_ n15_ n16_ n17_ n18_ n19_ n20_; clear hb hbox hg; have hnb119 := NB476_432.out; have hnc119 := NB432_476.out; have hnb120 := NB476_443.out; have hnc120 := NB443_476.out; have hnb121 := NB476_448.out; have hnc121 := NB448_476.out; have hnb122 := NB476_454.out; have hnc122 := NB454_476.out; have hcz123_0 : w118.cell? ⟨gb476, 0, none⟩ = some (.int .i64 0) := (blk_cell BK476.out 0).trans rfl; have hcz123_1 : w118.cell? ⟨gb476, 1, none⟩ = some (.slice none 0 0) := (blk_cell BK476.out 1).trans rfl; have hfz123_0 := blk_frozen BK476.out 0; have hfz123_1 := blk_frozen BK476.out 1; obtain ⟨Ao124, co124, eo124⟩ := Kd.R_slice HO474.out; subst eo124))
           (try simp only [Act.put, List.setIfInBounds_toArray, List.set_cons_zero, List.set_cons_succ])
           go_cut [92] (fun v92 wc => ∃ (kq : Nat) (x92_103 : Bool), v92 = .bool x92_103 ∧ Aside0 (laws_FnExactFlushPort.j2 kq t464 x92_103 t449 t465 = some r) ∧ Aside0 (kq ≤ kj60) ∧ Aside0 (Kd.R k53 53 wc w.heap.size (fun k_ => some k_ ≠ ((.slice Ao30 t462.length co30) : Value).ownBlock ∧ some k_ ≠ ((.slice Ao37 t450.length co37) : Value).ownBlock ∧ some k_ ≠ ((.slice Ao124 t472.length co124) : Value).ownBlock) (.slice Ao23 t439.length co23) t439) ∧ Aside0 (Kd.R k53 53 wc w.heap.size (fun k_ => some k_ ≠ ((.slice Ao23 t439.length co23) : Value).ownBlock ∧ some k_ ≠ ((.slice Ao37 t450.length co37) : Value).ownBlock ∧ some k_ ≠ ((.slice Ao124 t472.length co124) : Value).ownBlock) (.slice Ao30 t462.length co30) t462) ∧ Aside0 (Kd.R k53 53 wc w.heap.size (fun k_ => some k_ ≠ ((.slice Ao23 t439.length co23) : Value).ownBlock ∧ some k_ ≠ ((.slice Ao30 t462.length co30) : Value).ownBlock ∧ some k_ ≠ ((.slice Ao124 t472.length co124) : Value).ownBlock) (.slice Ao37 t450.length co37) t465) ∧ Aside0 (Kd.R k53 53 wc w.heap.size (fun k_ => some k_ ≠ ((.slice Ao23 t439.length co23) : Value).ownBlock ∧ some k_ ≠ ((.slice Ao30 t462.length co30) : Value).ownBlock ∧ some k_ ≠ ((.slice Ao37 t450.length co37) : Value).ownBlock) (.slice Ao124 t472.length co124) t472) ∧ Aside0 (wc.heap[gb432]? = some (.cells #[.int .i64 a0_0, (.slice A0_1 l0_1.length c0_1)] 32 (0, 0))) ∧ Aside0 (wc.heap[gb443]? = some (.cells #[.int .i64 t438, (.slice Ao23 t439.length co23)] 24 (0, 0))) ∧ Aside0 (wc.heap[gb448]? = some (.cells #[.int .i64 t444, (.slice Ao30 t462.length co30)] 24 (0, 0))) ∧ Aside0 (wc.heap[gb454]? = some (.cells #[.int .i64 t449, (.slice Ao37 t450.length co37)] 24 (0, 0))) ∧ Aside0 (wc.heap[gb476]? = some (.cells #[.int .i64 t471, (.slice Ao124 t472.length co124)] 24 (0, 0))) ∧ Aside0 (Below w.heap.size w wc))
           case first =>
            have H := HC104.out
            clear HC104
            replace H := Option.bind_eq_some_iff.mp H
            obtain ⟨t477, A1250, H⟩ := H
            replace H : (if t477 = true then (laws_FnExactFlushPort.j2 kj60 t464 (t475 != t442) t449 t465) else (laws_FnExactFlushPort.j2 kj60 t464 true t449 t465)) = some r := H
            have A125 := Aside0.mk A1250
            clear A1250
            by_cases c126 : t477 = true
            ·subst c126
             have H1 : (laws_FnExactFlushPort.j2 kj60 t464 (t475 != t442) t449 t465) = some r := by rw [if_pos rfl] at H; exact H
             clear H
             have H := H1
             clear H1
             have H' := Aside0.mk H
             clear H
             have hnb127 := NB476_432.out
             have hnc127 := NB432_476.out
             have hnb128 := NB476_443.out
             have hnc128 := NB443_476.out
             have hnb129 := NB476_448.out
             have hnc129 := NB448_476.out
             have hnb130 := NB476_454.out
             have hnc130 := NB454_476.out
             have hcz131_0 : w118.cell? ⟨gb476, 0, none⟩ = some (.int .i64 0) := (blk_cell BK476.out 0).trans rfl
             have hcz131_1 : w118.cell? ⟨gb476, 1, none⟩ = some (.slice none 0 0) := (blk_cell BK476.out 1).trans rfl
             have hfz131_0 := blk_frozen BK476.out 0
             have hfz131_1 := blk_frozen BK476.out 1
             have hnb132 := NB443_432.out
             have hnc132 := NB432_443.out
             have hnb133 := NB443_448.out
             have hnc133 := NB448_443.out
             have hnb134 := NB443_454.out
             have hnc134 := NB454_443.out
             have hcz135_0 : w118.cell? ⟨gb443, 0, none⟩ = some (.int .i64 t438) := (blk_cell BK443.out 0).trans rfl
             have hcz135_1 : w118.cell? ⟨gb443, 1, none⟩ = some (.slice Ao23 t439.length co23) := (blk_cell BK443.out 1).trans rfl
             have hfz135_0 := blk_frozen BK443.out 0
             have hfz135_1 := blk_frozen BK443.out 1
             go_wp2_with (first | ((with_reducible refine gate_callee (f := 14) rfl ?_); refine goesL_ (some 86) rfl rfl Try.func14 (by kernel_rfl) rfl #[.agg #[.int .i64 t471, .slice Ao124 t472.length co124], .agg #[.int .i64 t438, .slice Ao23 t439.length co23]] rfl (by (try simp only [List.map_toArray, List.map_cons, List.map_nil]); first | done | rfl | (simp only [List.length_drop, List.length_take]; rfl)) ?_; (with_reducible refine (laws_eqTable.calls kj60 t471 _ _ t472 t438 _ _ t439 true _ ?side1 ?side2 ?side3 ?side4 A125.out).mono ?_); (case side1 => refine (Kd.R_reads' (e := 53) (base := w.heap.size) (ok := fun k_ => ((((True ∧ some k_ ≠ (.slice Ao23 t439.length co23 : Value).ownBlock) ∧ some k_ ≠ (.slice Ao30 t462.length co30 : Value).ownBlock) ∧ some k_ ≠ (.slice Ao37 t450.length co37 : Value).ownBlock) ∧ some k_ ≠ (.slice Ao116 t468.length co116 : Value).ownBlock)) (n := t472.length) (c := co124) ?_).2.2; exact (by (with_reducible repeat (first | apply Kd.R_alloc | apply Kd.R_drewN | apply Kd.R_drew)); exact (Kd.R_mono (Kd.R_far (p := ⟨gb476, 1, none⟩) (Kd.R_far (p := ⟨gb476, 0, none⟩) (Kd.R_types HO474.out BK476.out (by decide)) (fun _ hk => hk.2) (.int .i64 t471)) (fun _ hk => hk.2) (.slice Ao124 t472.length co124)) (fun _ h_ => h_.1)))); (case side2 => exact (Kd.R_reads' HO474.out).2.1); (case side3 => refine (Kd.R_reads' (e := 53) (base := w.heap.size) (ok := fun k_ => (((some k_ ≠ (.slice Ao30 t462.length co30 : Value).ownBlock ∧ some k_ ≠ (.slice Ao37 t450.length co37 : Value).ownBlock) ∧ some k_ ≠ (.slice Ao116 t468.length co116 : Value).ownBlock) ∧ some k_ ≠ (.slice Ao124 t472.length co124 : Value).ownBlock)) (n := t439.length) (c := co23) ?_).2.2; exact (by (with_reducible repeat (first | apply Kd.R_alloc | apply Kd.R_drewN | apply Kd.R_drew)); exact (Kd.R_mono (Kd.R_far (p := ⟨gb476, 1, none⟩) (Kd.R_far (p := ⟨gb476, 0, none⟩) (Kd.R_types HO_444001.out BK476.out (by decide)) (fun _ hk => hk.2) (.int .i64 t471)) (fun _ hk => hk.2) (.slice Ao124 t472.length co124)) (fun _ h_ => h_.1)))); (case side4 => exact (Kd.R_reads' HO_444001.out).2.1); rintro e w136 ⟨rfl, hb⟩; refine ⟨_, rfl, ?_⟩; have n0_ := Aside0.mk (Kd.R_below (by (with_reducible repeat (first | apply Kd.R_alloc | apply Kd.R_drewN | apply Kd.R_drew)); exact (Kd.R_mono (Kd.R_far (p := ⟨gb476, 1, none⟩) (Kd.R_far (p := ⟨gb476, 0, none⟩) (Kd.R_types HO_444001.out BK476.out (by decide)) (fun _ hk => hk.2) (.int .i64 t471)) (fun _ hk => hk.2) (.slice Ao124 t472.length co124)) (fun _ h_ => h_.1))) hb); have n1_ := Aside0.mk (Kd.R_below (by (with_reducible repeat (first | apply Kd.R_alloc | apply Kd.R_drewN | apply Kd.R_drew)); exact (Kd.R_mono (Kd.R_far (p := ⟨gb476, 1, none⟩) (Kd.R_far (p := ⟨gb476, 0, none⟩) (Kd.R_types HO_449001.out BK476.out (by decide)) (fun _ hk => hk.2) (.int .i64 t471)) (fun _ hk => hk.2) (.slice Ao124 t472.length co124)) (fun _ h_ => h_.1))) hb); have n2_ := Aside0.mk (Kd.R_below (by (with_reducible repeat (first | apply Kd.R_alloc | apply Kd.R_drewN | apply Kd.R_drew)); exact (Kd.R_mono (Kd.R_far (p := ⟨gb476, 1, none⟩) (Kd.R_far (p := ⟨gb476, 0, none⟩) (Kd.R_types HO_455001.out BK476.out (by decide)) (fun _ hk => hk.2) (.int .i64 t471)) (fun _ hk => hk.2) (.slice Ao124 t472.length co124)) (fun _ h_ => h_.1))) hb); have n3_ := Aside0.mk (Kd.R_below (by (with_reducible repeat (first | apply Kd.R_alloc | apply Kd.R_drewN | apply Kd.R_drew)); exact (Kd.R_mono (Kd.R_far (p := ⟨gb476, 1, none⟩) (Kd.R_far (p := ⟨gb476, 0, none⟩) (Kd.R_types HO470.out BK476.out (by decide)) (fun _ hk => hk.2) (.int .i64 t471)) (fun _ hk => hk.2) (.slice Ao124 t472.length co124)) (fun _ h_ => h_.1))) hb); have n4_ := Aside0.mk (Kd.R_below (by (with_reducible repeat (first | apply Kd.R_alloc | apply Kd.R_drewN | apply Kd.R_drew)); exact (Kd.R_mono (Kd.R_far (p := ⟨gb476, 1, none⟩) (Kd.R_far (p := ⟨gb476, 0, none⟩) (Kd.R_types HO474.out BK476.out (by decide)) (fun _ hk => hk.2) (.int .i64 t471)) (fun _ hk => hk.2) (.slice Ao124 t472.length co124)) (fun _ h_ => h_.1))) hb); have n5_ := Aside0.mk (blk_below (g := gb432) (o := .cells #[.int .i64 a0_0, .slice A0_1 l0_1.length c0_1] 32 (0, 0)) (by (with_reducible repeat (first | refine blk_drewN ?_ _ | refine blk_drew ?_ | refine blk_alloc ?_ _)); refine blk_far ?_ NB432_476.out _; (with_reducible repeat (first | refine blk_drewN ?_ _ | refine blk_drew ?_ | refine blk_alloc ?_ _)); refine blk_far ?_ NB432_476.out _; (with_reducible repeat (first | refine blk_drewN ?_ _ | refine blk_drew ?_ | refine blk_alloc ?_ _)); exact BK432.out) hb); have n6_ := Aside0.mk (blk_below (g := gb443) (o := .cells #[.int .i64 t438, .slice Ao23 t439.length co23] 24 (0, 0)) (by (with_reducible repeat (first | refine blk_drewN ?_ _ | refine blk_drew ?_ | refine blk_alloc ?_ _)); refine blk_far ?_ NB443_476.out _; (with_reducible repeat (first | refine blk_drewN ?_ _ | refine blk_drew ?_ | refine blk_alloc ?_ _)); refine blk_far ?_ NB443_476.out _; (with_reducible repeat (first | refine blk_drewN ?_ _ | refine blk_drew ?_ | refine blk_alloc ?_ _)); exact BK443.out) hb); have n7_ := Aside0.mk (blk_below (g := gb448) (o := .cells #[.int .i64 t444, .slice Ao30 t462.length co30] 24 (0, 0)) (by (with_reducible repeat (first | refine blk_drewN ?_ _ | refine blk_drew ?_ | refine blk_alloc ?_ _)); refine blk_far ?_ NB448_476.out _; (with_reducible repeat (first | refine blk_drewN ?_ _ | refine blk_drew ?_ | refine blk_alloc ?_ _)); refine blk_far ?_ NB448_476.out _; (with_reducible repeat (first | refine blk_drewN ?_ _ | refine blk_drew ?_ | refine blk_alloc ?_ _)); exact BK448.out) hb); have n8_ := Aside0.mk (blk_below (g := gb454) (o := .cells #[.int .i64 t449, .slice Ao37 t450.length co37] 24 (0, 0)) (by (with_reducible repeat (first | refine blk_drewN ?_ _ | refine blk_drew ?_ | refine blk_alloc ?_ _)); refine blk_far ?_ NB454_476.out _; (with_reducible repeat (first | refine blk_drewN ?_ _ | refine blk_drew ?_ | refine blk_alloc ?_ _)); refine blk_far ?_ NB454_476.out _; (with_reducible repeat (first | refine blk_drewN ?_ _ | refine blk_drew ?_ | refine blk_alloc ?_ _)); exact BK454.out) hb); have n9_ := Aside0.mk (blk_below (g := gb476) (o := .cells #[.int .i64 t471, .slice Ao124 t472.length co124] 24 (0, 0)) (by (with_reducible repeat (first | refine blk_drewN ?_ _ | refine blk_drew ?_ | refine blk_alloc ?_ _)); refine blk_put (cs := #[.int .i64 t471, .slice none 0 0]) ?_ 1 _ rfl; (with_reducible repeat (first | refine blk_drewN ?_ _ | refine blk_drew ?_ | refine blk_alloc ?_ _)); refine blk_put (cs := #[.int .i64 0, .slice none 0 0]) ?_ 0 _ rfl; (with_reducible repeat (first | refine blk_drewN ?_ _ | refine blk_drew ?_ | refine blk_alloc ?_ _)); exact BK476.out) hb); have n10_ := Aside0.mk (below_step (by repeat (first | (with_reducible first | exact HB.out | apply below_alloc | apply pw_below_drewN | apply below_drew1 | refine below_set ?_ GE432.out | refine below_set ?_ GE443.out | refine below_set ?_ GE448.out | refine below_set ?_ GE454.out | refine below_set ?_ GE476.out) | exact HB.out)) hb); clear HO_444001; clear HO_449001; clear HO_455001; clear HO470; clear HO474; clear BK432; clear BK443; clear BK448; clear BK454; clear BK476; clear HB; have HO_444001 := n0_; have HO_449001 := n1_; have HO_455001 := n2_; have HO470 := n3_; have HO474 := n4_; have BK432 := n5_; have BK443 := n6_; have BK448 := n7_; have BK454 := n8_; have BK476 := n9_; have HB := n10_; clear n0_ n1_ n2_ n3_ n4_ n5_ n6_ n7_ n8_ n9_ n10_; (try clear hb); (try clear hb2); (try clear hk); (try clear hi)))
             go_meet
             case rel => exact ⟨_, ((t475 != t442)), (by first | rfl | (simp; done) | (simp [*]; done)), H', ⟨by have := HJ11.out; have := HJ60.out; first | omega | exact Nat.le_refl _⟩, ⟨by (try simp only [hl449001_60]); (with_reducible repeat (first | apply Kd.R_alloc | apply Kd.R_drewN | apply Kd.R_drew)); exact Kd.R_mono HO_444001.out (fun _ hk => ⟨hk.1.1.1, ⟨hk.1.1.2, hk.2⟩⟩)⟩, ⟨by (try simp only [hl449001_60]); (with_reducible repeat (first | apply Kd.R_alloc | apply Kd.R_drewN | apply Kd.R_drew)); exact Kd.R_mono HO_449001.out (fun _ hk => ⟨hk.1.1.1, ⟨hk.1.1.2, hk.2⟩⟩)⟩, ⟨by (try simp only [hl449001_60]); (with_reducible repeat (first | apply Kd.R_alloc | apply Kd.R_drewN | apply Kd.R_drew)); exact Kd.R_mono HO_455001.out (fun _ hk => ⟨hk.1.1.1, ⟨hk.1.1.2, hk.2⟩⟩)⟩, ⟨by (try simp only [hl449001_60]); (with_reducible repeat (first | apply Kd.R_alloc | apply Kd.R_drewN | apply Kd.R_drew)); exact Kd.R_mono HO474.out (fun _ hk => ⟨hk.1.1.1.2, ⟨hk.1.1.2, hk.1.2⟩⟩)⟩, ⟨by (try simp only [hl449001_60]); (with_reducible repeat (first | refine blk_drewN ?_ _ | refine blk_drew ?_ | refine blk_alloc ?_ _)); exact BK432.out⟩, ⟨by (try simp only [hl449001_60]); (with_reducible repeat (first | refine blk_drewN ?_ _ | refine blk_drew ?_ | refine blk_alloc ?_ _)); exact BK443.out⟩, ⟨by (try simp only [hl449001_60]); (with_reducible repeat (first | refine blk_drewN ?_ _ | refine blk_drew ?_ | refine blk_alloc ?_ _)); exact BK448.out⟩, ⟨by (try simp only [hl449001_60]); (with_reducible repeat (first | refine blk_drewN ?_ _ | refine blk_drew ?_ | refine blk_alloc ?_ _)); exact BK454.out⟩, ⟨by (try simp only [hl449001_60]); (with_reducible repeat (first | refine blk_drewN ?_ _ | refine blk_drew ?_ | refine blk_alloc ?_ _)); exact BK476.out⟩, ⟨by repeat (first | (with_reducible first | exact HB.out | apply below_alloc | apply pw_below_drewN | apply below_drew1 | refine below_set ?_ GE432.out | refine below_set ?_ GE443.out | refine below_set ?_ GE448.out | refine below_set ?_ GE454.out | refine below_set ?_ GE476.out) | exact HB.out)⟩⟩
            ·replace c126 := Bool.eq_false_iff.mpr c126
             subst c126
             have H1 : (laws_FnExactFlushPort.j2 kj60 t464 true t449 t465) = some r := by rw [if_neg (show ¬ (false = true) by decide)] at H; exact H
             clear H
             have H := H1
             clear H1
             have H' := Aside0.mk H
             clear H
             have hnb137 := NB476_432.out
             have hnc137 := NB432_476.out
             have hnb138 := NB476_443.out
             have hnc138 := NB443_476.out
             have hnb139 := NB476_448.out
             have hnc139 := NB448_476.out
             have hnb140 := NB476_454.out
             have hnc140 := NB454_476.out
             have hcz141_0 : w118.cell? ⟨gb476, 0, none⟩ = some (.int .i64 0) := (blk_cell BK476.out 0).trans rfl
             have hcz141_1 : w118.cell? ⟨gb476, 1, none⟩ = some (.slice none 0 0) := (blk_cell BK476.out 1).trans rfl
             have hfz141_0 := blk_frozen BK476.out 0
             have hfz141_1 := blk_frozen BK476.out 1
             have hnb142 := NB443_432.out
             have hnc142 := NB432_443.out
             have hnb143 := NB443_448.out
             have hnc143 := NB448_443.out
             have hnb144 := NB443_454.out
             have hnc144 := NB454_443.out
             have hcz145_0 : w118.cell? ⟨gb443, 0, none⟩ = some (.int .i64 t438) := (blk_cell BK443.out 0).trans rfl
             have hcz145_1 : w118.cell? ⟨gb443, 1, none⟩ = some (.slice Ao23 t439.length co23) := (blk_cell BK443.out 1).trans rfl
             have hfz145_0 := blk_frozen BK443.out 0
             have hfz145_1 := blk_frozen BK443.out 1
             go_wp2_with (first | ((with_reducible refine gate_callee (f := 14) rfl ?_); refine goesL_ (some 86) rfl rfl Try.func14 (by kernel_rfl) rfl #[.agg #[.int .i64 t471, .slice Ao124 t472.length co124], .agg #[.int .i64 t438, .slice Ao23 t439.length co23]] rfl (by (try simp only [List.map_toArray, List.map_cons, List.map_nil]); first | done | rfl | (simp only [List.length_drop, List.length_take]; rfl)) ?_; (with_reducible refine (laws_eqTable.calls kj60 t471 _ _ t472 t438 _ _ t439 false _ ?side1 ?side2 ?side3 ?side4 A125.out).mono ?_); (case side1 => refine (Kd.R_reads' (e := 53) (base := w.heap.size) (ok := fun k_ => ((((True ∧ some k_ ≠ (.slice Ao23 t439.length co23 : Value).ownBlock) ∧ some k_ ≠ (.slice Ao30 t462.length co30 : Value).ownBlock) ∧ some k_ ≠ (.slice Ao37 t450.length co37 : Value).ownBlock) ∧ some k_ ≠ (.slice Ao116 t468.length co116 : Value).ownBlock)) (n := t472.length) (c := co124) ?_).2.2; exact (by (with_reducible repeat (first | apply Kd.R_alloc | apply Kd.R_drewN | apply Kd.R_drew)); exact (Kd.R_mono (Kd.R_far (p := ⟨gb476, 1, none⟩) (Kd.R_far (p := ⟨gb476, 0, none⟩) (Kd.R_types HO474.out BK476.out (by decide)) (fun _ hk => hk.2) (.int .i64 t471)) (fun _ hk => hk.2) (.slice Ao124 t472.length co124)) (fun _ h_ => h_.1)))); (case side2 => exact (Kd.R_reads' HO474.out).2.1); (case side3 => refine (Kd.R_reads' (e := 53) (base := w.heap.size) (ok := fun k_ => (((some k_ ≠ (.slice Ao30 t462.length co30 : Value).ownBlock ∧ some k_ ≠ (.slice Ao37 t450.length co37 : Value).ownBlock) ∧ some k_ ≠ (.slice Ao116 t468.length co116 : Value).ownBlock) ∧ some k_ ≠ (.slice Ao124 t472.length co124 : Value).ownBlock)) (n := t439.length) (c := co23) ?_).2.2; exact (by (with_reducible repeat (first | apply Kd.R_alloc | apply Kd.R_drewN | apply Kd.R_drew)); exact (Kd.R_mono (Kd.R_far (p := ⟨gb476, 1, none⟩) (Kd.R_far (p := ⟨gb476, 0, none⟩) (Kd.R_types HO_444001.out BK476.out (by decide)) (fun _ hk => hk.2) (.int .i64 t471)) (fun _ hk => hk.2) (.slice Ao124 t472.length co124)) (fun _ h_ => h_.1)))); (case side4 => exact (Kd.R_reads' HO_444001.out).2.1); rintro e w146 ⟨rfl, hb⟩; refine ⟨_, rfl, ?_⟩; have n0_ := Aside0.mk (Kd.R_below (by (with_reducible repeat (first | apply Kd.R_alloc | apply Kd.R_drewN | apply Kd.R_drew)); exact (Kd.R_mono (Kd.R_far (p := ⟨gb476, 1, none⟩) (Kd.R_far (p := ⟨gb476, 0, none⟩) (Kd.R_types HO_444001.out BK476.out (by decide)) (fun _ hk => hk.2) (.int .i64 t471)) (fun _ hk => hk.2) (.slice Ao124 t472.length co124)) (fun _ h_ => h_.1))) hb); have n1_ := Aside0.mk (Kd.R_below (by (with_reducible repeat (first | apply Kd.R_alloc | apply Kd.R_drewN | apply Kd.R_drew)); exact (Kd.R_mono (Kd.R_far (p := ⟨gb476, 1, none⟩) (Kd.R_far (p := ⟨gb476, 0, none⟩) (Kd.R_types HO_449001.out BK476.out (by decide)) (fun _ hk => hk.2) (.int .i64 t471)) (fun _ hk => hk.2) (.slice Ao124 t472.length co124)) (fun _ h_ => h_.1))) hb); have n2_ := Aside0.mk (Kd.R_below (by (with_reducible repeat (first | apply Kd.R_alloc | apply Kd.R_drewN | apply Kd.R_drew)); exact (Kd.R_mono (Kd.R_far (p := ⟨gb476, 1, none⟩) (Kd.R_far (p := ⟨gb476, 0, none⟩) (Kd.R_types HO_455001.out BK476.out (by decide)) (fun _ hk => hk.2) (.int .i64 t471)) (fun _ hk => hk.2) (.slice Ao124 t472.length co124)) (fun _ h_ => h_.1))) hb); have n3_ := Aside0.mk (Kd.R_below (by (with_reducible repeat (first | apply Kd.R_alloc | apply Kd.R_drewN | apply Kd.R_drew)); exact (Kd.R_mono (Kd.R_far (p := ⟨gb476, 1, none⟩) (Kd.R_far (p := ⟨gb476, 0, none⟩) (Kd.R_types HO470.out BK476.out (by decide)) (fun _ hk => hk.2) (.int .i64 t471)) (fun _ hk => hk.2) (.slice Ao124 t472.length co124)) (fun _ h_ => h_.1))) hb); have n4_ := Aside0.mk (Kd.R_below (by (with_reducible repeat (first | apply Kd.R_alloc | apply Kd.R_drewN | apply Kd.R_drew)); exact (Kd.R_mono (Kd.R_far (p := ⟨gb476, 1, none⟩) (Kd.R_far (p := ⟨gb476, 0, none⟩) (Kd.R_types HO474.out BK476.out (by decide)) (fun _ hk => hk.2) (.int .i64 t471)) (fun _ hk => hk.2) (.slice Ao124 t472.length co124)) (fun _ h_ => h_.1))) hb); have n5_ := Aside0.mk (blk_below (g := gb432) (o := .cells #[.int .i64 a0_0, .slice A0_1 l0_1.length c0_1] 32 (0, 0)) (by (with_reducible repeat (first | refine blk_drewN ?_ _ | refine blk_drew ?_ | refine blk_alloc ?_ _)); refine blk_far ?_ NB432_476.out _; (with_reducible repeat (first | refine blk_drewN ?_ _ | refine blk_drew ?_ | refine blk_alloc ?_ _)); refine blk_far ?_ NB432_476.out _; (with_reducible repeat (first | refine blk_drewN ?_ _ | refine blk_drew ?_ | refine blk_alloc ?_ _)); exact BK432.out) hb); have n6_ := Aside0.mk (blk_below (g := gb443) (o := .cells #[.int .i64 t438, .slice Ao23 t439.length co23] 24 (0, 0)) (by (with_reducible repeat (first | refine blk_drewN ?_ _ | refine blk_drew ?_ | refine blk_alloc ?_ _)); refine blk_far ?_ NB443_476.out _; (with_reducible repeat (first | refine blk_drewN ?_ _ | refine blk_drew ?_ | refine blk_alloc ?_ _)); refine blk_far ?_ NB443_476.out _; (with_reducible repeat (first | refine blk_drewN ?_ _ | refine blk_drew ?_ | refine blk_alloc ?_ _)); exact BK443.out) hb); have n7_ := Aside0.mk (blk_below (g := gb448) (o := .cells #[.int .i64 t444, .slice Ao30 t462.length co30] 24 (0, 0)) (by (with_reducible repeat (first | refine blk_drewN ?_ _ | refine blk_drew ?_ | refine blk_alloc ?_ _)); refine blk_far ?_ NB448_476.out _; (with_reducible repeat (first | refine blk_drewN ?_ _ | refine blk_drew ?_ | refine blk_alloc ?_ _)); refine blk_far ?_ NB448_476.out _; (with_reducible repeat (first | refine blk_drewN ?_ _ | refine blk_drew ?_ | refine blk_alloc ?_ _)); exact BK448.out) hb); have n8_ := Aside0.mk (blk_below (g := gb454) (o := .cells #[.int .i64 t449, .slice Ao37 t450.length co37] 24 (0, 0)) (by (with_reducible repeat (first | refine blk_drewN ?_ _ | refine blk_drew ?_ | refine blk_alloc ?_ _)); refine blk_far ?_ NB454_476.out _; (with_reducible repeat (first | refine blk_drewN ?_ _ | refine blk_drew ?_ | refine blk_alloc ?_ _)); refine blk_far ?_ NB454_476.out _; (with_reducible repeat (first | refine blk_drewN ?_ _ | refine blk_drew ?_ | refine blk_alloc ?_ _)); exact BK454.out) hb); have n9_ := Aside0.mk (blk_below (g := gb476) (o := .cells #[.int .i64 t471, .slice Ao124 t472.length co124] 24 (0, 0)) (by (with_reducible repeat (first | refine blk_drewN ?_ _ | refine blk_drew ?_ | refine blk_alloc ?_ _)); refine blk_put (cs := #[.int .i64 t471, .slice none 0 0]) ?_ 1 _ rfl; (with_reducible repeat (first | refine blk_drewN ?_ _ | refine blk_drew ?_ | refine blk_alloc ?_ _)); refine blk_put (cs := #[.int .i64 0, .slice none 0 0]) ?_ 0 _ rfl; (with_reducible repeat (first | refine blk_drewN ?_ _ | refine blk_drew ?_ | refine blk_alloc ?_ _)); exact BK476.out) hb); have n10_ := Aside0.mk (below_step (by repeat (first | (with_reducible first | exact HB.out | apply below_alloc | apply pw_below_drewN | apply below_drew1 | refine below_set ?_ GE432.out | refine below_set ?_ GE443.out | refine below_set ?_ GE448.out | refine below_set ?_ GE454.out | refine below_set ?_ GE476.out) | exact HB.out)) hb); clear HO_444001; clear HO_449001; clear HO_455001; clear HO470; clear HO474; clear BK432; clear BK443; clear BK448; clear BK454; clear BK476; clear HB; have HO_444001 := n0_; have HO_449001 := n1_; have HO_455001 := n2_; have HO470 := n3_; have HO474 := n4_; have BK432 := n5_; have BK443 := n6_; have BK448 := n7_; have BK454 := n8_; have BK476 := n9_; have HB := n10_; clear n0_ n1_ n2_ n3_ n4_ n5_ n6_ n7_ n8_ n9_ n10_; (try clear hb); (try clear hb2); (try clear hk); (try clear hi)))
             go_meet
             case rel => exact ⟨_, (true), (by first | rfl | (simp; done) | (simp [*]; done)), H', ⟨by have := HJ11.out; have := HJ60.out; first | omega | exact Nat.le_refl _⟩, ⟨by (try simp only [hl449001_60]); (with_reducible repeat (first | apply Kd.R_alloc | apply Kd.R_drewN | apply Kd.R_drew)); exact Kd.R_mono HO_444001.out (fun _ hk => ⟨hk.1.1.1, ⟨hk.1.1.2, hk.2⟩⟩)⟩, ⟨by (try simp only [hl449001_60]); (with_reducible repeat (first | apply Kd.R_alloc | apply Kd.R_drewN | apply Kd.R_drew)); exact Kd.R_mono HO_449001.out (fun _ hk => ⟨hk.1.1.1, ⟨hk.1.1.2, hk.2⟩⟩)⟩, ⟨by (try simp only [hl449001_60]); (with_reducible repeat (first | apply Kd.R_alloc | apply Kd.R_drewN | apply Kd.R_drew)); exact Kd.R_mono HO_455001.out (fun _ hk => ⟨hk.1.1.1, ⟨hk.1.1.2, hk.2⟩⟩)⟩, ⟨by (try simp only [hl449001_60]); (with_reducible repeat (first | apply Kd.R_alloc | apply Kd.R_drewN | apply Kd.R_drew)); exact Kd.R_mono HO474.out (fun _ hk => ⟨hk.1.1.1.2, ⟨hk.1.1.2, hk.1.2⟩⟩)⟩, ⟨by (try simp only [hl449001_60]); (with_reducible repeat (first | refine blk_drewN ?_ _ | refine blk_drew ?_ | refine blk_alloc ?_ _)); exact BK432.out⟩, ⟨by (try simp only [hl449001_60]); (with_reducible repeat (first | refine blk_drewN ?_ _ | refine blk_drew ?_ | refine blk_alloc ?_ _)); exact BK443.out⟩, ⟨by (try simp only [hl449001_60]); (with_reducible repeat (first | refine blk_drewN ?_ _ | refine blk_drew ?_ | refine blk_alloc ?_ _)); exact BK448.out⟩, ⟨by (try simp only [hl449001_60]); (with_reducible repeat (first | refine blk_drewN ?_ _ | refine blk_drew ?_ | refine blk_alloc ?_ _)); exact BK454.out⟩, ⟨by (try simp only [hl449001_60]); (with_reducible repeat (first | refine blk_drewN ?_ _ | refine blk_drew ?_ | refine blk_alloc ?_ _)); exact BK476.out⟩, ⟨by repeat (first | (with_reducible first | exact HB.out | apply below_alloc | apply pw_below_drewN | apply below_drew1 | refine below_set ?_ GE432.out | refine below_set ?_ GE443.out | refine below_set ?_ GE448.out | refine below_set ?_ GE454.out | refine below_set ?_ GE476.out) | exact HB.out)⟩⟩
           case rest =>
            clear HC104
            try clear c1
            try clear c2
            try clear p2
            try clear c3
            try clear c4
            try clear c4b0
            try clear c5
            try clear c6
            try clear c7
            try clear c8
            try clear c9
            try clear c10
            try clear c11
            try clear c12
            try clear c13
            try clear c14
            try clear c15
            try clear c16
            try clear c17
            try clear c19
            try clear c21
            try clear c27
            try clear c28
            try clear c30
            try clear c31
            try clear c33
            try clear c34
            try clear c35
            try clear c39
            try clear c40
            try clear c41
            try clear c42
            try clear c44
            try clear c45
            try clear c48
            try clear c49
            try clear c50
            try clear c52
            try clear c53
            try clear c56
            try clear c59
            try clear c66
            try clear c67
            try clear c68
            try clear c71
            try clear c71b0
            try clear c73
            try clear c74
            try clear c75
            try clear c76
            try clear c78
            try clear c79
            try clear c82
            try clear c83
            try clear c84
            try clear c86
            try clear c87
            try clear c90
            try clear c93
            try clear c93b0
            try clear c94
            try clear c95
            try clear c96
            try clear c101
            try clear c101b0
            try clear c101b1
            try clear c105
            try clear c106
            try clear c107
            try clear c112
            try clear c113
            try clear c119
            try clear c120
            try clear c121
            try clear c122
            try clear c126
            try clear c127
            try clear c128
            try clear c129
            try clear c130
            try clear c132
            try clear c133
            try clear c134
            try clear c137
            try clear c138
            try clear c139
            try clear c140
            try clear c142
            try clear c143
            try clear c144
            try clear hcz108_0
            try clear hcz108_1
            try clear hcz110_0
            try clear hcz110_1
            try clear hcz114_0
            try clear hcz114_1
            try clear hcz123_0
            try clear hcz123_1
            try clear hcz131_0
            try clear hcz131_1
            try clear hcz135_0
            try clear hcz135_1
            try clear hcz141_0
            try clear hcz141_1
            try clear hcz145_0
            try clear hcz145_1
            try clear hcz14_0
            try clear hcz14_1
            try clear hcz16_0
            try clear hcz16_1
            try clear hcz22_0
            try clear hcz22_1
            try clear hcz24_0
            try clear hcz24_1
            try clear hcz29_0
            try clear hcz29_1
            try clear hcz36_0
            try clear hcz36_1
            try clear hcz43_0
            try clear hcz43_1
            try clear hcz46_0
            try clear hcz46_1
            try clear hcz51_0
            try clear hcz51_1
            try clear hcz54_0
            try clear hcz54_1
            try clear hcz69_0
            try clear hcz69_1
            try clear hcz6_0
            try clear hcz6_1
            try clear hcz77_0
            try clear hcz77_1
            try clear hcz80_0
            try clear hcz80_1
            try clear hcz85_0
            try clear hcz85_1
            try clear hcz88_0
            try clear hcz88_1
            try clear hcz97_0
            try clear hcz97_1
            try clear hcz99_0
            try clear hcz99_1
            try clear hfz108_0
            try clear hfz108_1
            try clear hfz110_0
            try clear hfz110_1
            try clear hfz114_0
            try clear hfz114_1
            try clear hfz123_0
            try clear hfz123_1
            try clear hfz131_0
            try clear hfz131_1
            try clear hfz135_0
            try clear hfz135_1
            try clear hfz141_0
            try clear hfz141_1
            try clear hfz145_0
            try clear hfz145_1
            try clear hfz14_0
            try clear hfz14_1
            try clear hfz16_0
            try clear hfz16_1
            try clear hfz22_0
            try clear hfz22_1
            try clear hfz24_0
            try clear hfz24_1
            try clear hfz29_0
            try clear hfz29_1
            try clear hfz36_0
            try clear hfz36_1
            try clear hfz43_0
            try clear hfz43_1
            try clear hfz46_0
            try clear hfz46_1
            try clear hfz51_0
            try clear hfz51_1
            try clear hfz54_0
            try clear hfz54_1
            try clear hfz69_0
            try clear hfz69_1
            try clear hfz6_0
            try clear hfz6_1
            try clear hfz77_0
            try clear hfz77_1
            try clear hfz80_0
            try clear hfz80_1
            try clear hfz85_0
            try clear hfz85_1
            try clear hfz88_0
            try clear hfz88_1
            try clear hfz97_0
            try clear hfz97_1
            try clear hfz99_0
            try clear hfz99_1
            try clear p2
            obtain ⟨kq, x92_103, rfl, HA, HJ103, HO_444001, HO_449001, HO_455001, HO_477001, BK432, BK443, BK448, BK454, BK476, HB⟩ := hcut
            have hl455001_103 := (Kd.R_reads' HO_455001.out).1
            rw [hl455001_103] at HO_455001
            (try simp only [hl455001_103])
            (try simp only [hl455001_103] at BK432)
            (try simp only [hl455001_103] at BK443)
            (try simp only [hl455001_103] at BK448)
            (try simp only [hl455001_103] at BK454)
            (try simp only [hl455001_103] at BK476)
            (try simp only [hl455001_103] at HO_444001)
            (try simp only [hl455001_103] at HO_449001)
            (try simp only [hl455001_103] at HO_477001)
            cases kq with
            | zero => exact absurd HA.out (by simp [laws_FnExactFlushPort.j2])
            | succ kj103 =>
             have H := HA.out
             clear HA
             simp only [laws_FnExactFlushPort.j2] at H
             by_cases c147 : x92_103 = true
             ·subst c147
              have H1 : (some false) = some r := by rw [if_pos rfl] at H; exact H
              clear H
              have H := H1
              clear H1
              obtain rfl := Option.some.inj H
              go_wp2
              go_ret
              exact ⟨by first | rfl | (simp [errW_none, errW_some] <;> rfl) | (simp [*, errW_none, errW_some] <;> rfl), by repeat (first | (with_reducible first | exact HB.out | apply below_alloc | apply pw_below_drewN | apply below_drew1 | refine below_set ?_ GE432.out | refine below_set ?_ GE443.out | refine below_set ?_ GE448.out | refine below_set ?_ GE454.out | refine below_set ?_ GE476.out) | exact HB.out)⟩
             ·replace c147 := Bool.eq_false_iff.mpr c147
              subst c147
              have H1 : ((laws_heldTable.f kj103 t449 t465 1).bind fun t478 => (if t478 < 0 then (some false) else (if t478 = t464 then (some true) else (some false)))) = some r := by rw [if_neg (show ¬ (false = true) by decide)] at H; exact H
              clear H
              have H := H1
              clear H1
              replace H := Option.bind_eq_some_iff.mp H
              obtain ⟨t478, A1480, H⟩ := H
              replace H : (if t478 < 0 then (some false) else (if t478 = t464 then (some true) else (some false))) = some r := H
              have A148 := Aside0.mk A1480
              clear A1480
              by_cases c149 : t478 < 0
              ·rw [if_pos c149] at H
               have c149b0 : decide (t478 < 0) = true := decide_eq_true c149
               clear c149
               obtain rfl := Option.some.inj H
               have hnb150 := NB454_432.out
               have hnc150 := NB432_454.out
               have hnb151 := NB454_443.out
               have hnc151 := NB443_454.out
               have hnb152 := NB454_448.out
               have hnc152 := NB448_454.out
               have hnb153 := NB454_476.out
               have hnc153 := NB476_454.out
               have hcz154_0 : wc.cell? ⟨gb454, 0, none⟩ = some (.int .i64 t449) := (blk_cell BK454.out 0).trans rfl
               have hcz154_1 : wc.cell? ⟨gb454, 1, none⟩ = some (.slice Ao37 t465.length co37) := (blk_cell BK454.out 1).trans rfl
               have hfz154_0 := blk_frozen BK454.out 0
               have hfz154_1 := blk_frozen BK454.out 1
               go_wp2_with (first | ((with_reducible refine gate_callee (f := 16) rfl ?_); refine goesL_ (some 95) rfl rfl Try.func16 (by kernel_rfl) rfl #[.agg #[.int .i64 t449, .slice Ao37 t465.length co37], .int .i64 1] rfl (by (try simp only [List.map_toArray, List.map_cons, List.map_nil]); first | done | rfl | (simp only [List.length_drop, List.length_take]; rfl)) ?_; (with_reducible refine (laws_heldTable.calls kj103 t449 _ _ t465 1 t478 _ ?side1 ?side2 A148.out).mono ?_); (case side1 => repeat (first | exact (Kd.R_reads' HO_455001.out).2.2 | (with_reducible refine Kd.C_alloc ?_ _) | (with_reducible refine Kd.C_drewN ?_ _) | (with_reducible refine Kd.C_drew ?_))); (case side2 => exact (Kd.R_reads' HO_455001.out).2.1); rintro e w155 ⟨rfl, hb⟩; refine ⟨_, rfl, ?_⟩; have n0_ := Aside0.mk (Kd.R_below (by (with_reducible repeat (first | apply Kd.R_alloc | apply Kd.R_drewN | apply Kd.R_drew)); exact HO_444001.out) hb); have n1_ := Aside0.mk (Kd.R_below (by (with_reducible repeat (first | apply Kd.R_alloc | apply Kd.R_drewN | apply Kd.R_drew)); exact HO_449001.out) hb); have n2_ := Aside0.mk (Kd.R_below (by (with_reducible repeat (first | apply Kd.R_alloc | apply Kd.R_drewN | apply Kd.R_drew)); exact HO_455001.out) hb); have n3_ := Aside0.mk (Kd.R_below (by (with_reducible repeat (first | apply Kd.R_alloc | apply Kd.R_drewN | apply Kd.R_drew)); exact HO_477001.out) hb); have n4_ := Aside0.mk (blk_below (g := gb432) (o := .cells #[.int .i64 a0_0, .slice A0_1 l0_1.length c0_1] 32 (0, 0)) (by (with_reducible repeat (first | refine blk_drewN ?_ _ | refine blk_drew ?_ | refine blk_alloc ?_ _)); exact BK432.out) hb); have n5_ := Aside0.mk (blk_below (g := gb443) (o := .cells #[.int .i64 t438, .slice Ao23 t439.length co23] 24 (0, 0)) (by (with_reducible repeat (first | refine blk_drewN ?_ _ | refine blk_drew ?_ | refine blk_alloc ?_ _)); exact BK443.out) hb); have n6_ := Aside0.mk (blk_below (g := gb448) (o := .cells #[.int .i64 t444, .slice Ao30 t462.length co30] 24 (0, 0)) (by (with_reducible repeat (first | refine blk_drewN ?_ _ | refine blk_drew ?_ | refine blk_alloc ?_ _)); exact BK448.out) hb); have n7_ := Aside0.mk (blk_below (g := gb454) (o := .cells #[.int .i64 t449, .slice Ao37 t465.length co37] 24 (0, 0)) (by (with_reducible repeat (first | refine blk_drewN ?_ _ | refine blk_drew ?_ | refine blk_alloc ?_ _)); exact BK454.out) hb); have n8_ := Aside0.mk (blk_below (g := gb476) (o := .cells #[.int .i64 t471, .slice Ao124 t472.length co124] 24 (0, 0)) (by (with_reducible repeat (first | refine blk_drewN ?_ _ | refine blk_drew ?_ | refine blk_alloc ?_ _)); exact BK476.out) hb); have n9_ := Aside0.mk (below_step (by repeat (first | (with_reducible first | exact HB.out | apply below_alloc | apply pw_below_drewN | apply below_drew1 | refine below_set ?_ GE432.out | refine below_set ?_ GE443.out | refine below_set ?_ GE448.out | refine below_set ?_ GE454.out | refine below_set ?_ GE476.out) | exact HB.out)) hb); clear HO_444001; clear HO_449001; clear HO_455001; clear HO_477001; clear BK432; clear BK443; clear BK448; clear BK454; clear BK476; clear HB; have HO_444001 := n0_; have HO_449001 := n1_; have HO_455001 := n2_; have HO_477001 := n3_; have BK432 := n4_; have BK443 := n5_; have BK448 := n6_; have BK454 := n7_; have BK476 := n8_; have HB := n9_; clear n0_ n1_ n2_ n3_ n4_ n5_ n6_ n7_ n8_ n9_; (try clear hb); (try clear hb2); (try clear hk); (try clear hi)))
               go_ret
               exact ⟨by first | rfl | (simp [errW_none, errW_some] <;> rfl) | (simp [*, errW_none, errW_some] <;> rfl), by repeat (first | (with_reducible first | exact HB.out | apply below_alloc | apply pw_below_drewN | apply below_drew1 | refine below_set ?_ GE432.out | refine below_set ?_ GE443.out | refine below_set ?_ GE448.out | refine below_set ?_ GE454.out | refine below_set ?_ GE476.out) | exact HB.out)⟩
              ·rw [if_neg c149] at H
               have c149b0 : decide (t478 < 0) = false := decide_eq_false c149
               clear c149
               by_cases c156 : t478 = t464
               ·rw [if_pos c156] at H
                have c156b0 : (t478 == t464) = true := beq_iff_eq.mpr c156
                have c156b1 : (t478 != t464) = false := bne_eq_false_iff_eq.mpr c156
                clear c156
                obtain rfl := Option.some.inj H
                have hnb157 := NB454_432.out
                have hnc157 := NB432_454.out
                have hnb158 := NB454_443.out
                have hnc158 := NB443_454.out
                have hnb159 := NB454_448.out
                have hnc159 := NB448_454.out
                have hnb160 := NB454_476.out
                have hnc160 := NB476_454.out
                have hcz161_0 : wc.cell? ⟨gb454, 0, none⟩ = some (.int .i64 t449) := (blk_cell BK454.out 0).trans rfl
                have hcz161_1 : wc.cell? ⟨gb454, 1, none⟩ = some (.slice Ao37 t465.length co37) := (blk_cell BK454.out 1).trans rfl
                have hfz161_0 := blk_frozen BK454.out 0
                have hfz161_1 := blk_frozen BK454.out 1
                go_wp2_with (first | ((with_reducible refine gate_callee (f := 16) rfl ?_); refine goesL_ (some 95) rfl rfl Try.func16 (by kernel_rfl) rfl #[.agg #[.int .i64 t449, .slice Ao37 t465.length co37], .int .i64 1] rfl (by (try simp only [List.map_toArray, List.map_cons, List.map_nil]); first | done | rfl | (simp only [List.length_drop, List.length_take]; rfl)) ?_; (with_reducible refine (laws_heldTable.calls kj103 t449 _ _ t465 1 t478 _ ?side1 ?side2 A148.out).mono ?_); (case side1 => repeat (first | exact (Kd.R_reads' HO_455001.out).2.2 | (with_reducible refine Kd.C_alloc ?_ _) | (with_reducible refine Kd.C_drewN ?_ _) | (with_reducible refine Kd.C_drew ?_))); (case side2 => exact (Kd.R_reads' HO_455001.out).2.1); rintro e w162 ⟨rfl, hb⟩; refine ⟨_, rfl, ?_⟩; have n0_ := Aside0.mk (Kd.R_below (by (with_reducible repeat (first | apply Kd.R_alloc | apply Kd.R_drewN | apply Kd.R_drew)); exact HO_444001.out) hb); have n1_ := Aside0.mk (Kd.R_below (by (with_reducible repeat (first | apply Kd.R_alloc | apply Kd.R_drewN | apply Kd.R_drew)); exact HO_449001.out) hb); have n2_ := Aside0.mk (Kd.R_below (by (with_reducible repeat (first | apply Kd.R_alloc | apply Kd.R_drewN | apply Kd.R_drew)); exact HO_455001.out) hb); have n3_ := Aside0.mk (Kd.R_below (by (with_reducible repeat (first | apply Kd.R_alloc | apply Kd.R_drewN | apply Kd.R_drew)); exact HO_477001.out) hb); have n4_ := Aside0.mk (blk_below (g := gb432) (o := .cells #[.int .i64 a0_0, .slice A0_1 l0_1.length c0_1] 32 (0, 0)) (by (with_reducible repeat (first | refine blk_drewN ?_ _ | refine blk_drew ?_ | refine blk_alloc ?_ _)); exact BK432.out) hb); have n5_ := Aside0.mk (blk_below (g := gb443) (o := .cells #[.int .i64 t438, .slice Ao23 t439.length co23] 24 (0, 0)) (by (with_reducible repeat (first | refine blk_drewN ?_ _ | refine blk_drew ?_ | refine blk_alloc ?_ _)); exact BK443.out) hb); have n6_ := Aside0.mk (blk_below (g := gb448) (o := .cells #[.int .i64 t444, .slice Ao30 t462.length co30] 24 (0, 0)) (by (with_reducible repeat (first | refine blk_drewN ?_ _ | refine blk_drew ?_ | refine blk_alloc ?_ _)); exact BK448.out) hb); have n7_ := Aside0.mk (blk_below (g := gb454) (o := .cells #[.int .i64 t449, .slice Ao37 t465.length co37] 24 (0, 0)) (by (with_reducible repeat (first | refine blk_drewN ?_ _ | refine blk_drew ?_ | refine blk_alloc ?_ _)); exact BK454.out) hb); have n8_ := Aside0.mk (blk_below (g := gb476) (o := .cells #[.int .i64 t471, .slice Ao124 t472.length co124] 24 (0, 0)) (by (with_reducible repeat (first | refine blk_drewN ?_ _ | refine blk_drew ?_ | refine blk_alloc ?_ _)); exact BK476.out) hb); have n9_ := Aside0.mk (below_step (by repeat (first | (with_reducible first | exact HB.out | apply below_alloc | apply pw_below_drewN | apply below_drew1 | refine below_set ?_ GE432.out | refine below_set ?_ GE443.out | refine below_set ?_ GE448.out | refine below_set ?_ GE454.out | refine below_set ?_ GE476.out) | exact HB.out)) hb); clear HO_444001; clear HO_449001; clear HO_455001; clear HO_477001; clear BK432; clear BK443; clear BK448; clear BK454; clear BK476; clear HB; have HO_444001 := n0_; have HO_449001 := n1_; have HO_455001 := n2_; have HO_477001 := n3_; have BK432 := n4_; have BK443 := n5_; have BK448 := n6_; have BK454 := n7_; have BK476 := n8_; have HB := n9_; clear n0_ n1_ n2_ n3_ n4_ n5_ n6_ n7_ n8_ n9_; (try clear hb); (try clear hb2); (try clear hk); (try clear hi)))
                go_ret
                exact ⟨by first | rfl | (simp [errW_none, errW_some] <;> rfl) | (simp [*, errW_none, errW_some] <;> rfl), by repeat (first | (with_reducible first | exact HB.out | apply below_alloc | apply pw_below_drewN | apply below_drew1 | refine below_set ?_ GE432.out | refine below_set ?_ GE443.out | refine below_set ?_ GE448.out | refine below_set ?_ GE454.out | refine below_set ?_ GE476.out) | exact HB.out)⟩
               ·rw [if_neg c156] at H
                have c156b0 : (t478 == t464) = false := beq_eq_false_iff_ne.mpr c156
                have c156b1 : (t478 != t464) = true := bne_iff_ne.mpr c156
                obtain rfl := Option.some.inj H
                have hnb163 := NB454_432.out
                have hnc163 := NB432_454.out
                have hnb164 := NB454_443.out
                have hnc164 := NB443_454.out
                have hnb165 := NB454_448.out
                have hnc165 := NB448_454.out
                have hnb166 := NB454_476.out
                have hnc166 := NB476_454.out
                have hcz167_0 : wc.cell? ⟨gb454, 0, none⟩ = some (.int .i64 t449) := (blk_cell BK454.out 0).trans rfl
                have hcz167_1 : wc.cell? ⟨gb454, 1, none⟩ = some (.slice Ao37 t465.length co37) := (blk_cell BK454.out 1).trans rfl
                have hfz167_0 := blk_frozen BK454.out 0
                have hfz167_1 := blk_frozen BK454.out 1
                go_wp2_with (first | ((with_reducible refine gate_callee (f := 16) rfl ?_); refine goesL_ (some 95) rfl rfl Try.func16 (by kernel_rfl) rfl #[.agg #[.int .i64 t449, .slice Ao37 t465.length co37], .int .i64 1] rfl (by (try simp only [List.map_toArray, List.map_cons, List.map_nil]); first | done | rfl | (simp only [List.length_drop, List.length_take]; rfl)) ?_; (with_reducible refine (laws_heldTable.calls kj103 t449 _ _ t465 1 t478 _ ?side1 ?side2 A148.out).mono ?_); (case side1 => repeat (first | exact (Kd.R_reads' HO_455001.out).2.2 | (with_reducible refine Kd.C_alloc ?_ _) | (with_reducible refine Kd.C_drewN ?_ _) | (with_reducible refine Kd.C_drew ?_))); (case side2 => exact (Kd.R_reads' HO_455001.out).2.1); rintro e w168 ⟨rfl, hb⟩; refine ⟨_, rfl, ?_⟩; have n0_ := Aside0.mk (Kd.R_below (by (with_reducible repeat (first | apply Kd.R_alloc | apply Kd.R_drewN | apply Kd.R_drew)); exact HO_444001.out) hb); have n1_ := Aside0.mk (Kd.R_below (by (with_reducible repeat (first | apply Kd.R_alloc | apply Kd.R_drewN | apply Kd.R_drew)); exact HO_449001.out) hb); have n2_ := Aside0.mk (Kd.R_below (by (with_reducible repeat (first | apply Kd.R_alloc | apply Kd.R_drewN | apply Kd.R_drew)); exact HO_455001.out) hb); have n3_ := Aside0.mk (Kd.R_below (by (with_reducible repeat (first | apply Kd.R_alloc | apply Kd.R_drewN | apply Kd.R_drew)); exact HO_477001.out) hb); have n4_ := Aside0.mk (blk_below (g := gb432) (o := .cells #[.int .i64 a0_0, .slice A0_1 l0_1.length c0_1] 32 (0, 0)) (by (with_reducible repeat (first | refine blk_drewN ?_ _ | refine blk_drew ?_ | refine blk_alloc ?_ _)); exact BK432.out) hb); have n5_ := Aside0.mk (blk_below (g := gb443) (o := .cells #[.int .i64 t438, .slice Ao23 t439.length co23] 24 (0, 0)) (by (with_reducible repeat (first | refine blk_drewN ?_ _ | refine blk_drew ?_ | refine blk_alloc ?_ _)); exact BK443.out) hb); have n6_ := Aside0.mk (blk_below (g := gb448) (o := .cells #[.int .i64 t444, .slice Ao30 t462.length co30] 24 (0, 0)) (by (with_reducible repeat (first | refine blk_drewN ?_ _ | refine blk_drew ?_ | refine blk_alloc ?_ _)); exact BK448.out) hb); have n7_ := Aside0.mk (blk_below (g := gb454) (o := .cells #[.int .i64 t449, .slice Ao37 t465.length co37] 24 (0, 0)) (by (with_reducible repeat (first | refine blk_drewN ?_ _ | refine blk_drew ?_ | refine blk_alloc ?_ _)); exact BK454.out) hb); have n8_ := Aside0.mk (blk_below (g := gb476) (o := .cells #[.int .i64 t471, .slice Ao124 t472.length co124] 24 (0, 0)) (by (with_reducible repeat (first | refine blk_drewN ?_ _ | refine blk_drew ?_ | refine blk_alloc ?_ _)); exact BK476.out) hb); have n9_ := Aside0.mk (below_step (by repeat (first | (with_reducible first | exact HB.out | apply below_alloc | apply pw_below_drewN | apply below_drew1 | refine below_set ?_ GE432.out | refine below_set ?_ GE443.out | refine below_set ?_ GE448.out | refine below_set ?_ GE454.out | refine below_set ?_ GE476.out) | exact HB.out)) hb); clear HO_444001; clear HO_449001; clear HO_455001; clear HO_477001; clear BK432; clear BK443; clear BK448; clear BK454; clear BK476; clear HB; have HO_444001 := n0_; have HO_449001 := n1_; have HO_455001 := n2_; have HO_477001 := n3_; have BK432 := n4_; have BK443 := n5_; have BK448 := n6_; have BK454 := n7_; have BK476 := n8_; have HB := n9_; clear n0_ n1_ n2_ n3_ n4_ n5_ n6_ n7_ n8_ n9_; (try clear hb); (try clear hb2); (try clear hk); (try clear hi)))
                go_ret
                exact ⟨by first | rfl | (simp [errW_none, errW_some] <;> rfl) | (simp [*, errW_none, errW_some] <;> rfl), by repeat (first | (with_reducible first | exact HB.out | apply below_alloc | apply pw_below_drewN | apply below_drew1 | refine below_set ?_ GE432.out | refine below_set ?_ GE443.out | refine below_set ?_ GE448.out | refine below_set ?_ GE454.out | refine below_set ?_ GE476.out) | exact HB.out)⟩
          ·rw [if_neg c101] at H
           have c101b0 : (t466 == t464) = false := beq_eq_false_iff_ne.mpr c101
           have c101b1 : (t466 != t464) = true := bne_iff_ne.mpr c101
           obtain rfl := Option.some.inj H
           have hnb169 := NB454_432.out
           have hnc169 := NB432_454.out
           have hnb170 := NB454_443.out
           have hnc170 := NB443_454.out
           have hnb171 := NB454_448.out
           have hnc171 := NB448_454.out
           have hcz172_0 : wc.cell? ⟨gb454, 0, none⟩ = some (.int .i64 t449) := (blk_cell BK454.out 0).trans rfl
           have hcz172_1 : wc.cell? ⟨gb454, 1, none⟩ = some (.slice Ao37 t450.length co37) := (blk_cell BK454.out 1).trans rfl
           have hfz172_0 := blk_frozen BK454.out 0
           have hfz172_1 := blk_frozen BK454.out 1
           go_wp2_with (first | ((with_reducible refine gate_callee (f := 15) rfl ?_); refine goesL_ (some 68) rfl rfl Try.func15 (by kernel_rfl) rfl #[.agg #[.int .i64 t449, .slice Ao37 t450.length co37], .int .i64 1] rfl (by (try simp only [List.map_toArray, List.map_cons, List.map_nil]); first | done | rfl | (simp only [List.length_drop, List.length_take]; rfl)) ?_; (with_reducible refine (laws_markTable.calls kj60 t449 (fun k_ => some k_ = (.slice Ao37 t450.length co37 : Value).ownBlock) (.slice Ao37 t450.length co37) t450 1 t464 t465 w _ ?side1 ?side2 A91.out).mono ?_); (case side1 => repeat (first | (with_reducible first | exact HB.out | apply below_alloc | apply pw_below_drewN | apply below_drew1 | refine below_set ?_ GE432.out | refine below_set ?_ GE443.out | refine below_set ?_ GE448.out | refine below_set ?_ GE454.out) | exact HB.out)); (case side2 => exact Kd.R_tight rfl HO_455001.out); rintro e w173 ⟨rfl, hy0, hb, hkp⟩; refine ⟨_, rfl, ?_⟩; have n0_ := Aside0.mk (Kd.R_mono (ok' := fun k_ => some k_ ≠ (.slice Ao30 t462.length co30 : Value).ownBlock ∧ some k_ ≠ (.slice Ao37 t450.length co37 : Value).ownBlock) (Kd.R_keptB (HO_444001.out) hkp (fun k_ hk_ hs_ => (hk_.2) hs_)) (fun k_ hk_ => ⟨hk_.1.1, hk_.1.2⟩)); have n1_ := Aside0.mk (Kd.R_mono (ok' := fun k_ => some k_ ≠ (.slice Ao23 t439.length co23 : Value).ownBlock ∧ some k_ ≠ (.slice Ao37 t450.length co37 : Value).ownBlock) (Kd.R_keptB (HO_449001.out) hkp (fun k_ hk_ hs_ => (hk_.2) hs_)) (fun k_ hk_ => ⟨hk_.1.1, hk_.1.2⟩)); have n2_ := Aside0.mk (Kd.R_reok rfl hy0 (fun k_ e_ => HO_455001.out.1 k_ e_)); have n3_ := Aside0.mk (blk_kept (by (with_reducible repeat (first | refine blk_drewN ?_ _ | refine blk_drew ?_ | refine blk_alloc ?_ _)); exact BK432.out) hkp (fun hs_ => (fun e_ => (Kd.R_ne HO_455001.out BK432.out (by decide)) e_) hs_)); have n4_ := Aside0.mk (blk_kept (by (with_reducible repeat (first | refine blk_drewN ?_ _ | refine blk_drew ?_ | refine blk_alloc ?_ _)); exact BK443.out) hkp (fun hs_ => (fun e_ => (Kd.R_ne HO_455001.out BK443.out (by decide)) e_) hs_)); have n5_ := Aside0.mk (blk_kept (by (with_reducible repeat (first | refine blk_drewN ?_ _ | refine blk_drew ?_ | refine blk_alloc ?_ _)); exact BK448.out) hkp (fun hs_ => (fun e_ => (Kd.R_ne HO_455001.out BK448.out (by decide)) e_) hs_)); have n6_ := Aside0.mk (blk_kept (by (with_reducible repeat (first | refine blk_drewN ?_ _ | refine blk_drew ?_ | refine blk_alloc ?_ _)); exact BK454.out) hkp (fun hs_ => (fun e_ => (Kd.R_ne HO_455001.out BK454.out (by decide)) e_) hs_)); have n7_ := Aside0.mk (hb); clear HO_444001; clear HO_449001; clear HO_455001; clear BK432; clear BK443; clear BK448; clear BK454; clear HB; have HO_444001 := n0_; have HO_449001 := n1_; have HO_455001 := n2_; have BK432 := n3_; have BK443 := n4_; have BK448 := n5_; have BK454 := n6_; have HB := n7_; clear n0_ n1_ n2_ n3_ n4_ n5_ n6_ n7_; (try clear hb); (try clear hkp); (try clear hy0); have hcz174_0 : w173.cell? ⟨gb454, 0, none⟩ = some (.int .i64 t449) := (blk_cell BK454.out 0).trans rfl; have hcz174_1 : w173.cell? ⟨gb454, 1, none⟩ = some (.slice Ao37 t450.length co37) := (blk_cell BK454.out 1).trans rfl; have hfz174_0 := blk_frozen BK454.out 0; have hfz174_1 := blk_frozen BK454.out 1) | ((with_reducible refine gate_callee (f := 16) rfl ?_); refine goesL_ (some 71) rfl rfl Try.func16 (by kernel_rfl) rfl #[.agg #[.int .i64 t449, .slice Ao37 t465.length co37], .int .i64 1] rfl (by (try simp only [List.map_toArray, List.map_cons, List.map_nil]); first | done | (rw [show t465.length = t450.length from (Kd.R_reads' HO_455001.out).1.symm] <;> rfl) | rfl | (simp only [List.length_drop, List.length_take]; rfl)) ?_; (with_reducible refine (laws_heldTable.calls kj60 t449 _ _ t465 1 t466 _ ?side1 ?side2 A92.out).mono ?_); (case side1 => repeat (first | exact (Kd.R_reads' HO_455001.out).2.2 | (with_reducible refine Kd.C_alloc ?_ _) | (with_reducible refine Kd.C_drewN ?_ _) | (with_reducible refine Kd.C_drew ?_))); (case side2 => rw [show t465.length = t450.length from (Kd.R_reads' HO_455001.out).1.symm]; exact (Kd.R_reads' HO_455001.out).2.1); rintro e w175 ⟨rfl, hb⟩; refine ⟨_, rfl, ?_⟩; have n0_ := Aside0.mk (Kd.R_below (by (with_reducible repeat (first | apply Kd.R_alloc | apply Kd.R_drewN | apply Kd.R_drew)); exact HO_444001.out) hb); have n1_ := Aside0.mk (Kd.R_below (by (with_reducible repeat (first | apply Kd.R_alloc | apply Kd.R_drewN | apply Kd.R_drew)); exact HO_449001.out) hb); have n2_ := Aside0.mk (Kd.R_below (by (with_reducible repeat (first | apply Kd.R_alloc | apply Kd.R_drewN | apply Kd.R_drew)); exact HO_455001.out) hb); have n3_ := Aside0.mk (blk_below (g := gb432) (o := .cells #[.int .i64 a0_0, .slice A0_1 l0_1.length c0_1] 32 (0, 0)) (by (with_reducible repeat (first | refine blk_drewN ?_ _ | refine blk_drew ?_ | refine blk_alloc ?_ _)); exact BK432.out) hb); have n4_ := Aside0.mk (blk_below (g := gb443) (o := .cells #[.int .i64 t438, .slice Ao23 t439.length co23] 24 (0, 0)) (by (with_reducible repeat (first | refine blk_drewN ?_ _ | refine blk_drew ?_ | refine blk_alloc ?_ _)); exact BK443.out) hb); have n5_ := Aside0.mk (blk_below (g := gb448) (o := .cells #[.int .i64 t444, .slice Ao30 t462.length co30] 24 (0, 0)) (by (with_reducible repeat (first | refine blk_drewN ?_ _ | refine blk_drew ?_ | refine blk_alloc ?_ _)); exact BK448.out) hb); have n6_ := Aside0.mk (blk_below (g := gb454) (o := .cells #[.int .i64 t449, .slice Ao37 t450.length co37] 24 (0, 0)) (by (with_reducible repeat (first | refine blk_drewN ?_ _ | refine blk_drew ?_ | refine blk_alloc ?_ _)); exact BK454.out) hb); have n7_ := Aside0.mk (below_step (by repeat (first | (with_reducible first | exact HB.out | apply below_alloc | apply pw_below_drewN | apply below_drew1 | refine below_set ?_ GE432.out | refine below_set ?_ GE443.out | refine below_set ?_ GE448.out | refine below_set ?_ GE454.out) | exact HB.out)) hb); clear HO_444001; clear HO_449001; clear HO_455001; clear BK432; clear BK443; clear BK448; clear BK454; clear HB; have HO_444001 := n0_; have HO_449001 := n1_; have HO_455001 := n2_; have BK432 := n3_; have BK443 := n4_; have BK448 := n5_; have BK454 := n6_; have HB := n7_; clear n0_ n1_ n2_ n3_ n4_ n5_ n6_ n7_; (try clear hb); (try clear hb2); (try clear hk); (try clear hi)))
           go_ret
           exact ⟨by first | rfl | (simp [errW_none, errW_some] <;> rfl) | (simp [*, errW_none, errW_some] <;> rfl), by repeat (first | (with_reducible first | exact HB.out | apply below_alloc | apply pw_below_drewN | apply below_drew1 | refine below_set ?_ GE432.out | refine below_set ?_ GE443.out | refine below_set ?_ GE448.out | refine below_set ?_ GE454.out) | exact HB.out)⟩
     ·replace c59 := Bool.eq_false_iff.mpr c59
      subst c59
      have H1 : (some false) = some r := by rw [if_neg (show ¬ (false = true) by decide)] at H; exact H
      clear H
      have H := H1
      clear H1
      obtain rfl := Option.some.inj H
      try go_wp2
      have n0_ := Aside0.mk (Kd.R_drew HO_444001.out)
      have n1_ := Aside0.mk (Kd.R_drew HO_449001.out)
      have n2_ := Aside0.mk (Kd.R_drew HO_455001.out)
      have n3_ := Aside0.mk (blk_drew BK432.out)
      have n4_ := Aside0.mk (blk_drew BK443.out)
      have n5_ := Aside0.mk (blk_drew BK448.out)
      have n6_ := Aside0.mk (blk_drew BK454.out)
      have n7_ := Aside0.mk (below_drew1 HB.out)
      clear HO_444001
      clear HO_449001
      clear HO_455001
      clear BK432
      clear BK443
      clear BK448
      clear BK454
      clear HB
      have HO_444001 := n0_
      have HO_449001 := n1_
      have HO_455001 := n2_
      have BK432 := n3_
      have BK443 := n4_
      have BK448 := n5_
      have BK454 := n6_
      have HB := n7_
      clear n0_ n1_ n2_ n3_ n4_ n5_ n6_ n7_
      refine start_ (n := 5) (S := fun w' => w'.cell? ⟨gb448, 0, none⟩ = some (.int .i64 t444) ∧ w'.cell? ⟨gb448, 1, none⟩ = some (.slice Ao30 t445.length co30) ∧ w'.cell? ⟨gb432, 0, none⟩ = some (.int .i64 a0_0) ∧ w'.cell? ⟨gb432, 1, none⟩ = some (.slice A0_1 l0_1.length c0_1)) (ds := []) #[false, false, false, false, false] (by kernel_rfl) rfl rfl ⟨(blk_cell BK448.out 0).trans rfl, (blk_cell BK448.out 1).trans rfl, (blk_cell BK432.out 0).trans rfl, (blk_cell BK432.out 1).trans rfl⟩ (fun hHeld => ?_)
      generalize wc.drew = w176 at HO_444001 HO_449001 HO_455001 BK432 BK443 BK448 BK454 HB hHeld ⊢
      refine take_ (i := 0) (N := some 45) (v := ?_) (a' := ?_) #[true, false, false, false, false] rfl rfl (by kernel_rfl) (fun _ _ _ h => h) (Or.inl ⟨by rfl, ?_⟩) hHeld ?_ ?_
      rotate_left
      ·rintro w' ⟨s0, s1, s2, s3⟩
       go_simp
       with_reducible rfl
      rotate_left
      ·simp only [Act.put, List.setIfInBounds_toArray, List.set_cons_zero, List.set_cons_succ, i64_w, i32_w]
       rfl
      refine take_ (i := 1) (N := some 46) (v := ?_) (a' := ?_) #[true, true, false, false, false] rfl rfl (by kernel_rfl) (fun _ _ _ h => h) (Or.inl ⟨by rfl, ?_⟩) hHeld ?_ ?_
      rotate_left
      ·rintro w' ⟨s0, s1, s2, s3⟩
       go_simp
       with_reducible rfl
      rotate_left
      ·simp only [Act.put, List.setIfInBounds_toArray, List.set_cons_zero, List.set_cons_succ, i64_w, i32_w]
       rfl
      refine one_ (i := 2) (N := some 47) #[true, true, true, false, false] rfl rfl (by kernel_rfl) (by decide) (fun K hK => ?_)
      refine goes_ Try.func19 (by kernel_rfl) rfl #[.agg #[.int .i64 a0_0, .slice A0_1 l0_1.length c0_1]] (by rfl) rfl rfl (by (try simp only [List.map_toArray, List.map_cons, List.map_nil]); first | done | rfl | (simp only [List.length_drop, List.length_take]; rfl)) ?_
      with_reducible refine (laws_toTable.calls kj11 a0_0 _ _ l0_1 t456 t457 _ ?side1 ?side2 A57.out).mono ?_
      (case side1 => repeat (first | exact (Kd.C_below HR0_1.out HB.out) | (with_reducible refine Kd.C_alloc ?_ _) | (with_reducible refine Kd.C_drewN ?_ _) | (with_reducible refine Kd.C_drew ?_)))
      (case side2 => exact HC0_1.out)
      rintro e w177 ⟨v458, rfl, ho0, hb⟩
      refine ⟨_, rfl, ?_⟩
      have n0_ := Aside0.mk (Kd.R_elder' (by (with_reducible repeat (first | apply Kd.R_alloc | apply Kd.R_drewN | apply Kd.R_drew)); exact HO_444001.out) (Kd.R_base ho0) hb)
      have n1_ := Aside0.mk (Kd.R_elder' (by (with_reducible repeat (first | apply Kd.R_alloc | apply Kd.R_drewN | apply Kd.R_drew)); exact HO_449001.out) (Kd.R_base ho0) hb)
      have n2_ := Aside0.mk (Kd.R_elder' (by (with_reducible repeat (first | apply Kd.R_alloc | apply Kd.R_drewN | apply Kd.R_drew)); exact HO_455001.out) (Kd.R_base ho0) hb)
      have n3_ := Aside0.mk (Kd.R_lower (Kd.R_new' (Kd.R_new' (Kd.R_new' ho0 (Kd.R_lt (by (with_reducible repeat (first | apply Kd.R_alloc | apply Kd.R_drewN | apply Kd.R_drew)); exact HO_444001.out))) (Kd.R_lt (by (with_reducible repeat (first | apply Kd.R_alloc | apply Kd.R_drewN | apply Kd.R_drew)); exact HO_449001.out))) (Kd.R_lt (by (with_reducible repeat (first | apply Kd.R_alloc | apply Kd.R_drewN | apply Kd.R_drew)); exact HO_455001.out))) (below_size (by repeat (first | (with_reducible first | exact HB.out | apply below_alloc | apply pw_below_drewN | apply below_drew1 | refine below_set ?_ GE432.out | refine below_set ?_ GE443.out | refine below_set ?_ GE448.out | refine below_set ?_ GE454.out) | exact HB.out))))
      have n4_ := Aside0.mk (blk_below (g := gb432) (o := .cells #[.int .i64 a0_0, .slice A0_1 l0_1.length c0_1] 32 (0, 0)) (by (with_reducible repeat (first | refine blk_drewN ?_ _ | refine blk_drew ?_ | refine blk_alloc ?_ _)); exact BK432.out) hb)
      have n5_ := Aside0.mk (blk_below (g := gb443) (o := .cells #[.int .i64 t438, .slice Ao23 t439.length co23] 24 (0, 0)) (by (with_reducible repeat (first | refine blk_drewN ?_ _ | refine blk_drew ?_ | refine blk_alloc ?_ _)); exact BK443.out) hb)
      have n6_ := Aside0.mk (blk_below (g := gb448) (o := .cells #[.int .i64 t444, .slice Ao30 t445.length co30] 24 (0, 0)) (by (with_reducible repeat (first | refine blk_drewN ?_ _ | refine blk_drew ?_ | refine blk_alloc ?_ _)); exact BK448.out) hb)
      have n7_ := Aside0.mk (blk_below (g := gb454) (o := .cells #[.int .i64 t449, .slice Ao37 t450.length co37] 24 (0, 0)) (by (with_reducible repeat (first | refine blk_drewN ?_ _ | refine blk_drew ?_ | refine blk_alloc ?_ _)); exact BK454.out) hb)
      have n8_ := Aside0.mk (below_step (by repeat (first | (with_reducible first | exact HB.out | apply below_alloc | apply pw_below_drewN | apply below_drew1 | refine below_set ?_ GE432.out | refine below_set ?_ GE443.out | refine below_set ?_ GE448.out | refine below_set ?_ GE454.out) | exact HB.out)) hb)
      clear HO_444001
      clear HO_449001
      clear HO_455001
      clear BK432
      clear BK443
      clear BK448
      clear BK454
      clear HB
      have HO_444001 := n0_
      have HO_449001 := n1_
      have HO_455001 := n2_
      have HO459 := n3_
      have BK432 := n4_
      have BK443 := n5_
      have BK448 := n6_
      have BK454 := n7_
      have HB := n8_
      clear n0_ n1_ n2_ n3_ n4_ n5_ n6_ n7_ n8_
      (try clear hb)
      (try clear hb2)
      (try clear hk)
      (try clear hi)
      (try clear ho0)
      obtain ⟨Ao178, co178, eo178⟩ := Kd.R_slice HO459.out
      (first | subst eo178 | (injection eo178 with f1_ f2_ f3_; have f4_ := f1_.symm; have f5_ := f3_.symm; clear f1_ f2_ f3_; subst f4_; subst f5_))
      refine hK.out _ _ ⟨(blk_cell BK448.out 0).trans rfl, (blk_cell BK448.out 1).trans rfl, (blk_cell BK432.out 0).trans rfl, (blk_cell BK432.out 1).trans rfl⟩ (fun hHeld => ?_)
      clear hK K
      refine norm_ (a' := ?_) ?_ ?_
      rotate_left
      ·show Act.put _ (some 47) _ = _
       simp only [Act.put, List.setIfInBounds_toArray, List.set_cons_zero, List.set_cons_succ, i64_w, i32_w]
       rfl
      refine one_ (i := 3) (N := some 48) #[true, true, true, true, false] rfl rfl (by kernel_rfl) (by decide) (fun K hK => ?_)
      refine goes_ Try.func14 (by kernel_rfl) rfl #[.agg #[.int .i64 t444, .slice Ao30 t445.length co30], .agg #[.int .i64 t456, .slice Ao178 t457.length co178]] (by rfl) rfl rfl (by (try simp only [List.map_toArray, List.map_cons, List.map_nil]); first | done | rfl | (simp only [List.length_drop, List.length_take]; rfl)) ?_
      with_reducible refine (laws_eqTable.calls kj11 t444 _ _ t445 t456 _ _ t457 false _ ?side1 ?side2 ?side3 ?side4 A58.out).mono ?_
      (case side1 => repeat (first | exact (Kd.R_reads' HO_449001.out).2.2 | (with_reducible refine Kd.C_alloc ?_ _) | (with_reducible refine Kd.C_drewN ?_ _) | (with_reducible refine Kd.C_drew ?_)))
      (case side2 => exact (Kd.R_reads' HO_449001.out).2.1)
      (case side3 => repeat (first | exact (Kd.R_reads' HO459.out).2.2 | (with_reducible refine Kd.C_alloc ?_ _) | (with_reducible refine Kd.C_drewN ?_ _) | (with_reducible refine Kd.C_drew ?_)))
      (case side4 => exact (Kd.R_reads' HO459.out).2.1)
      rintro e w179 ⟨rfl, hb⟩
      refine ⟨_, rfl, ?_⟩
      have n0_ := Aside0.mk (Kd.R_below (by (with_reducible repeat (first | apply Kd.R_alloc | apply Kd.R_drewN | apply Kd.R_drew)); exact HO_444001.out) hb)
      have n1_ := Aside0.mk (Kd.R_below (by (with_reducible repeat (first | apply Kd.R_alloc | apply Kd.R_drewN | apply Kd.R_drew)); exact HO_449001.out) hb)
      have n2_ := Aside0.mk (Kd.R_below (by (with_reducible repeat (first | apply Kd.R_alloc | apply Kd.R_drewN | apply Kd.R_drew)); exact HO_455001.out) hb)
      have n3_ := Aside0.mk (Kd.R_below (by (with_reducible repeat (first | apply Kd.R_alloc | apply Kd.R_drewN | apply Kd.R_drew)); exact HO459.out) hb)
      have n4_ := Aside0.mk (blk_below (g := gb432) (o := .cells #[.int .i64 a0_0, .slice A0_1 l0_1.length c0_1] 32 (0, 0)) (by (with_reducible repeat (first | refine blk_drewN ?_ _ | refine blk_drew ?_ | refine blk_alloc ?_ _)); exact BK432.out) hb)
      have n5_ := Aside0.mk (blk_below (g := gb443) (o := .cells #[.int .i64 t438, .slice Ao23 t439.length co23] 24 (0, 0)) (by (with_reducible repeat (first | refine blk_drewN ?_ _ | refine blk_drew ?_ | refine blk_alloc ?_ _)); exact BK443.out) hb)
      have n6_ := Aside0.mk (blk_below (g := gb448) (o := .cells #[.int .i64 t444, .slice Ao30 t445.length co30] 24 (0, 0)) (by (with_reducible repeat (first | refine blk_drewN ?_ _ | refine blk_drew ?_ | refine blk_alloc ?_ _)); exact BK448.out) hb)
      have n7_ := Aside0.mk (blk_below (g := gb454) (o := .cells #[.int .i64 t449, .slice Ao37 t450.length co37] 24 (0, 0)) (by (with_reducible repeat (first | refine blk_drewN ?_ _ | refine blk_drew ?_ | refine blk_alloc ?_ _)); exact BK454.out) hb)
      have n8_ := Aside0.mk (below_step (by repeat (first | (with_reducible first | exact HB.out | apply below_alloc | apply pw_below_drewN | apply below_drew1 | refine below_set ?_ GE432.out | refine below_set ?_ GE443.out | refine below_set ?_ GE448.out | refine below_set ?_ GE454.out) | exact HB.out)) hb)
      clear HO_444001
      clear HO_449001
      clear HO_455001
      clear HO459
      clear BK432
      clear BK443
      clear BK448
      clear BK454
      clear HB
      have HO_444001 := n0_
      have HO_449001 := n1_
      have HO_455001 := n2_
      have HO459 := n3_
      have BK432 := n4_
      have BK443 := n5_
      have BK448 := n6_
      have BK454 := n7_
      have HB := n8_
      clear n0_ n1_ n2_ n3_ n4_ n5_ n6_ n7_ n8_
      (try clear hb)
      (try clear hb2)
      (try clear hk)
      (try clear hi)
      refine hK.out _ _ ⟨(blk_cell BK448.out 0).trans rfl, (blk_cell BK448.out 1).trans rfl, (blk_cell BK432.out 0).trans rfl, (blk_cell BK432.out 1).trans rfl⟩ (fun hHeld => ?_)
      clear hK K
      refine norm_ (a' := ?_) ?_ ?_
      rotate_left
      ·show Act.put _ (some 48) _ = _
       simp only [Act.put, List.setIfInBounds_toArray, List.set_cons_zero, List.set_cons_succ, i64_w, i32_w]
       rfl
      refine pure_ (i := 4) (N := some 49) (v := ?_) (a' := ?_) #[true, true, true, true, true] rfl rfl (by kernel_rfl) (fun _ _ _ h => h) (Or.inl ⟨by rfl, ?_⟩) ?_ ?_
      rotate_left
      ·intro w'
       go_simp
       with_reducible rfl
      rotate_left
      ·simp only [Act.put, List.setIfInBounds_toArray, List.set_cons_zero, List.set_cons_succ, i64_w, i32_w]
       rfl
      refine done_ (by kernel_rfl) ?_
      try go_wp2
      go_ret
      exact ⟨by first | rfl | (simp [errW_none, errW_some] <;> rfl) | (simp [*, errW_none, errW_some] <;> rfl), by repeat (first | (with_reducible first | exact HB.out | apply below_alloc | apply pw_below_drewN | apply below_drew1 | refine below_set ?_ GE432.out | refine below_set ?_ GE443.out | refine below_set ?_ GE448.out | refine below_set ?_ GE454.out) | exact HB.out)⟩
end Go.Proofs.Ytcbofebikbbknaa.P

namespace Go.Proofs.Ytcbofebikbbknaa.P
open Go.RowKit Go.Proofs.YtcbofebikbbknaaW.PrintWords Go.Proofs.YtcbofebikbbknaaW.PrintLast
def wfS51 (s : S51) : Prop := (fun n : Int => (Lit.int .i64 n).wf = true) s.f0 ∧ (fun n : Int => (Lit.int .i64 n).wf = true) s.f1 ∧ (fun n : Int => (Lit.int .i64 n).wf = true) s.f2
def wfS32 (s : S32) : Prop := (fun n : Int => (Lit.int .i64 n).wf = true) s.f0 ∧ (fun l : List (S51) => l.length ≤ maxLen ∧ ∀ x ∈ l, wfS51 x) s.f1
/-- The one pure statement of laws_FnExactFlushPort. -/
def laws_FnExactFlushPort.Pure : Prop := ∀ (s0 : S32) (a1 : Int), wfS32 s0 → (fun n : Int => (Lit.int .i64 n).wf = true) a1 → ∃ k, laws_FnExactFlushPort.f k s0.f0 s0.f1 a1 = some true
end Go.Proofs.Ytcbofebikbbknaa.P

namespace Go.Proofs.Ytcbofebikbbknaa.P
open Go.RowKit Go.Proofs.YtcbofebikbbknaaW.PrintWords
set_option linter.unusedVariables false
set_option linter.unusedSimpArgs false
theorem wrap_id {x : Int} (h0 : -9223372036854775808 ≤ x) (h1 : x ≤ 9223372036854775807) : wrap64 x = x := by unfold wrap64; omega
theorem Ev.succ {α : Type} {g : Nat → Option α} {r : α} (h : Ev (fun k => g (k + 1)) r) : Ev g r := Ev.step (fun _ => rfl) h
theorem getD_mid {α : Type} (d : α) (pre : List α) (x : α) (suf : List α) : (pre ++ x :: suf).getD ((pre.length : Int)).toNat d = x := by simp
theorem set_mid {α : Type} (pre : List α) (x y : α) (suf : List α) : (pre ++ x :: suf).set ((pre.length : Int)).toNat y = pre ++ y :: suf := by simp
theorem app_one {α : Type} (pre : List α) (x : α) (suf : List α) : pre ++ x :: suf = (pre ++ [x]) ++ suf := by simp
theorem len_mid {α : Type} (pre : List α) (x : α) (suf : List α) : ((pre ++ x :: suf).length : Int) = pre.length + suf.length + 1 := by simp; omega
theorem len_one {α : Type} (pre : List α) (x : α) : ((pre ++ [x]).length : Int) = pre.length + 1 := by simp
theorem nil_or_snoc {α : Type} (l : List α) : l = [] ∨ ∃ p y, l = p ++ [y] := by
 rcases List.eq_nil_or_concat l with rfl | ⟨p, y, rfl⟩
 ·exact .inl rfl
 ·exact .inr ⟨p, y, by simp⟩
end Go.Proofs.Ytcbofebikbbknaa.P

namespace Go.Proofs.Ytcbofebikbbknaa.P
open Go.RowKit Go.Proofs.YtcbofebikbbknaaW.PrintWords Go.Proofs.YtcbofebikbbknaaW.PrintLast
set_option linter.unusedVariables false
set_option linter.unusedSimpArgs false
theorem rdSeen_mid (pre : List S53) (x : S53) (suf : List S53) : rd_T53 (pre ++ x :: suf) (pre.length : Int) = x := getD_mid _ pre x suf
theorem rdLSeen_mid (pre : List S51) (x : S51) (suf : List S51) : rd_T51 (pre ++ x :: suf) (pre.length : Int) = x := getD_mid _ pre x suf
instance decSeen : DecidableEq S53 := fun a b => decidable_of_iff (a.f0 = b.f0 ∧ a.f1 = b.f1 ∧ a.f2 = b.f2) (by cases a; cases b; simp)
def cvSeen (x : S51) : S53 := ⟨x.f0, x.f1, x.f2⟩
theorem toSeenS_l (suf : List S51) : ∀ (pre : List S51) (k : Nat), suf.length < k → (pre.length : Int) + suf.length ≤ 1099511627776 →
  laws_toSeenS.l0 k (pre ++ suf) (pre.map cvSeen ++ List.replicate suf.length z53) (pre.length : Int) = some ((pre ++ suf).map cvSeen) := by
 induction suf with
 | nil =>
  intro pre k hk hb
  obtain ⟨k, rfl⟩ : ∃ m, k = m + 1 := ⟨k - 1, by omega⟩
  simp only [laws_toSeenS.l0]
  rw [if_neg (by simp)]
  simp
 | cons x suf ih =>
  intro pre k hk hb
  simp only [List.length_cons] at hk hb
  obtain ⟨k, rfl⟩ : ∃ m, k = m + 1 := ⟨k - 1, by omega⟩
  have h := ih (pre ++ [x]) k (by omega) (by simp; omega)
  simp only [laws_toSeenS.l0]
  rw [if_pos (by simp; omega), if_pos (by omega), rdLSeen_mid]
  simp only [laws_toSeen.f, Option.bind_some]
  rw [if_pos (by simp; omega), wrap_id (by omega) (by omega)]
  have e : (pre.map cvSeen ++ List.replicate (x :: suf).length z53).set ((pre.length : Int)).toNat (⟨x.f0, x.f1, x.f2⟩ : S53) = (pre ++ [x]).map cvSeen ++ List.replicate suf.length z53 := by
   simp [List.replicate_succ, cvSeen]
  rw [e]
  simpa using h
theorem toSeenS_ev (l : List S51) (hl : l.length ≤ 1048576) : Ev (fun k => laws_toSeenS.f k l) (l.map cvSeen) := by
 refine ⟨l.length + 1, fun k hk => ?_⟩
 have h := toSeenS_l l [] k (by omega) (by simp; omega)
 show laws_toSeenS.f k l = _
 unfold laws_toSeenS.f
 rw [if_pos (by omega), if_pos (by simp; omega)]
 simpa using h
theorem eqSeen_is (a b : S53) : laws_eqSeen.f a.f0 a.f1 a.f2 b.f0 b.f1 b.f2 = some (decide (a = b)) := by
 cases a; cases b
 unfold laws_eqSeen.f
 simp only [S53.mk.injEq]
 split
 ·split
  ·split
   ·rename_i h1 h2 h3; simp [h1, h2, h3]
   ·rename_i h1 h2 h3; simp [h3]
  ·rename_i h1 h2; simp [h2]
 ·rename_i h1; simp [h1]
theorem eqSeenS_l (s : List S53) : ∀ (t pre qre : List S53) (k : Nat), s.length < k → pre.length = qre.length → s.length = t.length → (pre.length : Int) + s.length ≤ 1099511627776 →
  laws_eqSeenS.l0 k (pre ++ s) (qre ++ t) (pre.length : Int) = some (decide (s = t)) := by
 induction s with
 | nil =>
  intro t pre qre k hk hq hl hb
  obtain ⟨k, rfl⟩ : ∃ m, k = m + 1 := ⟨k - 1, by omega⟩
  obtain rfl : t = [] := List.eq_nil_of_length_eq_zero (by simpa using hl.symm)
  simp only [laws_eqSeenS.l0]
  rw [if_neg (by simp)]
  simp
 | cons x s ih =>
  intro t pre qre k hk hq hl hb
  cases t with
  | nil => simp at hl
  | cons y t =>
   simp only [List.length_cons] at hk hl hb
   obtain ⟨k, rfl⟩ : ∃ m, k = m + 1 := ⟨k - 1, by omega⟩
   have h := ih t (pre ++ [x]) (qre ++ [y]) k (by omega) (by simp; omega) (by omega) (by simp; omega)
   have hy : rd_T53 (qre ++ y :: t) (pre.length : Int) = y := by rw [hq]; exact rdSeen_mid qre y t
   simp only [laws_eqSeenS.l0]
   rw [if_pos (by simp; omega), if_pos (by omega), if_pos (by simp; omega), rdSeen_mid, hy, eqSeen_is, wrap_id (by omega) (by omega)]
   simp only [Option.bind_some]
   by_cases e : x = y
   ·subst e
    rw [if_pos (by simp)]
    simpa using h
   ·rw [if_neg (by simpa using e)]
    simp [e]
theorem eqSeenS_ev (s t : List S53) (hs : s.length ≤ 1099511627776) : Ev (fun k => laws_eqSeenS.f k s t) (decide (s = t)) := by
 refine ⟨s.length + 1, fun k hk => ?_⟩
 show laws_eqSeenS.f k s t = _
 unfold laws_eqSeenS.f
 by_cases hl : s.length = t.length
 ·rw [if_pos (by omega)]
  exact eqSeenS_l s t [] [] k (by omega) rfl hl (by simp; omega)
 ·rw [if_neg (by omega)]
  have : s ≠ t := fun e => hl (by rw [e])
  simp [this]
theorem szSeenS_is (l : List S51) (hl : l.length ≤ maxLen) (a : Int) (h0 : 0 ≤ a) (h1 : a ≤ 1048576) : laws_szSeenS.f l a = some (if a - l.length < 0 then -1 else a - l.length) := by
 have hm : l.length ≤ 9223372036854775807 := by unfold maxLen at hl; exact hl
 unfold laws_szSeenS.f
 rw [wrap_id (by omega) (by omega)]
 split <;> rfl
end Go.Proofs.Ytcbofebikbbknaa.P

namespace Go.Proofs.Ytcbofebikbbknaa.P
open Go.RowKit Go.Proofs.YtcbofebikbbknaaW.PrintWords Go.Proofs.YtcbofebikbbknaaW.PrintLast
set_option linter.unusedVariables false
set_option linter.unusedSimpArgs false
def marksSeen : Nat → Int → List S53
 | 0, _ => []
 | n + 1, q => ⟨q, q + 1, q + 2⟩ :: marksSeen n (q + 3)
theorem markSeenS_l (suf : List S53) : ∀ (pre : List S53) (k : Nat) (q : Int), suf.length < k → (pre.length : Int) + suf.length ≤ 1099511627776 → 0 ≤ q → q + 3 * suf.length ≤ 4611686018427387904 →
  laws_markSeenS.l0 k (pre ++ suf) q (pre.length : Int) = some (q + 3 * suf.length, pre ++ marksSeen suf.length q) := by
 induction suf with
 | nil =>
  intro pre k q hk hb h0 h1
  obtain ⟨k, rfl⟩ : ∃ m, k = m + 1 := ⟨k - 1, by omega⟩
  simp only [laws_markSeenS.l0]
  rw [if_neg (by simp)]
  simp [marksSeen]
 | cons x suf ih =>
  intro pre k q hk hb h0 h1
  simp only [List.length_cons] at hk hb h1
  obtain ⟨k, rfl⟩ : ∃ m, k = m + 1 := ⟨k - 1, by omega⟩
  have h := ih (pre ++ [⟨q, q + 1, q + 2⟩]) k (q + 3) (by omega) (by simp <;> omega) (by omega) (by omega)
  simp only [laws_markSeenS.l0]
  rw [if_pos (by simp <;> omega), if_pos (by omega)]
  simp only [Option.bind_some, set_mid, rdSeen_mid]
  rw [wrap_id (x := q + 1) (by omega) (by omega), wrap_id (x := q + 1 + 1) (by omega) (by omega), wrap_id (x := q + 1 + 1 + 1) (by omega) (by omega), wrap_id (x := (pre.length : Int) + 1) (by omega) (by omega)]
  rw [show q + 1 + 1 = q + 2 from by omega, show q + 2 + 1 = q + 3 from by omega]
  rw [show ((pre ++ [(⟨q, q + 1, q + 2⟩ : S53)]).length : Int) = (pre.length : Int) + 1 from by simp] at h
  rw [app_one, h]
  simp only [marksSeen, List.length_cons, List.append_assoc, List.cons_append, List.nil_append, Option.some.injEq, Prod.mk.injEq, and_true]
  omega
theorem markSeenS_ev (l : List S53) (q : Int) (hl : l.length ≤ 1099511627776) (h0 : 0 ≤ q) (h1 : q ≤ 1099511627776) : Ev (fun k => laws_markSeenS.f k l q) (q + 3 * l.length, marksSeen l.length q) := by
 refine ⟨l.length + 1, fun k hk => ?_⟩
 show laws_markSeenS.f k l q = _
 unfold laws_markSeenS.f
 simpa using markSeenS_l l [] k q (by omega) (by simp <;> omega) h0 (by omega)
theorem heldSeenS_l (n : Nat) : ∀ (pre : List S53) (k : Nat) (q : Int), n < k → (pre.length : Int) + n ≤ 1099511627776 → 0 ≤ q → q + 3 * n ≤ 4611686018427387904 →
  laws_heldSeenS.l0 k (pre ++ marksSeen n q) q (pre.length : Int) = some (q + 3 * n) := by
 induction n with
 | zero =>
  intro pre k q hk hb h0 h1
  obtain ⟨k, rfl⟩ : ∃ m, k = m + 1 := ⟨k - 1, by omega⟩
  simp only [laws_heldSeenS.l0]
  rw [show marksSeen 0 q = [] from rfl, if_neg (by simp)]
  simp
 | succ n ih =>
  intro pre k q hk hb h0 h1
  obtain ⟨k, rfl⟩ : ∃ m, k = m + 1 := ⟨k - 1, by omega⟩
  have h := ih (pre ++ [⟨q, q + 1, q + 2⟩]) k (q + 3) (by omega) (by simp <;> omega) (by omega) (by omega)
  simp only [laws_heldSeenS.l0]
  rw [show marksSeen (n + 1) q = ⟨q, q + 1, q + 2⟩ :: marksSeen n (q + 3) from rfl]
  rw [if_pos (by simp <;> omega), if_pos (by omega)]
  simp only [rdSeen_mid]
  rw [wrap_id (x := q + 1) (by omega) (by omega), wrap_id (x := q + 1 + 1) (by omega) (by omega), wrap_id (x := q + 1 + 1 + 1) (by omega) (by omega), wrap_id (x := (pre.length : Int) + 1) (by omega) (by omega)]
  rw [show q + 1 + 1 = q + 2 from by omega, show q + 2 + 1 = q + 3 from by omega, if_pos rfl, if_pos rfl, if_pos trivial]
  rw [show ((pre ++ [(⟨q, q + 1, q + 2⟩ : S53)]).length : Int) = (pre.length : Int) + 1 from by simp] at h
  rw [app_one, h]
  simp only [Option.some.injEq]
  omega
theorem heldSeenS_ev (n : Nat) (q : Int) (hl : n ≤ 1099511627776) (h0 : 0 ≤ q) (h1 : q ≤ 1099511627776) : Ev (fun k => laws_heldSeenS.f k (marksSeen n q) q) (q + 3 * n) := by
 refine ⟨n + 1, fun k hk => ?_⟩
 show laws_heldSeenS.f k (marksSeen n q) q = _
 unfold laws_heldSeenS.f
 exact heldSeenS_l n [] k q (by omega) (by simp <;> omega) h0 (by omega)
end Go.Proofs.Ytcbofebikbbknaa.P

namespace Go.Proofs.Ytcbofebikbbknaa.P
open Go.RowKit Go.Proofs.YtcbofebikbbknaaW.PrintWords Go.Proofs.YtcbofebikbbknaaW.PrintLast
set_option linter.unusedVariables false
set_option linter.unusedSimpArgs false
theorem specIn3 (a b c : Int) : spec_l1In.f a b c = some (decide (b ≤ a ∧ a ≤ c)) := by
 unfold spec_l1In.f
 by_cases h : a ≥ b
 ·rw [if_pos h]
  congr 1
  by_cases h2 : a ≤ c
  ·rw [decide_eq_true h2, decide_eq_true ⟨h, h2⟩]
  ·rw [decide_eq_false h2, decide_eq_false (fun hc => h2 hc.2)]
 ·rw [if_neg h, decide_eq_false (fun hc => h hc.1)]
theorem implIn3 (a b c : Int) : impl_in.f a b c = some (decide (b ≤ a ∧ a ≤ c)) := specIn3 a b c
def okSeen (x : S53) : Bool := decide (1 ≤ x.f0 ∧ x.f0 ≤ 99) && (decide (0 ≤ x.f1 ∧ x.f1 ≤ 9) && decide (0 ≤ x.f2 ∧ x.f2 ≤ 10000))
theorem specRow3 (x : S53) : spec_l13Row.f x.f0 x.f1 x.f2 = some (okSeen x) := by
 unfold spec_l13Row.f okSeen
 simp only [specIn3, Option.bind_some]
 by_cases h1 : 1 ≤ x.f0 ∧ x.f0 ≤ 99
 ·by_cases h2 : 0 ≤ x.f1 ∧ x.f1 ≤ 9
  ·simp only [h1, h2, and_self, decide_true, if_true, Bool.true_and]
  ·simp only [h1, h2, and_self, decide_true, decide_false, if_true, Bool.true_and, Bool.false_and, Bool.false_eq_true, if_false]
 ·simp only [h1, decide_false, Bool.false_and, Bool.false_eq_true, if_false]
theorem implSeen3 (x : S53) : impl_isSeen.f x.f0 x.f1 x.f2 = some (okSeen x) := specRow3 x
theorem eta3 (x : S53) : (⟨x.f0, x.f1, x.f2⟩ : S53) = x := rfl
/-- the time of the row ahead is no less -/
def later (o : Option S53) (x : S53) : Bool := match o with
 | none => true
 | some y => !decide (y.f2 < x.f2)
def goT (pre : List S53) : List S53 → Bool
 | [] => true
 | x :: r => okSeen x && (later pre.getLast? x && (!(pre.any fun y => y.f0 == x.f0) && goT (pre ++ [x]) r))
def goodT (a : Int) (l : List S53) : Bool := goT [] l && (decide (1 ≤ a ∧ a ≤ 8) && decide ((l.length : Int) ≤ a))
theorem specGoodT_l1 (l : List S53) (n i a : Int) (x : S53) (R : Bool) (hR : Ev (fun k => spec_GoodTable.l0 k l n (wrap64 (i + 1)) a l) R) (suf : List S53) : ∀ (pre : List S53), ((pre ++ suf).length : Int) ≤ 1099511627776 →
  Ev (fun k => spec_GoodTable.l1 k l n i (pre ++ suf) ((pre ++ suf).length : Int) pre.length a l x.f0 x.f1 x.f2) (!(suf.any fun y => y.f0 == x.f0) && R) := by
 induction suf with
 | nil =>
  intro pre h
  refine Ev.succ ?_
  simp only [spec_GoodTable.l1, List.append_nil, Int.lt_irrefl, if_false, List.any_nil, Bool.not_false, Bool.true_and]
  exact hR
 | cons y suf ih =>
  intro pre h
  refine Ev.succ ?_
  rw [len_mid] at h ⊢
  have := ih (pre ++ [y]) (by rw [← app_one, len_mid]; exact h)
  rw [← app_one, len_mid, len_one] at this
  simp only [spec_GoodTable.l1]
  simp only [if_pos (show ((pre.length : Int) < pre.length + suf.length + 1) by omega), if_pos (show (0 : Int) ≤ pre.length by omega), len_mid, rdSeen_mid, wrap_id (show (-9223372036854775808 : Int) ≤ pre.length + 1 by omega) (show ((pre.length : Int) + 1 ≤ 9223372036854775807) by omega), List.any_cons]
  by_cases h1 : y.f0 = x.f0
  ·simp only [if_pos h1, beq_iff_eq.2 h1, Bool.true_or, Bool.not_true, Bool.false_and]
   exact Ev.now _
  ·simp only [if_neg h1, beq_eq_false_iff_ne.2 h1, Bool.false_or]
   exact this
theorem specGoodT_l0 (a : Int) (l : List S53) (hl : l.length ≤ 1048576) (suf : List S53) : ∀ (pre : List S53), pre ++ suf = l →
  Ev (fun k => spec_GoodTable.l0 k l (l.length : Int) pre.length a l) (goT pre suf && (decide (1 ≤ a ∧ a ≤ 8) && decide ((l.length : Int) ≤ a))) := by
 induction suf with
 | nil =>
  intro pre h
  rw [List.append_nil] at h
  subst h
  refine Ev.succ ?_
  simp only [spec_GoodTable.l0, Int.lt_irrefl, if_false, specIn3, Option.bind_some, goT, Bool.true_and]
  by_cases h1 : 1 ≤ a ∧ a ≤ 8
  ·simp only [h1, and_self, decide_true, if_true, Bool.true_and]
   exact Ev.now _
  ·simp only [h1, decide_false, Bool.false_eq_true, if_false, Bool.false_and]
   exact Ev.now _
 | cons x suf ih =>
  intro pre h
  have h' := ih (pre ++ [x]) (by rw [← app_one]; exact h)
  rw [len_one] at h'
  refine Ev.succ ?_
  have hlen : (l.length : Int) = pre.length + suf.length + 1 := by rw [← h, len_mid]
  have hx : rd_T53 l (pre.length : Int) = x := by rw [← h]; exact rdSeen_mid pre x suf
  simp only [spec_GoodTable.l0]
  simp only [if_pos (show ((pre.length : Int) < l.length) by omega), if_pos (show (0 : Int) ≤ pre.length by omega), hx, specRow3, Option.bind_some]
  generalize hfin : (decide (1 ≤ a ∧ a ≤ 8) && decide ((l.length : Int) ≤ a)) = fin at h' ⊢
  have bad : ∀ (b : Bool), b = true → okSeen x = false ∨ later pre.getLast? x = false → Ev (fun k => spec_GoodTable.j1 k (pre.length : Int) l (l.length : Int) (pre.length : Int) b a l x.f0 x.f1 x.f2) (goT pre (x :: suf) && fin) := by
   intro b hb hc
   refine Ev.succ ?_
   simp only [spec_GoodTable.j1, hb, if_true, goT]
   rcases hc with hc | hc
   ·rw [hc, Bool.false_and, Bool.false_and]
    exact Ev.now _
   ·rw [hc, Bool.false_and, Bool.and_false, Bool.false_and]
    exact Ev.now _
  have good : okSeen x = true → later pre.getLast? x = true → Ev (fun k => spec_GoodTable.j1 k (pre.length : Int) l (l.length : Int) (pre.length : Int) false a l x.f0 x.f1 x.f2) (goT pre (x :: suf) && fin) := by
   intro hc hd
   refine Ev.succ ?_
   simp only [spec_GoodTable.j1, Bool.false_eq_true, if_false, if_pos (show (0 : Int) ≤ pre.length by omega), if_pos (show (pre.length : Int) ≤ l.length by omega), Option.bind_some, Int.toNat_natCast, goT, hc, hd, Bool.true_and]
   rw [show l.take pre.length = pre by rw [← h, List.take_left']; rfl, Bool.and_assoc]
   have := specGoodT_l1 l (l.length : Int) (pre.length : Int) a x _ (by rw [wrap_id (show (-9223372036854775808 : Int) ≤ pre.length + 1 by omega) (show ((pre.length : Int) + 1 ≤ 9223372036854775807) by omega)]; exact h') pre [] (by rw [List.nil_append]; omega)
   exact this
  cases hk : okSeen x with
  | false =>
   simp only [Bool.false_eq_true, if_false]
   exact bad true rfl (.inl hk)
  | true =>
   simp only [if_true]
   rcases nil_or_snoc pre with rfl | ⟨p, y, rfl⟩
   ·simp only [List.length_nil, Int.ofNat_zero, gt_iff_lt, Int.lt_irrefl, if_false] at good ⊢
    exact good hk rfl
   ·have hy : rd_T53 l (wrap64 (((p ++ [y]).length : Int) - 1)) = y := by
     rw [wrap_id (by omega) (by omega), len_one, show (p.length : Int) + 1 - 1 = p.length by omega, ← h, ← app_one]
     exact rdSeen_mid p y _
    have h0 : (0 : Int) ≤ wrap64 (((p ++ [y]).length : Int) - 1) ∧ wrap64 (((p ++ [y]).length : Int) - 1) < l.length := by
     rw [wrap_id (by omega) (by omega)]
     rw [len_one] at hlen ⊢
     omega
    simp only [if_pos (show (((p ++ [y]).length : Int)) > 0 by rw [len_one]; omega), if_pos h0.1, if_pos h0.2, hy]
    have hlast : (p ++ [y]).getLast? = some y := by simp
    by_cases ht : y.f2 < x.f2
    ·rw [decide_eq_true ht]
     exact bad true rfl (.inr (by rw [hlast]; simp [later, ht]))
    ·rw [decide_eq_false ht]
     exact good hk (by rw [hlast]; simp [later, ht])
theorem specGoodT_ev (a : Int) (l : List S53) (hl : l.length ≤ 1048576) : Ev (fun k => spec_GoodTable.f k a l) (goodT a l) := specGoodT_l0 a l hl l [] rfl
theorem ix_some (p : S53 → Bool) : ∀ (l : List S53) (i : Int), l.any p = true → i ≤ ixF53 p l i ∧ ixF53 p l i < i + l.length
 | [], _, h => by simp at h
 | x :: r, i, h => by
  rw [List.any_cons] at h
  rw [ixF53, List.length_cons]
  by_cases hx : p x = true
  ·rw [if_pos hx]
   omega
  ·rw [if_neg hx]
   rw [Bool.eq_false_iff.2 hx, Bool.false_or] at h
   have := ix_some p r (i + 1) h
   omega
theorem ix_app (p : S53 → Bool) : ∀ (pre suf : List S53) (i : Int), pre.any p = true → ixF53 p (pre ++ suf) i = ixF53 p pre i
 | [], _, _, h => by simp at h
 | x :: r, suf, i, h => by
  rw [List.any_cons] at h
  rw [List.cons_append, ixF53, ixF53]
  by_cases hx : p x = true
  ·rw [if_pos hx, if_pos hx]
  ·rw [if_neg hx, if_neg hx]
   rw [Bool.eq_false_iff.2 hx, Bool.false_or] at h
   exact ix_app p r suf (i + 1) h
theorem ix_skip (p : S53 → Bool) : ∀ (pre suf : List S53) (i : Int), pre.any p = false → ixF53 p (pre ++ suf) i = ixF53 p suf (i + pre.length)
 | [], _, _, _ => by simp
 | x :: r, suf, i, h => by
  rw [List.any_cons, Bool.or_eq_false_iff] at h
  rw [List.cons_append, ixF53, h.1, if_neg Bool.false_ne_true, ix_skip p r suf (i + 1) h.2, List.length_cons]
  congr 1
  omega
theorem ix_mid (pre suf : List S53) (x : S53) : ixF53 (fun y => y.f0 == x.f0) (pre ++ x :: suf) 0 < (pre.length : Int) ↔ (pre.any fun y => y.f0 == x.f0) = true := by
 cases h : pre.any fun y => y.f0 == x.f0 with
 | true =>
  rw [ix_app _ _ _ _ h]
  have := ix_some _ pre 0 h
  simp only [iff_true]
  omega
 | false =>
  rw [ix_skip _ _ _ _ h, ixF53, if_pos (by simp)]
  simp
theorem implGoodT_l0 (a : Int) (l : List S53) (hl : l.length ≤ 1048576) (suf : List S53) : ∀ (pre : List S53), pre ++ suf = l →
  Ev (fun k => impl_GoodTable.l0 k l (l.length : Int) pre.length a l) (goT pre suf) := by
 induction suf with
 | nil =>
  intro pre h
  rw [List.append_nil] at h
  subst h
  refine Ev.succ ?_
  simp only [impl_GoodTable.l0, Int.lt_irrefl, if_false, goT]
  exact Ev.now _
 | cons x suf ih =>
  intro pre h
  have h' := ih (pre ++ [x]) (by rw [← app_one]; exact h)
  rw [len_one] at h'
  refine Ev.succ ?_
  have hlen : (l.length : Int) = pre.length + suf.length + 1 := by rw [← h, len_mid]
  have hx : rd_T53 l (pre.length : Int) = x := by rw [← h]; exact rdSeen_mid pre x suf
  have hm := ix_mid pre suf x
  rw [h] at hm
  simp only [impl_GoodTable.l0]
  simp only [if_pos (show ((pre.length : Int) < l.length) by omega), if_pos (show (0 : Int) ≤ pre.length by omega), hx, implSeen3, impl_row.f, Option.bind_some, goT, wrap_id (show (-9223372036854775808 : Int) ≤ pre.length + 1 by omega) (show ((pre.length : Int) + 1 ≤ 9223372036854775807) by omega)]
  cases hk : okSeen x with
  | false =>
   simp only [Bool.false_eq_true, if_false, Bool.false_and]
   exact Ev.now _
  | true =>
   simp only [if_true, Bool.true_and]
   by_cases hd : (pre.any fun y => y.f0 == x.f0) = true
   ·simp only [if_pos (hm.2 hd), hd, Bool.not_true, Bool.false_and, Bool.and_false]
    exact Ev.now _
   ·simp only [if_neg (fun c => hd (hm.1 c)), Bool.eq_false_iff.2 hd, Bool.not_false, Bool.true_and]
    rcases nil_or_snoc pre with rfl | ⟨p, y, rfl⟩
    ·simp only [List.length_nil, Int.ofNat_zero, gt_iff_lt, Int.lt_irrefl, if_false] at h' ⊢
     exact h'
    ·have hy : rd_T53 l (wrap64 (((p ++ [y]).length : Int) - 1)) = y := by
      rw [wrap_id (by omega) (by omega), len_one, show (p.length : Int) + 1 - 1 = p.length by omega, ← h, ← app_one]
      exact rdSeen_mid p y _
     have h0 : (0 : Int) ≤ wrap64 (((p ++ [y]).length : Int) - 1) ∧ wrap64 (((p ++ [y]).length : Int) - 1) < l.length := by
      rw [wrap_id (by omega) (by omega)]
      rw [len_one] at hlen ⊢
      omega
     simp only [if_pos (show (((p ++ [y]).length : Int)) > 0 by rw [len_one]; omega), if_pos h0.1, if_pos h0.2, hy]
     have hlast : (p ++ [y]).getLast? = some y := by simp
     by_cases ht : y.f2 < x.f2
     ·simp only [if_pos ht, hlast, later, decide_eq_true ht, Bool.not_true, Bool.false_and]
      exact Ev.now _
     ·simp only [if_neg ht, hlast, later, decide_eq_false ht, Bool.not_false, Bool.true_and]
      exact h'
theorem implGoodT_ev (a : Int) (l : List S53) (hl : l.length ≤ 1048576) : Ev (fun k => impl_GoodTable.f k a l) (goodT a l) := by
 unfold impl_GoodTable.f goodT
 simp only [implIn3, Option.bind_some]
 by_cases h1 : 1 ≤ a ∧ a ≤ 8
 ·simp only [h1, and_self, decide_true, if_true, Bool.true_and]
  refine Ev.succ ?_
  by_cases h2 : (l.length : Int) > a
  ·simp only [impl_GoodTable.j0, decide_eq_true h2, if_true, decide_eq_false (show ¬ (l.length : Int) ≤ a by omega), Bool.and_false]
   exact Ev.now _
  ·simp only [impl_GoodTable.j0, decide_eq_false h2, Bool.false_eq_true, if_false, decide_eq_true (show (l.length : Int) ≤ a by omega), Bool.and_true]
   exact implGoodT_l0 a l hl l [] rfl
 ·simp only [h1, decide_false, Bool.false_eq_true, if_false, Bool.false_and, Bool.and_false]
  refine Ev.succ ?_
  simp only [impl_GoodTable.j0, if_true]
  exact Ev.now _
theorem szTable_is (a0 : Int) (l : List S51) (hl : l.length ≤ maxLen) (a : Int) (h0 : 0 ≤ a) (h1 : a ≤ 1048576) : laws_szTable.f a0 l a = some (if a - l.length < 0 then -1 else a - l.length) := by
 unfold laws_szTable.f
 rw [szSeenS_is l hl a h0 h1]
 simp only [Option.bind_some]
 by_cases h : a - (l.length : Int) < 0
 ·simp only [if_pos h, if_pos (show (-1 : Int) < 0 by omega)]
 ·simp only [if_neg h]
theorem toTable_ev (a0 : Int) (l : List S51) (hl : l.length ≤ 1048576) : Ev (fun k => laws_toTable.f k a0 l) (a0, l.map cvSeen) := by
 unfold laws_toTable.f
 exact Ev.bind (toSeenS_ev l hl) (Ev.now _)
theorem eqTable_ev (a : Int) (l : List S53) (hl : l.length ≤ 1099511627776) : Ev (fun k => laws_eqTable.f k a l a l) true := by
 unfold laws_eqTable.f
 simp only [if_true]
 refine Ev.bind (eqSeenS_ev l l hl) ?_
 simp only [decide_true, if_true]
 exact Ev.now _
theorem markTable_ev (a : Int) (l : List S53) (q : Int) (hl : l.length ≤ 1099511627776) (h0 : 0 ≤ q) (h1 : q ≤ 1099511627776) : Ev (fun k => laws_markTable.f k a l q) (q + 3 * l.length, marksSeen l.length q) := by
 unfold laws_markTable.f
 exact Ev.bind (markSeenS_ev l q hl h0 h1) (Ev.now _)
theorem heldTable_ev (a : Int) (n : Nat) (q : Int) (hl : n ≤ 1099511627776) (h0 : 0 ≤ q) (h1 : q ≤ 1099511627776) : Ev (fun k => laws_heldTable.f k a (marksSeen n q) q) (q + 3 * n) := by
 unfold laws_heldTable.f
 refine Ev.bind (heldSeenS_ev n q hl h0 h1) ?_
 simp only [if_neg (show ¬ (q + 3 * (n : Int)) < 0 by omega)]
 exact Ev.now _
end Go.Proofs.Ytcbofebikbbknaa.P

namespace Go.Proofs.Ytcbofebikbbknaa.P
open Go.RowKit Go.Proofs.YtcbofebikbbknaaW.PrintWords Go.Proofs.YtcbofebikbbknaaW.PrintLast
set_option linter.unusedVariables false
set_option linter.unusedSimpArgs false
theorem kept_l (p : S53 → Bool) (a : Int) (suf : List S53) : ∀ (pre out : List S53), ((pre ++ suf).length : Int) ≤ 1048576 → out.length ≤ pre.length →
  Ev (fun k => impl_Table_kept.l0 p k (pre ++ suf) ((pre ++ suf).length : Int) pre.length a out) (a, out ++ suf.filter p) := by
 induction suf with
 | nil =>
  intro pre out h ho
  refine Ev.succ ?_
  simp only [impl_Table_kept.l0, List.append_nil, Int.lt_irrefl, if_false, List.filter_nil]
  exact Ev.now _
 | cons x suf ih =>
  intro pre out h ho
  refine Ev.succ ?_
  rw [len_mid] at h ⊢
  have := fun o ho => ih (pre ++ [x]) o (by rw [← app_one, len_mid]; exact h) ho
  rw [← app_one, len_mid, len_one] at this
  simp only [impl_Table_kept.l0]
  simp only [if_pos (show ((pre.length : Int) < pre.length + suf.length + 1) by omega), if_pos (show (0 : Int) ≤ pre.length by omega), len_mid, rdSeen_mid, wrap_id (show (-9223372036854775808 : Int) ≤ pre.length + 1 by omega) (show ((pre.length : Int) + 1 ≤ 9223372036854775807) by omega), Option.bind_some, eta3]
  cases hp : p x with
  | true =>
   simp only [if_true, if_pos (show out.length < 5864062014805 by omega)]
   rw [List.filter_cons_of_pos hp, app_one out x (suf.filter p)]
   exact this (out ++ [x]) (by simp only [List.length_append, List.length_singleton]; omega)
  | false =>
   simp only [Bool.false_eq_true, if_false]
   rw [List.filter_cons_of_neg (by rw [hp]; exact Bool.false_ne_true)]
   exact this out (by rw [List.length_append]; omega)
theorem kept_ev (p : S53 → Bool) (a : Int) (l : List S53) (hl : l.length ≤ 1048576) : Ev (fun k => impl_Table_kept.f k a l p) (a, l.filter p) := by
 have := kept_l p a l [] [] (by rw [List.nil_append]; omega) (by simp)
 exact this
/-- a table with some rows kept -/
def keptIf (c : Bool) (p : S53 → Bool) (a : Int) (l : List S53) : Int × List S53 × Bool := if (goodT a l && c) = true then (a, l.filter p, true) else (0, [], false)
theorem keptIf_len (c : Bool) (p : S53 → Bool) (a : Int) (l : List S53) : (keptIf c p a l).2.1.length ≤ l.length := by
 unfold keptIf
 split
 ·exact List.length_filter_le ..
 ·simp
def flushC (b : Int) : Bool := decide (0 ≤ b ∧ b ≤ 9)
theorem implFlush_ev (a : Int) (l : List S53) (b : Int) (hl : l.length ≤ 1048576) : Ev (fun k => impl_FlushPort.f k a l b) (keptIf (flushC b) (fun y => y.f1 != b) a l) := by
 unfold impl_FlushPort.f keptIf
 refine Ev.bind (implGoodT_ev a l hl) ?_
 simp only [implIn3, Option.bind_some]
 cases hg : goodT a l with
 | false =>
  simp only [Bool.false_eq_true, if_false, Bool.false_and]
  exact Ev.now _
 | true =>
  simp only [if_true, Bool.true_and, flushC]
  by_cases h1 : 0 ≤ b ∧ b ≤ 9
  ·simp only [h1, and_self, decide_true, if_true]
   refine Ev.bind (kept_ev _ a l hl) ?_
   exact Ev.now _
  ·simp only [h1, decide_false, Bool.false_eq_true, if_false]
   exact Ev.now _
theorem specFlush_l (a b : Int) (suf : List S53) : ∀ (pre out : List S53), ((pre ++ suf).length : Int) ≤ 1048576 → out.length ≤ pre.length →
  Ev (fun k => spec_FlushPort.l0 k b (pre ++ suf) ((pre ++ suf).length : Int) pre.length a out) (a, out ++ suf.filter (fun y => y.f1 != b), true) := by
 induction suf with
 | nil =>
  intro pre out h ho
  refine Ev.succ ?_
  simp only [spec_FlushPort.l0, List.append_nil, Int.lt_irrefl, if_false, List.filter_nil]
  exact Ev.now _
 | cons x suf ih =>
  intro pre out h ho
  refine Ev.succ ?_
  rw [len_mid] at h ⊢
  have := fun o ho => ih (pre ++ [x]) o (by rw [← app_one, len_mid]; exact h) ho
  rw [← app_one, len_mid, len_one] at this
  simp only [spec_FlushPort.l0]
  simp only [if_pos (show ((pre.length : Int) < pre.length + suf.length + 1) by omega), if_pos (show (0 : Int) ≤ pre.length by omega), len_mid, rdSeen_mid, wrap_id (show (-9223372036854775808 : Int) ≤ pre.length + 1 by omega) (show ((pre.length : Int) + 1 ≤ 9223372036854775807) by omega), eta3]
  by_cases hp : x.f1 = b
  ·simp only [if_pos hp]
   rw [List.filter_cons_of_neg (by simp [hp])]
   exact this out (by rw [List.length_append]; omega)
  ·simp only [if_neg hp, if_pos (show out.length < 5864062014805 by omega)]
   rw [List.filter_cons_of_pos (by simp [hp]), app_one out x (suf.filter fun y => y.f1 != b)]
   exact this (out ++ [x]) (by simp only [List.length_append, List.length_singleton]; omega)
theorem specFlush_ev (a : Int) (l : List S53) (b : Int) (hl : l.length ≤ 1048576) : Ev (fun k => spec_FlushPort.f k a l b) (keptIf (flushC b) (fun y => y.f1 != b) a l) := by
 unfold spec_FlushPort.f keptIf
 have bad : Ev (fun k => spec_FlushPort.j0 k b true a l) ((0 : Int), ([] : List S53), false) := by
  refine Ev.succ ?_
  simp only [spec_FlushPort.j0, if_true]
  exact Ev.now _
 refine Ev.bind (specGoodT_ev a l hl) ?_
 simp only [specIn3, Option.bind_some]
 cases hg : goodT a l with
 | false =>
  simp only [Bool.false_eq_true, if_false, Bool.false_and]
  exact bad
 | true =>
  simp only [if_true, Bool.true_and, flushC]
  by_cases h1 : 0 ≤ b ∧ b ≤ 9
  ·simp only [h1, and_self, decide_true, if_true, Bool.not_true]
   refine Ev.succ ?_
   simp only [spec_FlushPort.j0, Bool.false_eq_true, if_false]
   have := specFlush_l a b l [] [] (by rw [List.nil_append]; omega) (by simp)
   exact this
  ·simp only [h1, decide_false, Bool.false_eq_true, if_false, Bool.not_false]
   exact bad
end Go.Proofs.Ytcbofebikbbknaa.P

namespace Go.Proofs.Ytcbofebikbbknaa.Pure
open Go.RowKit Go.Proofs.Ytcbofebikbbknaa.P Go.Proofs.YtcbofebikbbknaaW.PrintWords Go.Proofs.YtcbofebikbbknaaW.PrintLast
set_option linter.unusedVariables false
set_option linter.unusedSimpArgs false
theorem FnExactFlushPort : laws_FnExactFlushPort.Pure := by
 intro s b ⟨_, hm, _⟩ _
 refine Ev.rounds ?_
 unfold laws_FnExactFlushPort.f
 rw [szTable_is s.f0 s.f1 hm 1048576 (by omega) (by omega)]
 simp only [Option.bind_some]
 by_cases h : (1048576 : Int) - s.f1.length < 0
 ·simp only [if_pos h]
  exact Ev.now _
 ·have hl : s.f1.length ≤ 1048576 := by omega
  have hl2 : (s.f1.map cvSeen).length ≤ 1048576 := by simpa using hl
  have hr : (keptIf (flushC b) (fun y => y.f1 != b) s.f0 (s.f1.map cvSeen)).2.1.length ≤ 1048576 := Nat.le_trans (keptIf_len ..) hl2
  simp only [if_neg h]
  refine Ev.bind (toTable_ev s.f0 s.f1 hl) ?_
  refine Ev.bind (specFlush_ev s.f0 _ b hl2) ?_
  refine Ev.bind (toTable_ev s.f0 s.f1 hl) ?_
  refine Ev.bind (implFlush_ev s.f0 _ b hl2) ?_
  have hi := implFlush_ev s.f0 _ b hl2
  generalize keptIf (flushC b) (fun y => y.f1 != b) s.f0 (s.f1.map cvSeen) = r at hr hi
  refine Ev.bind (eqTable_ev _ _ (by omega)) ?_
  simp only [if_true, bne_self_eq_false]
  refine Ev.succ ?_
  simp only [laws_FnExactFlushPort.j0, Bool.false_eq_true, if_false]
  refine Ev.bind (toTable_ev s.f0 s.f1 hl) ?_
  refine Ev.bind (eqTable_ev _ _ (by omega)) ?_
  simp only [if_true]
  refine Ev.bind (markTable_ev _ _ 1 (by omega) (by omega) (by omega)) ?_
  simp only [if_neg (show ¬ (1 + 3 * ((s.f1.map cvSeen).length : Int)) < 0 by omega)]
  refine Ev.bind (eqTable_ev _ _ (by omega)) ?_
  simp only [if_true, bne_self_eq_false]
  refine Ev.succ ?_
  simp only [laws_FnExactFlushPort.j1, Bool.false_eq_true, if_false]
  refine Ev.bind (markTable_ev _ _ 1 (by omega) (by omega) (by omega)) ?_
  refine Ev.bind (heldTable_ev _ _ 1 (by omega) (by omega) (by omega)) ?_
  simp only [if_neg (show ¬ (1 + 3 * (r.2.1.length : Int)) < 0 by omega), if_true]
  refine Ev.bind (toTable_ev s.f0 s.f1 hl) ?_
  refine Ev.bind hi ?_
  refine Ev.bind (eqTable_ev _ _ (by omega)) ?_
  simp only [if_true, bne_self_eq_false]
  refine Ev.succ ?_
  simp only [laws_FnExactFlushPort.j2, Bool.false_eq_true, if_false]
  refine Ev.bind (heldTable_ev _ _ 1 (by omega) (by omega) (by omega)) ?_
  simp only [if_neg (show ¬ (1 + 3 * (r.2.1.length : Int)) < 0 by omega), if_true]
  exact Ev.now _
end Go.Proofs.Ytcbofebikbbknaa.Pure
