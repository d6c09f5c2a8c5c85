/- Functions, walks and plain lemmas that the law FnExactDropOld reaches, part 4. -/
import Derived.Test.YtcbofebikbbknaaCFnExactDropOld3
import Derived.WalkKit
import Derived.ProofKit
import Derived.OpenShut
import Derived.ChangeOld
import Derived.Below
import Derived.SizedLaws
import Derived.ChangeArms
import Derived.DataElems
import Derived.Deep.Draws
import Derived.Deep.AppendLies
import Derived.Maps.AppendAt
import Derived.OwnWalk
import Derived.Laws.BytesArg
import Derived.Laws.MakeOwn
import Derived.Laws.OwnMore
import Derived.Deep.OwnRows
import Derived.Tactics
import Derived.Lib.ConvBytes
import Derived.Laws.Slices
import Derived.KernelRfl
import Derived.RowKit3
import Derived.Deep.LoopGhost
import Derived.Deep.QuietTactic
import Derived.BigQuiet
import Derived.WideLaws
import Derived.Deep.DeepCutAuto
import Derived.Deep.CutBlock
import Derived.Deep.RegionHeld3
import Derived.Laws.Rows
import Derived.Lib.AppendStr
import Derived.ArgAppend
import Derived.Laws.IdiomCopy
import Derived.OrdersHeld
import Derived.Laws.BitsLemmas
import Derived.RowKit
import Derived.WalkSpells
import Derived.Lib.SliceRun
import Derived.Shelf.Abstract
import Derived.ShutString
namespace Go.Proofs.Ytcbofebikbbknaa.P
open Go.RowKit Go.Proofs.YtcbofebikbbknaaW.PrintWords Go.Proofs.YtcbofebikbbknaaW.PrintLast Go.Proofs.YtcbofebikbbknaaW.PrintMore
attribute [local go_sem] max2_int min2_int max_two min_two max_three min_three max_four min_four   -- for this text's walks alone
set_option linter.unusedVariables false
set_option linter.unusedSimpArgs false
mutual
def laws_FnExactDropOld.j0 : Nat → Int → Int → Bool → Bool → Bool → Int → List (S51) → Int → List (S53) → Int → List (S53) → Int → List (S53) → Option (Bool)
 | 0, _, _, _, _, _, _, _, _, _, _, _, _, _ => none
 | k + 1, x1, x2, x9, x12, x48, x367000, x367001, x378000, x378001, x383000, x383001, x389000, x389001 => if x48 = true then (some false) else ((laws_toTable.f k x367000 x367001).bind fun bt390 => ((laws_eqTable.f k x383000 x383001 bt390.1 bt390.2).bind fun t394 => (if t394 = true then ((laws_markTable.f k x383000 x383001 1).bind fun bt395 => (if bt395.1 < 0 then (laws_FnExactDropOld.j1 k x1 x2 x9 true x367000 x367001 x378000 x378001 x389000 x389001) else ((laws_eqTable.f k x389000 x389001 x378000 x378001).bind fun t397 => (if t397 = true then (laws_FnExactDropOld.j1 k x1 x2 x9 (x12 != x9) x367000 x367001 x378000 x378001 x389000 x389001) else (laws_FnExactDropOld.j1 k x1 x2 x9 true x367000 x367001 x378000 x378001 x389000 x389001))))) else (some false))))
def laws_FnExactDropOld.j1 : Nat → Int → Int → Bool → Bool → Int → List (S51) → Int → List (S53) → Int → List (S53) → Option (Bool)
 | 0, _, _, _, _, _, _, _, _, _, _ => none
 | k + 1, x1, x2, x9, x69, x367000, x367001, x378000, x378001, x389000, x389001 => if x69 = true then (some false) else ((laws_markTable.f k x389000 x389001 1).bind fun bt398 => ((laws_heldTable.f k x389000 bt398.2 1).bind fun t400 => (if t400 < 0 then (some false) else (if t400 = bt398.1 then ((laws_toTable.f k x367000 x367001).bind fun bt401 => ((impl_DropOld.f k bt401.1 bt401.2 x1 x2).bind fun bt405 => ((laws_eqTable.f k bt405.1 bt405.2.1 x378000 x378001).bind fun t411 => (if t411 = true then (laws_FnExactDropOld.j2 k bt398.1 (bt405.2.2 != x9) x389000 bt398.2) else (laws_FnExactDropOld.j2 k bt398.1 true x389000 bt398.2))))) else (some false)))))
def laws_FnExactDropOld.j2 : Nat → Int → Bool → Int → List (S53) → Option (Bool)
 | 0, _, _, _, _ => none
 | k + 1, x14, x97, x389000, x389001 => if x97 = true then (some false) else ((laws_heldTable.f k x389000 x389001 1).bind fun t412 => (if t412 < 0 then (some false) else (if t412 = x14 then (some true) else (some false))))
end
def laws_FnExactDropOld.f (k : Nat) (a0_0 : Int) (l0_1 : List (S51)) (a1 : Int) (a2 : Int) : Option (Bool) := (laws_szTable.f a0_0 l0_1 1048576).bind fun t367 => (if t367 < 0 then (some true) else ((laws_toTable.f k a0_0 l0_1).bind fun bt368 => ((spec_DropOld.f k bt368.1 bt368.2 a1 a2).bind fun bt372 => ((laws_toTable.f k a0_0 l0_1).bind fun bt378 => ((impl_DropOld.f k bt378.1 bt378.2 a1 a2).bind fun bt383 => ((laws_eqTable.f k bt383.1 bt383.2.1 bt372.1 bt372.2.1).bind fun t389 => (if t389 = true then (laws_FnExactDropOld.j0 k a1 a2 bt372.2.2 bt383.2.2 (bt383.2.2 != bt372.2.2) a0_0 l0_1 bt372.1 bt372.2.1 bt378.1 bt378.2 bt383.1 bt383.2.1) else (laws_FnExactDropOld.j0 k a1 a2 bt372.2.2 bt383.2.2 true a0_0 l0_1 bt372.1 bt372.2.1 bt378.1 bt378.2 bt383.1 bt383.2.1))))))))
set_option maxHeartbeats 8000000 in
set_option maxRecDepth 100000 in
theorem laws_FnExactDropOld.calls (k : Nat) (a0_0 : Int) (A0_1 : Option Addr) (c0_1 : Nat) (l0_1 : List (S51)) (a1 : Int) (a2 : Int) (r : Bool) (w : World) (hr0_1 : Kd.C k51 w A0_1 l0_1.length l0_1) (hc0_1 : l0_1.length ≤ c0_1) (h : laws_FnExactDropOld.f k a0_0 l0_1 a1 a2 = some r) :
  Calls Try.prog 7 #[.agg #[.int .i64 a0_0, .slice A0_1 l0_1.length c0_1], .int .i64 a1, .int .i64 a2] w fun e w' => e = .returned (.bool r) ∧ Below w.heap.size w w' := by
 have hu32 := Try.underlying32
 have hu24 := Try.underlying24
 have HR0_1 := Aside0.mk hr0_1
 have HC0_1 := Aside0.mk hc0_1
 clear hr0_1 hc0_1
 have HB := Aside0.mk (Below.refl w.heap.size w)
 have H : ((laws_szTable.f a0_0 l0_1 1048576).bind fun t367 => (if t367 < 0 then (some true) else ((laws_toTable.f k a0_0 l0_1).bind fun bt368 => ((spec_DropOld.f k bt368.1 bt368.2 a1 a2).bind fun bt372 => ((laws_toTable.f k a0_0 l0_1).bind fun bt378 => ((impl_DropOld.f k bt378.1 bt378.2 a1 a2).bind fun bt383 => ((laws_eqTable.f k bt383.1 bt383.2.1 bt372.1 bt372.2.1).bind fun t389 => (if t389 = true then (laws_FnExactDropOld.j0 k a1 a2 bt372.2.2 bt383.2.2 (bt383.2.2 != bt372.2.2) a0_0 l0_1 bt372.1 bt372.2.1 bt378.1 bt378.2 bt383.1 bt383.2.1) else (laws_FnExactDropOld.j0 k a1 a2 bt372.2.2 bt383.2.2 true a0_0 l0_1 bt372.1 bt372.2.1 bt378.1 bt378.2 bt383.1 bt383.2.1))))))))) = some r := h
 clear h
 replace H := Option.bind_eq_some_iff.mp H
 obtain ⟨t367, A40, H⟩ := H
 replace H : (if t367 < 0 then (some true) else ((laws_toTable.f k a0_0 l0_1).bind fun bt368 => ((spec_DropOld.f k bt368.1 bt368.2 a1 a2).bind fun bt372 => ((laws_toTable.f k a0_0 l0_1).bind fun bt378 => ((impl_DropOld.f k bt378.1 bt378.2 a1 a2).bind fun bt383 => ((laws_eqTable.f k bt383.1 bt383.2.1 bt372.1 bt372.2.1).bind fun t389 => (if t389 = true then (laws_FnExactDropOld.j0 k a1 a2 bt372.2.2 bt383.2.2 (bt383.2.2 != bt372.2.2) a0_0 l0_1 bt372.1 bt372.2.1 bt378.1 bt378.2 bt383.1 bt383.2.1) else (laws_FnExactDropOld.j0 k a1 a2 bt372.2.2 bt383.2.2 true a0_0 l0_1 bt372.1 bt372.2.1 bt378.1 bt378.2 bt383.1 bt383.2.1)))))))) = some r := H
 have A4 := Aside0.mk A40
 clear A40
 by_cases c5 : t367 < 0
 ·rw [if_pos c5] at H
  have c5b0 : decide (t367 < 0) = true := decide_eq_true c5
  clear c5
  obtain rfl := Option.some.inj H
  go_enter Try.func7, Try.ntmps7
  go_wp2_with (first | ((with_reducible refine gate_dst (N := 3) rfl ?_); refine box_event ?hg (N := 3) ?hd (cs := #[.int .i64 a0_0, .slice A0_1 l0_1.length c0_1]) (t := 32) ?hr ?_; (case hd => rfl); (case hg => rfl); (case hr => first | (go_simp; done) | (go_simp; rfl)); intro gb366 hg w6 hbox hb; have n0_ := Aside0.mk (below_step (by repeat (first | (with_reducible first | exact HB.out | apply below_alloc | apply pw_below_drewN | apply below_drew1) | exact HB.out)) hb); have n1_ := Aside0.mk (hbox); have n2_ := Aside0.mk ((by rw [hg]; exact (below_size (by repeat (first | (with_reducible first | exact HB.out | apply below_alloc | apply pw_below_drewN | apply below_drew1) | exact HB.out))) : w.heap.size ≤ gb366)); have n3_ := Aside0.mk ((by rw [hg]; exact (below_size (by repeat (first | (with_reducible first | exact HB.out | apply below_alloc | apply pw_below_drewN | apply below_drew1) | exact HB.out))) : w.heap.size ≤ gb366)); clear HB; have HB := n0_; have BK366 := n1_; have GW366 := n2_; have GE366 := n3_; clear n0_ n1_ n2_ n3_; clear hb hbox hg; have hcz7_0 : w6.cell? ⟨gb366, 0, none⟩ = some (.int .i64 a0_0) := (blk_cell BK366.out 0).trans rfl; have hcz7_1 : w6.cell? ⟨gb366, 1, none⟩ = some (.slice A0_1 l0_1.length c0_1) := (blk_cell BK366.out 1).trans rfl; have hfz7_0 := blk_frozen BK366.out 0; have hfz7_1 := blk_frozen BK366.out 1) | ((with_reducible refine gate_callee (f := 17) rfl ?_); refine goesL_ (some 20) rfl rfl Try.func17 (by kernel_rfl) rfl #[.agg #[.int .i64 a0_0, .slice A0_1 l0_1.length c0_1], .int .i64 1048576] rfl (by (try simp only [List.map_toArray, List.map_cons, List.map_nil]); first | done | rfl | (simp only [List.length_drop, List.length_take]; rfl)) ?_; (with_reducible refine (laws_szTable.calls a0_0 _ _ l0_1 1048576 t367 _ ?side1 ?side2 A4.out).mono ?_); (case side1 => repeat (first | exact (Kd.C_below HR0_1.out HB.out) | (with_reducible refine Kd.C_alloc ?_ _) | (with_reducible refine Kd.C_drewN ?_ _) | (with_reducible refine Kd.C_drew ?_))); (case side2 => exact HC0_1.out); rintro e w8 ⟨rfl, hb⟩; refine ⟨_, rfl, ?_⟩; have n0_ := Aside0.mk (blk_below (g := gb366) (o := .cells #[.int .i64 a0_0, .slice A0_1 l0_1.length c0_1] 32 (0, 0)) (by (with_reducible repeat (first | refine blk_drewN ?_ _ | refine blk_drew ?_ | refine blk_alloc ?_ _)); exact BK366.out) hb); have n1_ := Aside0.mk (below_step (by repeat (first | (with_reducible first | exact HB.out | apply below_alloc | apply pw_below_drewN | apply below_drew1 | refine below_set ?_ GE366.out) | exact HB.out)) hb); clear BK366; clear HB; have BK366 := n0_; have HB := n1_; clear n0_ n1_; (try clear hb); (try clear hb2); (try clear hk); (try clear hi)))
  go_ret
  exact ⟨by first | rfl | (simp [errW_none, errW_some] <;> rfl) | (simp [*, errW_none, errW_some] <;> rfl), by repeat (first | (with_reducible first | exact HB.out | apply below_alloc | apply pw_below_drewN | apply below_drew1 | refine below_set ?_ GE366.out) | exact HB.out)⟩
 ·rw [if_neg c5] at H
  have c5b0 : decide (t367 < 0) = false := decide_eq_false c5
  clear c5
  replace H := Option.bind_eq_some_iff.mp H
  obtain ⟨⟨t368, t369⟩, A90, H⟩ := H
  replace H : ((spec_DropOld.f k t368 t369 a1 a2).bind fun bt372 => ((laws_toTable.f k a0_0 l0_1).bind fun bt378 => ((impl_DropOld.f k bt378.1 bt378.2 a1 a2).bind fun bt383 => ((laws_eqTable.f k bt383.1 bt383.2.1 bt372.1 bt372.2.1).bind fun t389 => (if t389 = true then (laws_FnExactDropOld.j0 k a1 a2 bt372.2.2 bt383.2.2 (bt383.2.2 != bt372.2.2) a0_0 l0_1 bt372.1 bt372.2.1 bt378.1 bt378.2 bt383.1 bt383.2.1) else (laws_FnExactDropOld.j0 k a1 a2 bt372.2.2 bt383.2.2 true a0_0 l0_1 bt372.1 bt372.2.1 bt378.1 bt378.2 bt383.1 bt383.2.1)))))) = some r := H
  have A9 := Aside0.mk A90
  clear A90
  replace H := Option.bind_eq_some_iff.mp H
  obtain ⟨⟨t372, t373, t376⟩, A100, H⟩ := H
  replace H : ((laws_toTable.f k a0_0 l0_1).bind fun bt378 => ((impl_DropOld.f k bt378.1 bt378.2 a1 a2).bind fun bt383 => ((laws_eqTable.f k bt383.1 bt383.2.1 t372 t373).bind fun t389 => (if t389 = true then (laws_FnExactDropOld.j0 k a1 a2 t376 bt383.2.2 (bt383.2.2 != t376) a0_0 l0_1 t372 t373 bt378.1 bt378.2 bt383.1 bt383.2.1) else (laws_FnExactDropOld.j0 k a1 a2 t376 bt383.2.2 true a0_0 l0_1 t372 t373 bt378.1 bt378.2 bt383.1 bt383.2.1))))) = some r := H
  have A10 := Aside0.mk A100
  clear A100
  replace H := Option.bind_eq_some_iff.mp H
  obtain ⟨⟨t378, t379⟩, A110, H⟩ := H
  replace H : ((impl_DropOld.f k t378 t379 a1 a2).bind fun bt383 => ((laws_eqTable.f k bt383.1 bt383.2.1 t372 t373).bind fun t389 => (if t389 = true then (laws_FnExactDropOld.j0 k a1 a2 t376 bt383.2.2 (bt383.2.2 != t376) a0_0 l0_1 t372 t373 t378 t379 bt383.1 bt383.2.1) else (laws_FnExactDropOld.j0 k a1 a2 t376 bt383.2.2 true a0_0 l0_1 t372 t373 t378 t379 bt383.1 bt383.2.1)))) = some r := H
  have A11 := Aside0.mk A110
  clear A110
  replace H := Option.bind_eq_some_iff.mp H
  obtain ⟨⟨t383, t384, t387⟩, A120, H⟩ := H
  replace H : ((laws_eqTable.f k t383 t384 t372 t373).bind fun t389 => (if t389 = true then (laws_FnExactDropOld.j0 k a1 a2 t376 t387 (t387 != t376) a0_0 l0_1 t372 t373 t378 t379 t383 t384) else (laws_FnExactDropOld.j0 k a1 a2 t376 t387 true a0_0 l0_1 t372 t373 t378 t379 t383 t384))) = some r := H
  have A12 := Aside0.mk A120
  clear A120
  have HC13 := Aside0.mk H
  clear H
  go_enter Try.func7, Try.ntmps7
  go_upto_region 8 with (first | ((with_reducible refine gate_dst (N := 3) rfl ?_); refine box_event ?hg (N := 3) ?hd (cs := #[.int .i64 a0_0, .slice A0_1 l0_1.length c0_1]) (t := 32) ?hr ?_; (case hd => rfl); (case hg => rfl); (case hr => first | (go_simp; done) | (go_simp; rfl)); intro gb366 hg w14 hbox hb; have n0_ := Aside0.mk (below_step (by repeat (first | (with_reducible first | exact HB.out | apply below_alloc | apply pw_below_drewN | apply below_drew1) | exact HB.out)) hb); have n1_ := Aside0.mk (hbox); have n2_ := Aside0.mk ((by rw [hg]; exact (below_size (by repeat (first | (with_reducible first | exact HB.out | apply below_alloc | apply pw_below_drewN | apply below_drew1) | exact HB.out))) : w.heap.size ≤ gb366)); have n3_ := Aside0.mk ((by rw [hg]; exact (below_size (by repeat (first | (with_reducible first | exact HB.out | apply below_alloc | apply pw_below_drewN | apply below_drew1) | exact HB.out))) : w.heap.size ≤ gb366)); clear HB; have HB := n0_; have BK366 := n1_; have GW366 := n2_; have GE366 := n3_; clear n0_ n1_ n2_ n3_; clear hb hbox hg; have hcz15_0 : w14.cell? ⟨gb366, 0, none⟩ = some (.int .i64 a0_0) := (blk_cell BK366.out 0).trans rfl; have hcz15_1 : w14.cell? ⟨gb366, 1, none⟩ = some (.slice A0_1 l0_1.length c0_1) := (blk_cell BK366.out 1).trans rfl; have hfz15_0 := blk_frozen BK366.out 0; have hfz15_1 := blk_frozen BK366.out 1) | ((with_reducible refine gate_callee (f := 17) rfl ?_); refine goesL_ (some 20) rfl rfl Try.func17 (by kernel_rfl) rfl #[.agg #[.int .i64 a0_0, .slice A0_1 l0_1.length c0_1], .int .i64 1048576] rfl (by (try simp only [List.map_toArray, List.map_cons, List.map_nil]); first | done | rfl | (simp only [List.length_drop, List.length_take]; rfl)) ?_; (with_reducible refine (laws_szTable.calls a0_0 _ _ l0_1 1048576 t367 _ ?side1 ?side2 A4.out).mono ?_); (case side1 => repeat (first | exact (Kd.C_below HR0_1.out HB.out) | (with_reducible refine Kd.C_alloc ?_ _) | (with_reducible refine Kd.C_drewN ?_ _) | (with_reducible refine Kd.C_drew ?_))); (case side2 => exact HC0_1.out); rintro e w16 ⟨rfl, hb⟩; refine ⟨_, rfl, ?_⟩; have n0_ := Aside0.mk (blk_below (g := gb366) (o := .cells #[.int .i64 a0_0, .slice A0_1 l0_1.length c0_1] 32 (0, 0)) (by (with_reducible repeat (first | refine blk_drewN ?_ _ | refine blk_drew ?_ | refine blk_alloc ?_ _)); exact BK366.out) hb); have n1_ := Aside0.mk (below_step (by repeat (first | (with_reducible first | exact HB.out | apply below_alloc | apply pw_below_drewN | apply below_drew1 | refine below_set ?_ GE366.out) | exact HB.out)) hb); clear BK366; clear HB; have BK366 := n0_; have HB := n1_; clear n0_ n1_; (try clear hb); (try clear hb2); (try clear hk); (try clear hi); have hcz17_0 : w16.cell? ⟨gb366, 0, none⟩ = some (.int .i64 a0_0) := (blk_cell BK366.out 0).trans rfl; have hcz17_1 : w16.cell? ⟨gb366, 1, none⟩ = some (.slice A0_1 l0_1.length c0_1) := (blk_cell BK366.out 1).trans rfl; have hfz17_0 := blk_frozen BK366.out 0; have hfz17_1 := blk_frozen BK366.out 1) | ((with_reducible refine gate_callee (f := 19) rfl ?_); refine goesL_ (some 25) rfl rfl Try.func19 (by kernel_rfl) rfl #[.agg #[.int .i64 a0_0, .slice A0_1 l0_1.length c0_1]] rfl (by (try simp only [List.map_toArray, List.map_cons, List.map_nil]); first | done | rfl | (simp only [List.length_drop, List.length_take]; rfl)) ?_; (with_reducible refine (laws_toTable.calls k a0_0 _ _ l0_1 t368 t369 _ ?side1 ?side2 A9.out).mono ?_); (case side1 => repeat (first | exact (Kd.C_below HR0_1.out HB.out) | (with_reducible refine Kd.C_alloc ?_ _) | (with_reducible refine Kd.C_drewN ?_ _) | (with_reducible refine Kd.C_drew ?_))); (case side2 => exact HC0_1.out); rintro e w18 ⟨v370, rfl, ho0, hb⟩; refine ⟨_, rfl, ?_⟩; have n0_ := Aside0.mk (Kd.R_lower ho0 (below_size (by repeat (first | (with_reducible first | exact HB.out | apply below_alloc | apply pw_below_drewN | apply below_drew1 | refine below_set ?_ GE366.out) | exact HB.out)))); have n1_ := Aside0.mk (blk_below (g := gb366) (o := .cells #[.int .i64 a0_0, .slice A0_1 l0_1.length c0_1] 32 (0, 0)) (by (with_reducible repeat (first | refine blk_drewN ?_ _ | refine blk_drew ?_ | refine blk_alloc ?_ _)); exact BK366.out) hb); have n2_ := Aside0.mk (below_step (by repeat (first | (with_reducible first | exact HB.out | apply below_alloc | apply pw_below_drewN | apply below_drew1 | refine below_set ?_ GE366.out) | exact HB.out)) hb); clear BK366; clear HB; have HO371 := n0_; have BK366 := n1_; have HB := n2_; clear n0_ n1_ n2_; (try clear hb); (try clear hb2); (try clear hk); (try clear hi); (try clear ho0); obtain ⟨Ao19, co19, eo19⟩ := Kd.R_slice HO371.out; subst eo19) | ((with_reducible refine gate_callee (f := 28) rfl ?_); refine goesL_ (some 28) rfl rfl Try.func28 (by kernel_rfl) rfl #[.agg #[.int .i64 t368, .slice Ao19 t369.length co19], .int .i64 a1, .int .i64 a2] rfl (by (try simp only [List.map_toArray, List.map_cons, List.map_nil]); first | done | rfl | (simp only [List.length_drop, List.length_take]; rfl)) ?_; (with_reducible refine (spec_DropOld.calls k t368 _ _ t369 a1 a2 t372 t373 t376 _ ?side1 ?side2 A10.out).mono ?_); (case side1 => repeat (first | exact (Kd.R_reads' HO371.out).2.2 | (with_reducible refine Kd.C_alloc ?_ _) | (with_reducible refine Kd.C_drewN ?_ _) | (with_reducible refine Kd.C_drew ?_))); (case side2 => exact (Kd.R_reads' HO371.out).2.1); rintro e w20 ⟨v374, rfl, ho0, hb⟩; refine ⟨_, rfl, ?_⟩; have n0_ := Aside0.mk (Kd.R_elder' (by (with_reducible repeat (first | apply Kd.R_alloc | apply Kd.R_drewN | apply Kd.R_drew)); exact HO371.out) (Kd.R_base ho0) hb); have n1_ := Aside0.mk (Kd.R_lower (Kd.R_new' ho0 (Kd.R_lt (by (with_reducible repeat (first | apply Kd.R_alloc | apply Kd.R_drewN | apply Kd.R_drew)); exact HO371.out))) (below_size (by repeat (first | (with_reducible first | exact HB.out | apply below_alloc | apply pw_below_drewN | apply below_drew1 | refine below_set ?_ GE366.out) | exact HB.out)))); have n2_ := Aside0.mk (blk_below (g := gb366) (o := .cells #[.int .i64 a0_0, .slice A0_1 l0_1.length c0_1] 32 (0, 0)) (by (with_reducible repeat (first | refine blk_drewN ?_ _ | refine blk_drew ?_ | refine blk_alloc ?_ _)); exact BK366.out) hb); have n3_ := Aside0.mk (below_step (by repeat (first | (with_reducible first | exact HB.out | apply below_alloc | apply pw_below_drewN | apply below_drew1 | refine below_set ?_ GE366.out) | exact HB.out)) hb); clear HO371; clear BK366; clear HB; have HO371 := n0_; have HO375 := n1_; have BK366 := n2_; have HB := n3_; clear n0_ n1_ n2_ n3_; (try clear hb); (try clear hb2); (try clear hk); (try clear hi); (try clear ho0)) | ((with_reducible refine gate_dst (N := 8) rfl ?_); refine box_event ?hg (N := 8) ?hd (cs := #[.int .i64 0, .slice none 0 0]) (t := 24) ?hr ?_; (case hd => rfl); (case hg => rfl); (case hr => first | (go_simp; done) | (go_simp; rfl)); intro gb377 hg w21 hbox hb; have n0_ := Aside0.mk (Kd.R_below (by (with_reducible repeat (first | apply Kd.R_alloc | apply Kd.R_drewN | apply Kd.R_drew)); exact HO371.out) hb); have n1_ := Aside0.mk (Kd.R_below (by (with_reducible repeat (first | apply Kd.R_alloc | apply Kd.R_drewN | apply Kd.R_drew)); exact HO375.out) hb); have n2_ := Aside0.mk (blk_below (g := gb366) (o := .cells #[.int .i64 a0_0, .slice A0_1 l0_1.length c0_1] 32 (0, 0)) (by (with_reducible repeat (first | refine blk_drewN ?_ _ | refine blk_drew ?_ | refine blk_alloc ?_ _)); exact BK366.out) hb); have n3_ := Aside0.mk (below_step (by repeat (first | (with_reducible first | exact HB.out | apply below_alloc | apply pw_below_drewN | apply below_drew1 | refine below_set ?_ GE366.out) | exact HB.out)) hb); have n4_ := Aside0.mk (hbox); have n5_ := Aside0.mk ((by rw [hg]; exact (below_size (by repeat (first | (with_reducible first | exact HB.out | apply below_alloc | apply pw_below_drewN | apply below_drew1 | refine below_set ?_ GE366.out) | exact HB.out))) : w.heap.size ≤ gb377)); have n6_ := Aside0.mk ((by rw [hg]; exact (below_size (by repeat (first | (with_reducible first | exact HB.out | apply below_alloc | apply pw_below_drewN | apply below_drew1 | refine below_set ?_ GE366.out) | exact HB.out))) : w.heap.size ≤ gb377)); have n7_ := Aside0.mk ((by rw [hg]; exact Nat.ne_of_lt (blk_lt (g := gb366) (o := .cells #[.int .i64 a0_0, .slice A0_1 l0_1.length c0_1] 32 (0, 0)) (by (with_reducible repeat (first | refine blk_drewN ?_ _ | refine blk_drew ?_ | refine blk_alloc ?_ _)); exact BK366.out)) : gb366 ≠ gb377)); have n8_ := Aside0.mk ((by rw [hg]; exact Nat.ne_of_gt (blk_lt (g := gb366) (o := .cells #[.int .i64 a0_0, .slice A0_1 l0_1.length c0_1] 32 (0, 0)) (by (with_reducible repeat (first | refine blk_drewN ?_ _ | refine blk_drew ?_ | refine blk_alloc ?_ _)); exact BK366.out)) : gb377 ≠ gb366)); clear HO371; clear HO375; clear BK366; clear HB; have HO371 := n0_; have HO375 := n1_; have BK366 := n2_; have HB := n3_; have BK377 := n4_; have GW377 := n5_; have GE377 := n6_; have NB366_377 := n7_; have NB377_366 := n8_; clear n0_ n1_ n2_ n3_ n4_ n5_ n6_ n7_ n8_; clear hb hbox hg; have hnb22 := NB377_366.out; have hnc22 := NB366_377.out; have hcz23_0 : w21.cell? ⟨gb377, 0, none⟩ = some (.int .i64 0) := (blk_cell BK377.out 0).trans rfl; have hcz23_1 : w21.cell? ⟨gb377, 1, none⟩ = some (.slice none 0 0) := (blk_cell BK377.out 1).trans rfl; have hfz23_0 := blk_frozen BK377.out 0; have hfz23_1 := blk_frozen BK377.out 1; obtain ⟨Ao24, co24, eo24⟩ := Kd.R_slice HO375.out; subst eo24; have hcz25_0 : w21.cell? ⟨gb366, 0, none⟩ = some (.int .i64 a0_0) := (blk_cell BK366.out 0).trans rfl; have hcz25_1 : w21.cell? ⟨gb366, 1, none⟩ = some (.slice A0_1 l0_1.length c0_1) := (blk_cell BK366.out 1).trans rfl; have hfz25_0 := blk_frozen BK366.out 0; have hfz25_1 := blk_frozen BK366.out 1) | ((with_reducible refine gate_callee (f := 19) rfl ?_); refine goesL_ (some 32) rfl rfl Try.func19 (by kernel_rfl) rfl #[.agg #[.int .i64 a0_0, .slice A0_1 l0_1.length c0_1]] rfl (by (try simp only [List.map_toArray, List.map_cons, List.map_nil]); first | done | rfl | (simp only [List.length_drop, List.length_take]; rfl)) ?_; (with_reducible refine (laws_toTable.calls k a0_0 _ _ l0_1 t378 t379 _ ?side1 ?side2 A11.out).mono ?_); (case side1 => exact Kd.C_below HR0_1.out (by repeat (first | (with_reducible first | exact HB.out | apply below_alloc | apply pw_below_drewN | apply below_drew1 | refine below_set ?_ GE366.out | refine below_set ?_ GE377.out) | exact HB.out))); (case side2 => exact HC0_1.out); rintro e w26 ⟨v380, rfl, ho0, hb⟩; refine ⟨_, rfl, ?_⟩; have n0_ := Aside0.mk (Kd.R_elder' (by (with_reducible repeat (first | apply Kd.R_alloc | apply Kd.R_drewN | apply Kd.R_drew)); exact (Kd.R_mono (Kd.R_far (p := ⟨gb377, 1, none⟩) (Kd.R_far (p := ⟨gb377, 0, none⟩) (Kd.R_types HO371.out BK377.out (by decide)) (fun _ hk => hk.2) (.int .i64 t372)) (fun _ hk => hk.2) (.slice Ao24 t373.length co24)) (fun _ h_ => h_.1))) (Kd.R_base ho0) hb); have n1_ := Aside0.mk (Kd.R_elder' (by (with_reducible repeat (first | apply Kd.R_alloc | apply Kd.R_drewN | apply Kd.R_drew)); exact (Kd.R_mono (Kd.R_far (p := ⟨gb377, 1, none⟩) (Kd.R_far (p := ⟨gb377, 0, none⟩) (Kd.R_types HO375.out BK377.out (by decide)) (fun _ hk => hk.2) (.int .i64 t372)) (fun _ hk => hk.2) (.slice Ao24 t373.length co24)) (fun _ h_ => h_.1))) (Kd.R_base ho0) hb); have n2_ := Aside0.mk (Kd.R_lower (Kd.R_new' (Kd.R_new' ho0 (Kd.R_lt (by (with_reducible repeat (first | apply Kd.R_alloc | apply Kd.R_drewN | apply Kd.R_drew)); exact (Kd.R_mono (Kd.R_far (p := ⟨gb377, 1, none⟩) (Kd.R_far (p := ⟨gb377, 0, none⟩) (Kd.R_types HO371.out BK377.out (by decide)) (fun _ hk => hk.2) (.int .i64 t372)) (fun _ hk => hk.2) (.slice Ao24 t373.length co24)) (fun _ h_ => h_.1))))) (Kd.R_lt (by (with_reducible repeat (first | apply Kd.R_alloc | apply Kd.R_drewN | apply Kd.R_drew)); exact (Kd.R_mono (Kd.R_far (p := ⟨gb377, 1, none⟩) (Kd.R_far (p := ⟨gb377, 0, none⟩) (Kd.R_types HO375.out BK377.out (by decide)) (fun _ hk => hk.2) (.int .i64 t372)) (fun _ hk => hk.2) (.slice Ao24 t373.length co24)) (fun _ h_ => h_.1))))) (below_size (by repeat (first | (with_reducible first | exact HB.out | apply below_alloc | apply pw_below_drewN | apply below_drew1 | refine below_set ?_ GE366.out | refine below_set ?_ GE377.out) | exact HB.out)))); have n3_ := Aside0.mk (blk_below (g := gb366) (o := .cells #[.int .i64 a0_0, .slice A0_1 l0_1.length c0_1] 32 (0, 0)) (by (with_reducible repeat (first | refine blk_drewN ?_ _ | refine blk_drew ?_ | refine blk_alloc ?_ _)); refine blk_far ?_ NB366_377.out _; (with_reducible repeat (first | refine blk_drewN ?_ _ | refine blk_drew ?_ | refine blk_alloc ?_ _)); refine blk_far ?_ NB366_377.out _; (with_reducible repeat (first | refine blk_drewN ?_ _ | refine blk_drew ?_ | refine blk_alloc ?_ _)); exact BK366.out) hb); have n4_ := Aside0.mk (blk_below (g := gb377) (o := .cells #[.int .i64 t372, .slice Ao24 t373.length co24] 24 (0, 0)) (by (with_reducible repeat (first | refine blk_drewN ?_ _ | refine blk_drew ?_ | refine blk_alloc ?_ _)); refine blk_put (cs := #[.int .i64 t372, .slice none 0 0]) ?_ 1 _ rfl; (with_reducible repeat (first | refine blk_drewN ?_ _ | refine blk_drew ?_ | refine blk_alloc ?_ _)); refine blk_put (cs := #[.int .i64 0, .slice none 0 0]) ?_ 0 _ rfl; (with_reducible repeat (first | refine blk_drewN ?_ _ | refine blk_drew ?_ | refine blk_alloc ?_ _)); exact BK377.out) hb); have n5_ := Aside0.mk (below_step (by repeat (first | (with_reducible first | exact HB.out | apply below_alloc | apply pw_below_drewN | apply below_drew1 | refine below_set ?_ GE366.out | refine below_set ?_ GE377.out) | exact HB.out)) hb); clear HO371; clear HO375; clear BK366; clear BK377; clear HB; have HO371 := n0_; have HO375 := n1_; have HO381 := n2_; have BK366 := n3_; have BK377 := n4_; have HB := n5_; clear n0_ n1_ n2_ n3_ n4_ n5_; (try clear hb); (try clear hb2); (try clear hk); (try clear hi); (try clear ho0)) | ((with_reducible refine gate_dst (N := 10) rfl ?_); refine box_event ?hg (N := 10) ?hd (cs := #[.int .i64 0, .slice none 0 0]) (t := 24) ?hr ?_; (case hd => rfl); (case hg => rfl); (case hr => first | (go_simp; done) | (go_simp; rfl)); intro gb382 hg w27 hbox hb; have n0_ := Aside0.mk (Kd.R_below (by (with_reducible repeat (first | apply Kd.R_alloc | apply Kd.R_drewN | apply Kd.R_drew)); exact HO371.out) hb); have n1_ := Aside0.mk (Kd.R_below (by (with_reducible repeat (first | apply Kd.R_alloc | apply Kd.R_drewN | apply Kd.R_drew)); exact HO375.out) hb); have n2_ := Aside0.mk (Kd.R_below (by (with_reducible repeat (first | apply Kd.R_alloc | apply Kd.R_drewN | apply Kd.R_drew)); exact HO381.out) hb); have n3_ := Aside0.mk (blk_below (g := gb366) (o := .cells #[.int .i64 a0_0, .slice A0_1 l0_1.length c0_1] 32 (0, 0)) (by (with_reducible repeat (first | refine blk_drewN ?_ _ | refine blk_drew ?_ | refine blk_alloc ?_ _)); exact BK366.out) hb); have n4_ := Aside0.mk (blk_below (g := gb377) (o := .cells #[.int .i64 t372, .slice Ao24 t373.length co24] 24 (0, 0)) (by (with_reducible repeat (first | refine blk_drewN ?_ _ | refine blk_drew ?_ | refine blk_alloc ?_ _)); exact BK377.out) hb); have n5_ := Aside0.mk (below_step (by repeat (first | (with_reducible first | exact HB.out | apply below_alloc | apply pw_below_drewN | apply below_drew1 | refine below_set ?_ GE366.out | refine below_set ?_ GE377.out) | exact HB.out)) hb); have n6_ := Aside0.mk (hbox); have n7_ := Aside0.mk ((by rw [hg]; exact (below_size (by repeat (first | (with_reducible first | exact HB.out | apply below_alloc | apply pw_below_drewN | apply below_drew1 | refine below_set ?_ GE366.out | refine below_set ?_ GE377.out) | exact HB.out))) : w.heap.size ≤ gb382)); have n8_ := Aside0.mk ((by rw [hg]; exact (below_size (by repeat (first | (with_reducible first | exact HB.out | apply below_alloc | apply pw_below_drewN | apply below_drew1 | refine below_set ?_ GE366.out | refine below_set ?_ GE377.out) | exact HB.out))) : w.heap.size ≤ gb382)); have n9_ := Aside0.mk ((by rw [hg]; exact Nat.ne_of_lt (blk_lt (g := gb366) (o := .cells #[.int .i64 a0_0, .slice A0_1 l0_1.length c0_1] 32 (0, 0)) (by (with_reducible repeat (first | refine blk_drewN ?_ _ | refine blk_drew ?_ | refine blk_alloc ?_ _)); exact BK366.out)) : gb366 ≠ gb382)); have n10_ := Aside0.mk ((by rw [hg]; exact Nat.ne_of_gt (blk_lt (g := gb366) (o := .cells #[.int .i64 a0_0, .slice A0_1 l0_1.length c0_1] 32 (0, 0)) (by (with_reducible repeat (first | refine blk_drewN ?_ _ | refine blk_drew ?_ | refine blk_alloc ?_ _)); exact BK366.out)) : gb382 ≠ gb366)); have n11_ := Aside0.mk ((by rw [hg]; exact Nat.ne_of_lt (blk_lt (g := gb377) (o := .cells #[.int .i64 t372, .slice Ao24 t373.length co24] 24 (0, 0)) (by (with_reducible repeat (first | refine blk_drewN ?_ _ | refine blk_drew ?_ | refine blk_alloc ?_ _)); exact BK377.out)) : gb377 ≠ gb382)); have n12_ := Aside0.mk ((by rw [hg]; exact Nat.ne_of_gt (blk_lt (g := gb377) (o := .cells #[.int .i64 t372, .slice Ao24 t373.length co24] 24 (0, 0)) (by (with_reducible repeat (first | refine blk_drewN ?_ _ | refine blk_drew ?_ | refine blk_alloc ?_ _)); exact BK377.out)) : gb382 ≠ gb377)); clear HO371; clear HO375; clear HO381; clear BK366; clear BK377; clear HB; have HO371 := n0_; have HO375 := n1_; have HO381 := n2_; have BK366 := n3_; have BK377 := n4_; have HB := n5_; have BK382 := n6_; have GW382 := n7_; have GE382 := n8_; have NB366_382 := n9_; have NB382_366 := n10_; have NB377_382 := n11_; have NB382_377 := n12_; clear n0_ n1_ n2_ n3_ n4_ n5_ n6_ n7_ n8_ n9_ n10_ n11_ n12_; clear hb hbox hg; have hnb28 := NB382_366.out; have hnc28 := NB366_382.out; have hnb29 := NB382_377.out; have hnc29 := NB377_382.out; have hcz30_0 : w27.cell? ⟨gb382, 0, none⟩ = some (.int .i64 0) := (blk_cell BK382.out 0).trans rfl; have hcz30_1 : w27.cell? ⟨gb382, 1, none⟩ = some (.slice none 0 0) := (blk_cell BK382.out 1).trans rfl; have hfz30_0 := blk_frozen BK382.out 0; have hfz30_1 := blk_frozen BK382.out 1; obtain ⟨Ao31, co31, eo31⟩ := Kd.R_slice HO381.out; subst eo31) | ((with_reducible refine gate_callee (f := 29) rfl ?_); refine goesL_ (some 37) rfl rfl Try.func29 (by kernel_rfl) rfl #[.agg #[.int .i64 t378, .slice Ao31 t379.length co31], .int .i64 a1, .int .i64 a2] rfl (by (try simp only [List.map_toArray, List.map_cons, List.map_nil]); first | done | rfl | (simp only [List.length_drop, List.length_take]; rfl)) ?_; (with_reducible refine (impl_DropOld.calls k t378 _ _ t379 a1 a2 t383 t384 t387 _ ?side1 ?side2 A12.out).mono ?_); (case side1 => refine (Kd.R_reads' (e := 53) (base := w.heap.size) (ok := fun k_ => ((True ∧ some k_ ≠ (.slice Ao19 t369.length co19 : Value).ownBlock) ∧ some k_ ≠ (.slice Ao24 t373.length co24 : Value).ownBlock)) (n := t379.length) (c := co31) ?_).2.2; exact (by (with_reducible repeat (first | apply Kd.R_alloc | apply Kd.R_drewN | apply Kd.R_drew)); exact (Kd.R_mono (Kd.R_far (p := ⟨gb382, 1, none⟩) (Kd.R_far (p := ⟨gb382, 0, none⟩) (Kd.R_types HO381.out BK382.out (by decide)) (fun _ hk => hk.2) (.int .i64 t378)) (fun _ hk => hk.2) (.slice Ao31 t379.length co31)) (fun _ h_ => h_.1)))); (case side2 => exact (Kd.R_reads' HO381.out).2.1); rintro e w32 ⟨v385, rfl, ho0, hb⟩; refine ⟨_, rfl, ?_⟩; have n0_ := Aside0.mk (Kd.R_elder' (by (with_reducible repeat (first | apply Kd.R_alloc | apply Kd.R_drewN | apply Kd.R_drew)); exact (Kd.R_mono (Kd.R_far (p := ⟨gb382, 1, none⟩) (Kd.R_far (p := ⟨gb382, 0, none⟩) (Kd.R_types HO371.out BK382.out (by decide)) (fun _ hk => hk.2) (.int .i64 t378)) (fun _ hk => hk.2) (.slice Ao31 t379.length co31)) (fun _ h_ => h_.1))) (Kd.R_base ho0) hb); have n1_ := Aside0.mk (Kd.R_elder' (by (with_reducible repeat (first | apply Kd.R_alloc | apply Kd.R_drewN | apply Kd.R_drew)); exact (Kd.R_mono (Kd.R_far (p := ⟨gb382, 1, none⟩) (Kd.R_far (p := ⟨gb382, 0, none⟩) (Kd.R_types HO375.out BK382.out (by decide)) (fun _ hk => hk.2) (.int .i64 t378)) (fun _ hk => hk.2) (.slice Ao31 t379.length co31)) (fun _ h_ => h_.1))) (Kd.R_base ho0) hb); have n2_ := Aside0.mk (Kd.R_elder' (by (with_reducible repeat (first | apply Kd.R_alloc | apply Kd.R_drewN | apply Kd.R_drew)); exact (Kd.R_mono (Kd.R_far (p := ⟨gb382, 1, none⟩) (Kd.R_far (p := ⟨gb382, 0, none⟩) (Kd.R_types HO381.out BK382.out (by decide)) (fun _ hk => hk.2) (.int .i64 t378)) (fun _ hk => hk.2) (.slice Ao31 t379.length co31)) (fun _ h_ => h_.1))) (Kd.R_base ho0) hb); have n3_ := Aside0.mk (Kd.R_lower (Kd.R_new' (Kd.R_new' (Kd.R_new' ho0 (Kd.R_lt (by (with_reducible repeat (first | apply Kd.R_alloc | apply Kd.R_drewN | apply Kd.R_drew)); exact (Kd.R_mono (Kd.R_far (p := ⟨gb382, 1, none⟩) (Kd.R_far (p := ⟨gb382, 0, none⟩) (Kd.R_types HO371.out BK382.out (by decide)) (fun _ hk => hk.2) (.int .i64 t378)) (fun _ hk => hk.2) (.slice Ao31 t379.length co31)) (fun _ h_ => h_.1))))) (Kd.R_lt (by (with_reducible repeat (first | apply Kd.R_alloc | apply Kd.R_drewN | apply Kd.R_drew)); exact (Kd.R_mono (Kd.R_far (p := ⟨gb382, 1, none⟩) (Kd.R_far (p := ⟨gb382, 0, none⟩) (Kd.R_types HO375.out BK382.out (by decide)) (fun _ hk => hk.2) (.int .i64 t378)) (fun _ hk => hk.2) (.slice Ao31 t379.length co31)) (fun _ h_ => h_.1))))) (Kd.R_lt (by (with_reducible repeat (first | apply Kd.R_alloc | apply Kd.R_drewN | apply Kd.R_drew)); exact (Kd.R_mono (Kd.R_far (p := ⟨gb382, 1, none⟩) (Kd.R_far (p := ⟨gb382, 0, none⟩) (Kd.R_types HO381.out BK382.out (by decide)) (fun _ hk => hk.2) (.int .i64 t378)) (fun _ hk => hk.2) (.slice Ao31 t379.length co31)) (fun _ h_ => h_.1))))) (below_size (by repeat (first | (with_reducible first | exact HB.out | apply below_alloc | apply pw_below_drewN | apply below_drew1 | refine below_set ?_ GE366.out | refine below_set ?_ GE377.out | refine below_set ?_ GE382.out) | exact HB.out)))); have n4_ := Aside0.mk (blk_below (g := gb366) (o := .cells #[.int .i64 a0_0, .slice A0_1 l0_1.length c0_1] 32 (0, 0)) (by (with_reducible repeat (first | refine blk_drewN ?_ _ | refine blk_drew ?_ | refine blk_alloc ?_ _)); refine blk_far ?_ NB366_382.out _; (with_reducible repeat (first | refine blk_drewN ?_ _ | refine blk_drew ?_ | refine blk_alloc ?_ _)); refine blk_far ?_ NB366_382.out _; (with_reducible repeat (first | refine blk_drewN ?_ _ | refine blk_drew ?_ | refine blk_alloc ?_ _)); exact BK366.out) hb); have n5_ := Aside0.mk (blk_below (g := gb377) (o := .cells #[.int .i64 t372, .slice Ao24 t373.length co24] 24 (0, 0)) (by (with_reducible repeat (first | refine blk_drewN ?_ _ | refine blk_drew ?_ | refine blk_alloc ?_ _)); refine blk_far ?_ NB377_382.out _; (with_reducible repeat (first | refine blk_drewN ?_ _ | refine blk_drew ?_ | refine blk_alloc ?_ _)); refine blk_far ?_ NB377_382.out _; (with_reducible repeat (first | refine blk_drewN ?_ _ | refine blk_drew ?_ | refine blk_alloc ?_ _)); exact BK377.out) hb); have n6_ := Aside0.mk (blk_below (g := gb382) (o := .cells #[.int .i64 t378, .slice Ao31 t379.length co31] 24 (0, 0)) (by (with_reducible repeat (first | refine blk_drewN ?_ _ | refine blk_drew ?_ | refine blk_alloc ?_ _)); refine blk_put (cs := #[.int .i64 t378, .slice none 0 0]) ?_ 1 _ rfl; (with_reducible repeat (first | refine blk_drewN ?_ _ | refine blk_drew ?_ | refine blk_alloc ?_ _)); refine blk_put (cs := #[.int .i64 0, .slice none 0 0]) ?_ 0 _ rfl; (with_reducible repeat (first | refine blk_drewN ?_ _ | refine blk_drew ?_ | refine blk_alloc ?_ _)); exact BK382.out) hb); have n7_ := Aside0.mk (below_step (by repeat (first | (with_reducible first | exact HB.out | apply below_alloc | apply pw_below_drewN | apply below_drew1 | refine below_set ?_ GE366.out | refine below_set ?_ GE377.out | refine below_set ?_ GE382.out) | exact HB.out)) hb); clear HO371; clear HO375; clear HO381; clear BK366; clear BK377; clear BK382; clear HB; have HO371 := n0_; have HO375 := n1_; have HO381 := n2_; have HO386 := n3_; have BK366 := n4_; have BK377 := n5_; have BK382 := n6_; have HB := n7_; clear n0_ n1_ n2_ n3_ n4_ n5_ n6_ n7_; (try clear hb); (try clear hb2); (try clear hk); (try clear hi); (try clear ho0)) | ((with_reducible refine gate_dst (N := 11) rfl ?_); refine box_event ?hg (N := 11) ?hd (cs := #[.int .i64 0, .slice none 0 0]) (t := 24) ?hr ?_; (case hd => rfl); (case hg => rfl); (case hr => first | (go_simp; done) | (go_simp; rfl)); intro gb388 hg w33 hbox hb; have n0_ := Aside0.mk (Kd.R_below (by (with_reducible repeat (first | apply Kd.R_alloc | apply Kd.R_drewN | apply Kd.R_drew)); exact HO371.out) hb); have n1_ := Aside0.mk (Kd.R_below (by (with_reducible repeat (first | apply Kd.R_alloc | apply Kd.R_drewN | apply Kd.R_drew)); exact HO375.out) hb); have n2_ := Aside0.mk (Kd.R_below (by (with_reducible repeat (first | apply Kd.R_alloc | apply Kd.R_drewN | apply Kd.R_drew)); exact HO381.out) hb); have n3_ := Aside0.mk (Kd.R_below (by (with_reducible repeat (first | apply Kd.R_alloc | apply Kd.R_drewN | apply Kd.R_drew)); exact HO386.out) hb); have n4_ := Aside0.mk (blk_below (g := gb366) (o := .cells #[.int .i64 a0_0, .slice A0_1 l0_1.length c0_1] 32 (0, 0)) (by (with_reducible repeat (first | refine blk_drewN ?_ _ | refine blk_drew ?_ | refine blk_alloc ?_ _)); exact BK366.out) hb); have n5_ := Aside0.mk (blk_below (g := gb377) (o := .cells #[.int .i64 t372, .slice Ao24 t373.length co24] 24 (0, 0)) (by (with_reducible repeat (first | refine blk_drewN ?_ _ | refine blk_drew ?_ | refine blk_alloc ?_ _)); exact BK377.out) hb); have n6_ := Aside0.mk (blk_below (g := gb382) (o := .cells #[.int .i64 t378, .slice Ao31 t379.length co31] 24 (0, 0)) (by (with_reducible repeat (first | refine blk_drewN ?_ _ | refine blk_drew ?_ | refine blk_alloc ?_ _)); exact BK382.out) hb); have n7_ := Aside0.mk (below_step (by repeat (first | (with_reducible first | exact HB.out | apply below_alloc | apply pw_below_drewN | apply below_drew1 | refine below_set ?_ GE366.out | refine below_set ?_ GE377.out | refine below_set ?_ GE382.out) | exact HB.out)) hb); have n8_ := Aside0.mk (hbox); have n9_ := Aside0.mk ((by rw [hg]; exact (below_size (by repeat (first | (with_reducible first | exact HB.out | apply below_alloc | apply pw_below_drewN | apply below_drew1 | refine below_set ?_ GE366.out | refine below_set ?_ GE377.out | refine below_set ?_ GE382.out) | exact HB.out))) : w.heap.size ≤ gb388)); have n10_ := Aside0.mk ((by rw [hg]; exact (below_size (by repeat (first | (with_reducible first | exact HB.out | apply below_alloc | apply pw_below_drewN | apply below_drew1 | refine below_set ?_ GE366.out | refine below_set ?_ GE377.out | refine below_set ?_ GE382.out) | exact HB.out))) : w.heap.size ≤ gb388)); have n11_ := Aside0.mk ((by rw [hg]; exact Nat.ne_of_lt (blk_lt (g := gb366) (o := .cells #[.int .i64 a0_0, .slice A0_1 l0_1.length c0_1] 32 (0, 0)) (by (with_reducible repeat (first | refine blk_drewN ?_ _ | refine blk_drew ?_ | refine blk_alloc ?_ _)); exact BK366.out)) : gb366 ≠ gb388)); have n12_ := Aside0.mk ((by rw [hg]; exact Nat.ne_of_gt (blk_lt (g := gb366) (o := .cells #[.int .i64 a0_0, .slice A0_1 l0_1.length c0_1] 32 (0, 0)) (by (with_reducible repeat (first | refine blk_drewN ?_ _ | refine blk_drew ?_ | refine blk_alloc ?_ _)); exact BK366.out)) : gb388 ≠ gb366)); have n13_ := Aside0.mk ((by rw [hg]; exact Nat.ne_of_lt (blk_lt (g := gb377) (o := .cells #[.int .i64 t372, .slice Ao24 t373.length co24] 24 (0, 0)) (by (with_reducible repeat (first | refine blk_drewN ?_ _ | refine blk_drew ?_ | refine blk_alloc ?_ _)); exact BK377.out)) : gb377 ≠ gb388)); have n14_ := Aside0.mk ((by rw [hg]; exact Nat.ne_of_gt (blk_lt (g := gb377) (o := .cells #[.int .i64 t372, .slice Ao24 t373.length co24] 24 (0, 0)) (by (with_reducible repeat (first | refine blk_drewN ?_ _ | refine blk_drew ?_ | refine blk_alloc ?_ _)); exact BK377.out)) : gb388 ≠ gb377)); have n15_ := Aside0.mk ((by rw [hg]; exact Nat.ne_of_lt (blk_lt (g := gb382) (o := .cells #[.int .i64 t378, .slice Ao31 t379.length co31] 24 (0, 0)) (by (with_reducible repeat (first | refine blk_drewN ?_ _ | refine blk_drew ?_ | refine blk_alloc ?_ _)); exact BK382.out)) : gb382 ≠ gb388)); have n16_ := Aside0.mk ((by rw [hg]; exact Nat.ne_of_gt (blk_lt (g := gb382) (o := .cells #[.int .i64 t378, .slice Ao31 t379.length co31] 24 (0, 0)) (by (with_reducible repeat (first | refine blk_drewN ?_ _ | refine blk_drew ?_ | refine blk_alloc ?_ _)); exact BK382.out)) : gb388 ≠ gb382)); clear HO371; clear HO375; clear HO381; clear HO386; clear BK366; clear BK377; clear BK382; clear HB; have HO371 := n0_; have HO375 := n1_; have HO381 := n2_; have HO386 := n3_; have BK366 := n4_; have BK377 := n5_; have BK382 := n6_; have HB := n7_; have BK388 := n8_; have GW388 := n9_; have GE388 := n10_; have NB366_388 := n11_; have NB388_366 := n12_; have NB377_388 := n13_; have NB388_377 := n14_; have NB382_388 := n15_; have NB388_382 := n16_; clear n0_ n1_ n2_ n3_ n4_ n5_ n6_ n7_ n8_ n9_ n10_ n11_ n12_ n13_ n14_ n15_ n16_; clear hb hbox hg; have hnb34 := NB388_366.out; have hnc34 := NB366_388.out; have hnb35 := NB388_377.out; have hnc35 := NB377_388.out; have hnb36 := NB388_382.out; have hnc36 := NB382_388.out; have hcz37_0 : w33.cell? ⟨gb388, 0, none⟩ = some (.int .i64 0) := (blk_cell BK388.out 0).trans rfl; have hcz37_1 : w33.cell? ⟨gb388, 1, none⟩ = some (.slice none 0 0) := (blk_cell BK388.out 1).trans rfl; have hfz37_0 := blk_frozen BK388.out 0; have hfz37_1 := blk_frozen BK388.out 1; obtain ⟨Ao38, co38, eo38⟩ := Kd.R_slice HO386.out; subst eo38))
  (try simp only [Act.put, List.setIfInBounds_toArray, List.set_cons_zero, List.set_cons_succ])
  go_cut [48] (fun v48 wc => ∃ (kq : Nat) (x48_12 : Bool), v48 = .bool x48_12 ∧ Aside0 (laws_FnExactDropOld.j0 kq a1 a2 t376 t387 x48_12 a0_0 l0_1 t372 t373 t378 t379 t383 t384 = some r) ∧ Aside0 (kq ≤ k) ∧ Aside0 (Kd.R k53 53 wc w.heap.size (fun k_ => some k_ ≠ ((.slice Ao31 t379.length co31) : Value).ownBlock ∧ some k_ ≠ ((.slice Ao38 t384.length co38) : Value).ownBlock) (.slice Ao24 t373.length co24) t373) ∧ Aside0 (Kd.R k53 53 wc w.heap.size (fun k_ => some k_ ≠ ((.slice Ao24 t373.length co24) : Value).ownBlock ∧ some k_ ≠ ((.slice Ao38 t384.length co38) : Value).ownBlock) (.slice Ao31 t379.length co31) t379) ∧ Aside0 (Kd.R k53 53 wc w.heap.size (fun k_ => some k_ ≠ ((.slice Ao24 t373.length co24) : Value).ownBlock ∧ some k_ ≠ ((.slice Ao31 t379.length co31) : Value).ownBlock) (.slice Ao38 t384.length co38) t384) ∧ Aside0 (wc.heap[gb366]? = some (.cells #[.int .i64 a0_0, (.slice A0_1 l0_1.length c0_1)] 32 (0, 0))) ∧ Aside0 (wc.heap[gb377]? = some (.cells #[.int .i64 t372, (.slice Ao24 t373.length co24)] 24 (0, 0))) ∧ Aside0 (wc.heap[gb382]? = some (.cells #[.int .i64 t378, (.slice Ao31 t379.length co31)] 24 (0, 0))) ∧ Aside0 (wc.heap[gb388]? = some (.cells #[.int .i64 t383, (.slice Ao38 t384.length co38)] 24 (0, 0))) ∧ Aside0 (Below w.heap.size w wc))
  case first =>
   have H := HC13.out
   clear HC13
   replace H := Option.bind_eq_some_iff.mp H
   obtain ⟨t389, A390, H⟩ := H
   replace H : (if t389 = true then (laws_FnExactDropOld.j0 k a1 a2 t376 t387 (t387 != t376) a0_0 l0_1 t372 t373 t378 t379 t383 t384) else (laws_FnExactDropOld.j0 k a1 a2 t376 t387 true a0_0 l0_1 t372 t373 t378 t379 t383 t384)) = some r := H
   have A39 := Aside0.mk A390
   clear A390
   by_cases c40 : t389 = true
   ·subst c40
    have H1 : (laws_FnExactDropOld.j0 k a1 a2 t376 t387 (t387 != t376) a0_0 l0_1 t372 t373 t378 t379 t383 t384) = some r := by rw [if_pos rfl] at H; exact H
    clear H
    have H := H1
    clear H1
    have H' := Aside0.mk H
    clear H
    have hnb41 := NB388_366.out
    have hnc41 := NB366_388.out
    have hnb42 := NB388_377.out
    have hnc42 := NB377_388.out
    have hnb43 := NB388_382.out
    have hnc43 := NB382_388.out
    have hcz44_0 : w33.cell? ⟨gb388, 0, none⟩ = some (.int .i64 0) := (blk_cell BK388.out 0).trans rfl
    have hcz44_1 : w33.cell? ⟨gb388, 1, none⟩ = some (.slice none 0 0) := (blk_cell BK388.out 1).trans rfl
    have hfz44_0 := blk_frozen BK388.out 0
    have hfz44_1 := blk_frozen BK388.out 1
    have hnb45 := NB377_366.out
    have hnc45 := NB366_377.out
    have hnb46 := NB377_382.out
    have hnc46 := NB382_377.out
    have hcz47_0 : w33.cell? ⟨gb377, 0, none⟩ = some (.int .i64 t372) := (blk_cell BK377.out 0).trans rfl
    have hcz47_1 : w33.cell? ⟨gb377, 1, none⟩ = some (.slice Ao24 t373.length co24) := (blk_cell BK377.out 1).trans rfl
    have hfz47_0 := blk_frozen BK377.out 0
    have hfz47_1 := blk_frozen BK377.out 1
    go_wp2_with (first | ((with_reducible refine gate_callee (f := 14) rfl ?_); refine goesL_ (some 42) rfl rfl Try.func14 (by kernel_rfl) rfl #[.agg #[.int .i64 t383, .slice Ao38 t384.length co38], .agg #[.int .i64 t372, .slice Ao24 t373.length co24]] rfl (by (try simp only [List.map_toArray, List.map_cons, List.map_nil]); first | done | rfl | (simp only [List.length_drop, List.length_take]; rfl)) ?_; (with_reducible refine (laws_eqTable.calls k t383 _ _ t384 t372 _ _ t373 true _ ?side1 ?side2 ?side3 ?side4 A39.out).mono ?_); (case side1 => refine (Kd.R_reads' (e := 53) (base := w.heap.size) (ok := fun k_ => (((True ∧ some k_ ≠ (.slice Ao19 t369.length co19 : Value).ownBlock) ∧ some k_ ≠ (.slice Ao24 t373.length co24 : Value).ownBlock) ∧ some k_ ≠ (.slice Ao31 t379.length co31 : Value).ownBlock)) (n := t384.length) (c := co38) ?_).2.2; exact (by (with_reducible repeat (first | apply Kd.R_alloc | apply Kd.R_drewN | apply Kd.R_drew)); exact (Kd.R_mono (Kd.R_far (p := ⟨gb388, 1, none⟩) (Kd.R_far (p := ⟨gb388, 0, none⟩) (Kd.R_types HO386.out BK388.out (by decide)) (fun _ hk => hk.2) (.int .i64 t383)) (fun _ hk => hk.2) (.slice Ao38 t384.length co38)) (fun _ h_ => h_.1)))); (case side2 => exact (Kd.R_reads' HO386.out).2.1); (case side3 => refine (Kd.R_reads' (e := 53) (base := w.heap.size) (ok := fun k_ => (((True ∧ some k_ ≠ (.slice Ao19 t369.length co19 : Value).ownBlock) ∧ some k_ ≠ (.slice Ao31 t379.length co31 : Value).ownBlock) ∧ some k_ ≠ (.slice Ao38 t384.length co38 : Value).ownBlock)) (n := t373.length) (c := co24) ?_).2.2; exact (by (with_reducible repeat (first | apply Kd.R_alloc | apply Kd.R_drewN | apply Kd.R_drew)); exact (Kd.R_mono (Kd.R_far (p := ⟨gb388, 1, none⟩) (Kd.R_far (p := ⟨gb388, 0, none⟩) (Kd.R_types HO375.out BK388.out (by decide)) (fun _ hk => hk.2) (.int .i64 t383)) (fun _ hk => hk.2) (.slice Ao38 t384.length co38)) (fun _ h_ => h_.1)))); (case side4 => exact (Kd.R_reads' HO375.out).2.1); rintro e w48 ⟨rfl, hb⟩; refine ⟨_, rfl, ?_⟩; have n0_ := Aside0.mk (Kd.R_below (by (with_reducible repeat (first | apply Kd.R_alloc | apply Kd.R_drewN | apply Kd.R_drew)); exact (Kd.R_mono (Kd.R_far (p := ⟨gb388, 1, none⟩) (Kd.R_far (p := ⟨gb388, 0, none⟩) (Kd.R_types HO371.out BK388.out (by decide)) (fun _ hk => hk.2) (.int .i64 t383)) (fun _ hk => hk.2) (.slice Ao38 t384.length co38)) (fun _ h_ => h_.1))) hb); have n1_ := Aside0.mk (Kd.R_below (by (with_reducible repeat (first | apply Kd.R_alloc | apply Kd.R_drewN | apply Kd.R_drew)); exact (Kd.R_mono (Kd.R_far (p := ⟨gb388, 1, none⟩) (Kd.R_far (p := ⟨gb388, 0, none⟩) (Kd.R_types HO375.out BK388.out (by decide)) (fun _ hk => hk.2) (.int .i64 t383)) (fun _ hk => hk.2) (.slice Ao38 t384.length co38)) (fun _ h_ => h_.1))) hb); have n2_ := Aside0.mk (Kd.R_below (by (with_reducible repeat (first | apply Kd.R_alloc | apply Kd.R_drewN | apply Kd.R_drew)); exact (Kd.R_mono (Kd.R_far (p := ⟨gb388, 1, none⟩) (Kd.R_far (p := ⟨gb388, 0, none⟩) (Kd.R_types HO381.out BK388.out (by decide)) (fun _ hk => hk.2) (.int .i64 t383)) (fun _ hk => hk.2) (.slice Ao38 t384.length co38)) (fun _ h_ => h_.1))) hb); have n3_ := Aside0.mk (Kd.R_below (by (with_reducible repeat (first | apply Kd.R_alloc | apply Kd.R_drewN | apply Kd.R_drew)); exact (Kd.R_mono (Kd.R_far (p := ⟨gb388, 1, none⟩) (Kd.R_far (p := ⟨gb388, 0, none⟩) (Kd.R_types HO386.out BK388.out (by decide)) (fun _ hk => hk.2) (.int .i64 t383)) (fun _ hk => hk.2) (.slice Ao38 t384.length co38)) (fun _ h_ => h_.1))) hb); have n4_ := Aside0.mk (blk_below (g := gb366) (o := .cells #[.int .i64 a0_0, .slice A0_1 l0_1.length c0_1] 32 (0, 0)) (by (with_reducible repeat (first | refine blk_drewN ?_ _ | refine blk_drew ?_ | refine blk_alloc ?_ _)); refine blk_far ?_ NB366_388.out _; (with_reducible repeat (first | refine blk_drewN ?_ _ | refine blk_drew ?_ | refine blk_alloc ?_ _)); refine blk_far ?_ NB366_388.out _; (with_reducible repeat (first | refine blk_drewN ?_ _ | refine blk_drew ?_ | refine blk_alloc ?_ _)); exact BK366.out) hb); have n5_ := Aside0.mk (blk_below (g := gb377) (o := .cells #[.int .i64 t372, .slice Ao24 t373.length co24] 24 (0, 0)) (by (with_reducible repeat (first | refine blk_drewN ?_ _ | refine blk_drew ?_ | refine blk_alloc ?_ _)); refine blk_far ?_ NB377_388.out _; (with_reducible repeat (first | refine blk_drewN ?_ _ | refine blk_drew ?_ | refine blk_alloc ?_ _)); refine blk_far ?_ NB377_388.out _; (with_reducible repeat (first | refine blk_drewN ?_ _ | refine blk_drew ?_ | refine blk_alloc ?_ _)); exact BK377.out) hb); have n6_ := Aside0.mk (blk_below (g := gb382) (o := .cells #[.int .i64 t378, .slice Ao31 t379.length co31] 24 (0, 0)) (by (with_reducible repeat (first | refine blk_drewN ?_ _ | refine blk_drew ?_ | refine blk_alloc ?_ _)); refine blk_far ?_ NB382_388.out _; (with_reducible repeat (first | refine blk_drewN ?_ _ | refine blk_drew ?_ | refine blk_alloc ?_ _)); refine blk_far ?_ NB382_388.out _; (with_reducible repeat (first | refine blk_drewN ?_ _ | refine blk_drew ?_ | refine blk_alloc ?_ _)); exact BK382.out) hb); have n7_ := Aside0.mk (blk_below (g := gb388) (o := .cells #[.int .i64 t383, .slice Ao38 t384.length co38] 24 (0, 0)) (by (with_reducible repeat (first | refine blk_drewN ?_ _ | refine blk_drew ?_ | refine blk_alloc ?_ _)); refine blk_put (cs := #[.int .i64 t383, .slice none 0 0]) ?_ 1 _ rfl; (with_reducible repeat (first | refine blk_drewN ?_ _ | refine blk_drew ?_ | refine blk_alloc ?_ _)); refine blk_put (cs := #[.int .i64 0, .slice none 0 0]) ?_ 0 _ rfl; (with_reducible repeat (first | refine blk_drewN ?_ _ | refine blk_drew ?_ | refine blk_alloc ?_ _)); exact BK388.out) hb); have n8_ := Aside0.mk (below_step (by repeat (first | (with_reducible first | exact HB.out | apply below_alloc | apply pw_below_drewN | apply below_drew1 | refine below_set ?_ GE366.out | refine below_set ?_ GE377.out | refine below_set ?_ GE382.out | refine below_set ?_ GE388.out) | exact HB.out)) hb); clear HO371; clear HO375; clear HO381; clear HO386; clear BK366; clear BK377; clear BK382; clear BK388; clear HB; have HO371 := n0_; have HO375 := n1_; have HO381 := n2_; have HO386 := n3_; have BK366 := n4_; have BK377 := n5_; have BK382 := n6_; have BK388 := n7_; have HB := n8_; clear n0_ n1_ n2_ n3_ n4_ n5_ n6_ n7_ n8_; (try clear hb); (try clear hb2); (try clear hk); (try clear hi)))
    go_meet
    case rel => exact ⟨_, ((t387 != t376)), (by first | rfl | (simp; done) | (simp [*]; done)), H', ⟨by first | omega | exact Nat.le_refl _⟩, ⟨by (with_reducible repeat (first | apply Kd.R_alloc | apply Kd.R_drewN | apply Kd.R_drew)); exact Kd.R_mono HO375.out (fun _ hk => ⟨hk.1.2, hk.2⟩)⟩, ⟨by (with_reducible repeat (first | apply Kd.R_alloc | apply Kd.R_drewN | apply Kd.R_drew)); exact Kd.R_mono HO381.out (fun _ hk => ⟨hk.1.2, hk.2⟩)⟩, ⟨by (with_reducible repeat (first | apply Kd.R_alloc | apply Kd.R_drewN | apply Kd.R_drew)); exact Kd.R_mono HO386.out (fun _ hk => ⟨hk.1.2, hk.2⟩)⟩, ⟨by (with_reducible repeat (first | refine blk_drewN ?_ _ | refine blk_drew ?_ | refine blk_alloc ?_ _)); exact BK366.out⟩, ⟨by (with_reducible repeat (first | refine blk_drewN ?_ _ | refine blk_drew ?_ | refine blk_alloc ?_ _)); exact BK377.out⟩, ⟨by (with_reducible repeat (first | refine blk_drewN ?_ _ | refine blk_drew ?_ | refine blk_alloc ?_ _)); exact BK382.out⟩, ⟨by (with_reducible repeat (first | refine blk_drewN ?_ _ | refine blk_drew ?_ | refine blk_alloc ?_ _)); exact BK388.out⟩, ⟨by repeat (first | (with_reducible first | exact HB.out | apply below_alloc | apply pw_below_drewN | apply below_drew1 | refine below_set ?_ GE366.out | refine below_set ?_ GE377.out | refine below_set ?_ GE382.out | refine below_set ?_ GE388.out) | exact HB.out)⟩⟩
   ·replace c40 := Bool.eq_false_iff.mpr c40
    subst c40
    have H1 : (laws_FnExactDropOld.j0 k a1 a2 t376 t387 true a0_0 l0_1 t372 t373 t378 t379 t383 t384) = some r := by rw [if_neg (show ¬ (false = true) by decide)] at H; exact H
    clear H
    have H := H1
    clear H1
    have H' := Aside0.mk H
    clear H
    have hnb49 := NB388_366.out
    have hnc49 := NB366_388.out
    have hnb50 := NB388_377.out
    have hnc50 := NB377_388.out
    have hnb51 := NB388_382.out
    have hnc51 := NB382_388.out
    have hcz52_0 : w33.cell? ⟨gb388, 0, none⟩ = some (.int .i64 0) := (blk_cell BK388.out 0).trans rfl
    have hcz52_1 : w33.cell? ⟨gb388, 1, none⟩ = some (.slice none 0 0) := (blk_cell BK388.out 1).trans rfl
    have hfz52_0 := blk_frozen BK388.out 0
    have hfz52_1 := blk_frozen BK388.out 1
    have hnb53 := NB377_366.out
    have hnc53 := NB366_377.out
    have hnb54 := NB377_382.out
    have hnc54 := NB382_377.out
    have hcz55_0 : w33.cell? ⟨gb377, 0, none⟩ = some (.int .i64 t372) := (blk_cell BK377.out 0).trans rfl
    have hcz55_1 : w33.cell? ⟨gb377, 1, none⟩ = some (.slice Ao24 t373.length co24) := (blk_cell BK377.out 1).trans rfl
    have hfz55_0 := blk_frozen BK377.out 0
    have hfz55_1 := blk_frozen BK377.out 1
    go_wp2_with (first | ((with_reducible refine gate_callee (f := 14) rfl ?_); refine goesL_ (some 42) rfl rfl Try.func14 (by kernel_rfl) rfl #[.agg #[.int .i64 t383, .slice Ao38 t384.length co38], .agg #[.int .i64 t372, .slice Ao24 t373.length co24]] rfl (by (try simp only [List.map_toArray, List.map_cons, List.map_nil]); first | done | rfl | (simp only [List.length_drop, List.length_take]; rfl)) ?_; (with_reducible refine (laws_eqTable.calls k t383 _ _ t384 t372 _ _ t373 false _ ?side1 ?side2 ?side3 ?side4 A39.out).mono ?_); (case side1 => refine (Kd.R_reads' (e := 53) (base := w.heap.size) (ok := fun k_ => (((True ∧ some k_ ≠ (.slice Ao19 t369.length co19 : Value).ownBlock) ∧ some k_ ≠ (.slice Ao24 t373.length co24 : Value).ownBlock) ∧ some k_ ≠ (.slice Ao31 t379.length co31 : Value).ownBlock)) (n := t384.length) (c := co38) ?_).2.2; exact (by (with_reducible repeat (first | apply Kd.R_alloc | apply Kd.R_drewN | apply Kd.R_drew)); exact (Kd.R_mono (Kd.R_far (p := ⟨gb388, 1, none⟩) (Kd.R_far (p := ⟨gb388, 0, none⟩) (Kd.R_types HO386.out BK388.out (by decide)) (fun _ hk => hk.2) (.int .i64 t383)) (fun _ hk => hk.2) (.slice Ao38 t384.length co38)) (fun _ h_ => h_.1)))); (case side2 => exact (Kd.R_reads' HO386.out).2.1); (case side3 => refine (Kd.R_reads' (e := 53) (base := w.heap.size) (ok := fun k_ => (((True ∧ some k_ ≠ (.slice Ao19 t369.length co19 : Value).ownBlock) ∧ some k_ ≠ (.slice Ao31 t379.length co31 : Value).ownBlock) ∧ some k_ ≠ (.slice Ao38 t384.length co38 : Value).ownBlock)) (n := t373.length) (c := co24) ?_).2.2; exact (by (with_reducible repeat (first | apply Kd.R_alloc | apply Kd.R_drewN | apply Kd.R_drew)); exact (Kd.R_mono (Kd.R_far (p := ⟨gb388, 1, none⟩) (Kd.R_far (p := ⟨gb388, 0, none⟩) (Kd.R_types HO375.out BK388.out (by decide)) (fun _ hk => hk.2) (.int .i64 t383)) (fun _ hk => hk.2) (.slice Ao38 t384.length co38)) (fun _ h_ => h_.1)))); (case side4 => exact (Kd.R_reads' HO375.out).2.1); rintro e w56 ⟨rfl, hb⟩; refine ⟨_, rfl, ?_⟩; have n0_ := Aside0.mk (Kd.R_below (by (with_reducible repeat (first | apply Kd.R_alloc | apply Kd.R_drewN | apply Kd.R_drew)); exact (Kd.R_mono (Kd.R_far (p := ⟨gb388, 1, none⟩) (Kd.R_far (p := ⟨gb388, 0, none⟩) (Kd.R_types HO371.out BK388.out (by decide)) (fun _ hk => hk.2) (.int .i64 t383)) (fun _ hk => hk.2) (.slice Ao38 t384.length co38)) (fun _ h_ => h_.1))) hb); have n1_ := Aside0.mk (Kd.R_below (by (with_reducible repeat (first | apply Kd.R_alloc | apply Kd.R_drewN | apply Kd.R_drew)); exact (Kd.R_mono (Kd.R_far (p := ⟨gb388, 1, none⟩) (Kd.R_far (p := ⟨gb388, 0, none⟩) (Kd.R_types HO375.out BK388.out (by decide)) (fun _ hk => hk.2) (.int .i64 t383)) (fun _ hk => hk.2) (.slice Ao38 t384.length co38)) (fun _ h_ => h_.1))) hb); have n2_ := Aside0.mk (Kd.R_below (by (with_reducible repeat (first | apply Kd.R_alloc | apply Kd.R_drewN | apply Kd.R_drew)); exact (Kd.R_mono (Kd.R_far (p := ⟨gb388, 1, none⟩) (Kd.R_far (p := ⟨gb388, 0, none⟩) (Kd.R_types HO381.out BK388.out (by decide)) (fun _ hk => hk.2) (.int .i64 t383)) (fun _ hk => hk.2) (.slice Ao38 t384.length co38)) (fun _ h_ => h_.1))) hb); have n3_ := Aside0.mk (Kd.R_below (by (with_reducible repeat (first | apply Kd.R_alloc | apply Kd.R_drewN | apply Kd.R_drew)); exact (Kd.R_mono (Kd.R_far (p := ⟨gb388, 1, none⟩) (Kd.R_far (p := ⟨gb388, 0, none⟩) (Kd.R_types HO386.out BK388.out (by decide)) (fun _ hk => hk.2) (.int .i64 t383)) (fun _ hk => hk.2) (.slice Ao38 t384.length co38)) (fun _ h_ => h_.1))) hb); have n4_ := Aside0.mk (blk_below (g := gb366) (o := .cells #[.int .i64 a0_0, .slice A0_1 l0_1.length c0_1] 32 (0, 0)) (by (with_reducible repeat (first | refine blk_drewN ?_ _ | refine blk_drew ?_ | refine blk_alloc ?_ _)); refine blk_far ?_ NB366_388.out _; (with_reducible repeat (first | refine blk_drewN ?_ _ | refine blk_drew ?_ | refine blk_alloc ?_ _)); refine blk_far ?_ NB366_388.out _; (with_reducible repeat (first | refine blk_drewN ?_ _ | refine blk_drew ?_ | refine blk_alloc ?_ _)); exact BK366.out) hb); have n5_ := Aside0.mk (blk_below (g := gb377) (o := .cells #[.int .i64 t372, .slice Ao24 t373.length co24] 24 (0, 0)) (by (with_reducible repeat (first | refine blk_drewN ?_ _ | refine blk_drew ?_ | refine blk_alloc ?_ _)); refine blk_far ?_ NB377_388.out _; (with_reducible repeat (first | refine blk_drewN ?_ _ | refine blk_drew ?_ | refine blk_alloc ?_ _)); refine blk_far ?_ NB377_388.out _; (with_reducible repeat (first | refine blk_drewN ?_ _ | refine blk_drew ?_ | refine blk_alloc ?_ _)); exact BK377.out) hb); have n6_ := Aside0.mk (blk_below (g := gb382) (o := .cells #[.int .i64 t378, .slice Ao31 t379.length co31] 24 (0, 0)) (by (with_reducible repeat (first | refine blk_drewN ?_ _ | refine blk_drew ?_ | refine blk_alloc ?_ _)); refine blk_far ?_ NB382_388.out _; (with_reducible repeat (first | refine blk_drewN ?_ _ | refine blk_drew ?_ | refine blk_alloc ?_ _)); refine blk_far ?_ NB382_388.out _; (with_reducible repeat (first | refine blk_drewN ?_ _ | refine blk_drew ?_ | refine blk_alloc ?_ _)); exact BK382.out) hb); have n7_ := Aside0.mk (blk_below (g := gb388) (o := .cells #[.int .i64 t383, .slice Ao38 t384.length co38] 24 (0, 0)) (by (with_reducible repeat (first | refine blk_drewN ?_ _ | refine blk_drew ?_ | refine blk_alloc ?_ _)); refine blk_put (cs := #[.int .i64 t383, .slice none 0 0]) ?_ 1 _ rfl; (with_reducible repeat (first | refine blk_drewN ?_ _ | refine blk_drew ?_ | refine blk_alloc ?_ _)); refine blk_put (cs := #[.int .i64 0, .slice none 0 0]) ?_ 0 _ rfl; (with_reducible repeat (first | refine blk_drewN ?_ _ | refine blk_drew ?_ | refine blk_alloc ?_ _)); exact BK388.out) hb); have n8_ := Aside0.mk (below_step (by repeat (first | (with_reducible first | exact HB.out | apply below_alloc | apply pw_below_drewN | apply below_drew1 | refine below_set ?_ GE366.out | refine below_set ?_ GE377.out | refine below_set ?_ GE382.out | refine below_set ?_ GE388.out) | exact HB.out)) hb); clear HO371; clear HO375; clear HO381; clear HO386; clear BK366; clear BK377; clear BK382; clear BK388; clear HB; have HO371 := n0_; have HO375 := n1_; have HO381 := n2_; have HO386 := n3_; have BK366 := n4_; have BK377 := n5_; have BK382 := n6_; have BK388 := n7_; have HB := n8_; clear n0_ n1_ n2_ n3_ n4_ n5_ n6_ n7_ n8_; (try clear hb); (try clear hb2); (try clear hk); (try clear hi)))
    go_meet
    case rel => exact ⟨_, (true), (by first | rfl | (simp; done) | (simp [*]; done)), H', ⟨by first | omega | exact Nat.le_refl _⟩, ⟨by (with_reducible repeat (first | apply Kd.R_alloc | apply Kd.R_drewN | apply Kd.R_drew)); exact Kd.R_mono HO375.out (fun _ hk => ⟨hk.1.2, hk.2⟩)⟩, ⟨by (with_reducible repeat (first | apply Kd.R_alloc | apply Kd.R_drewN | apply Kd.R_drew)); exact Kd.R_mono HO381.out (fun _ hk => ⟨hk.1.2, hk.2⟩)⟩, ⟨by (with_reducible repeat (first | apply Kd.R_alloc | apply Kd.R_drewN | apply Kd.R_drew)); exact Kd.R_mono HO386.out (fun _ hk => ⟨hk.1.2, hk.2⟩)⟩, ⟨by (with_reducible repeat (first | refine blk_drewN ?_ _ | refine blk_drew ?_ | refine blk_alloc ?_ _)); exact BK366.out⟩, ⟨by (with_reducible repeat (first | refine blk_drewN ?_ _ | refine blk_drew ?_ | refine blk_alloc ?_ _)); exact BK377.out⟩, ⟨by (with_reducible repeat (first | refine blk_drewN ?_ _ | refine blk_drew ?_ | refine blk_alloc ?_ _)); exact BK382.out⟩, ⟨by (with_reducible repeat (first | refine blk_drewN ?_ _ | refine blk_drew ?_ | refine blk_alloc ?_ _)); exact BK388.out⟩, ⟨by repeat (first | (with_reducible first | exact HB.out | apply below_alloc | apply pw_below_drewN | apply below_drew1 | refine below_set ?_ GE366.out | refine below_set ?_ GE377.out | refine below_set ?_ GE382.out | refine below_set ?_ GE388.out) | exact HB.out)⟩⟩
  case rest =>
   clear HC13
   try clear c1
   try clear c2
   try clear p2
   try clear c3
   try clear c4
   try clear c5
   try clear c5b0
   try clear c7
   try clear c14
   try clear c17
   try clear c19
   try clear c22
   try clear c28
   try clear c29
   try clear c34
   try clear c35
   try clear c36
   try clear c40
   try clear c41
   try clear c42
   try clear c43
   try clear c45
   try clear c46
   try clear c49
   try clear c50
   try clear c51
   try clear c53
   try clear c54
   try clear hcz15_0
   try clear hcz15_1
   try clear hcz17_0
   try clear hcz17_1
   try clear hcz23_0
   try clear hcz23_1
   try clear hcz25_0
   try clear hcz25_1
   try clear hcz30_0
   try clear hcz30_1
   try clear hcz37_0
   try clear hcz37_1
   try clear hcz44_0
   try clear hcz44_1
   try clear hcz47_0
   try clear hcz47_1
   try clear hcz52_0
   try clear hcz52_1
   try clear hcz55_0
   try clear hcz55_1
   try clear hcz7_0
   try clear hcz7_1
   try clear hfz15_0
   try clear hfz15_1
   try clear hfz17_0
   try clear hfz17_1
   try clear hfz23_0
   try clear hfz23_1
   try clear hfz25_0
   try clear hfz25_1
   try clear hfz30_0
   try clear hfz30_1
   try clear hfz37_0
   try clear hfz37_1
   try clear hfz44_0
   try clear hfz44_1
   try clear hfz47_0
   try clear hfz47_1
   try clear hfz52_0
   try clear hfz52_1
   try clear hfz55_0
   try clear hfz55_1
   try clear hfz7_0
   try clear hfz7_1
   obtain ⟨kq, x48_12, rfl, HA, HJ12, HO_378001, HO_383001, HO_389001, BK366, BK377, BK382, BK388, HB⟩ := hcut
   cases kq with
   | zero => exact absurd HA.out (by simp [laws_FnExactDropOld.j0])
   | succ kj12 =>
    have H := HA.out
    clear HA
    simp only [laws_FnExactDropOld.j0] at H
    by_cases c57 : x48_12 = true
    ·subst c57
     have H1 : (some false) = some r := by rw [if_pos rfl] at H; exact H
     clear H
     have H := H1
     clear H1
     obtain rfl := Option.some.inj H
     go_wp2
     go_ret
     exact ⟨by first | rfl | (simp [errW_none, errW_some] <;> rfl) | (simp [*, errW_none, errW_some] <;> rfl), by repeat (first | (with_reducible first | exact HB.out | apply below_alloc | apply pw_below_drewN | apply below_drew1 | refine below_set ?_ GE366.out | refine below_set ?_ GE377.out | refine below_set ?_ GE382.out | refine below_set ?_ GE388.out) | exact HB.out)⟩
    ·replace c57 := Bool.eq_false_iff.mpr c57
     subst c57
     have H1 : ((laws_toTable.f kj12 a0_0 l0_1).bind fun bt390 => ((laws_eqTable.f kj12 t378 t379 bt390.1 bt390.2).bind fun t394 => (if t394 = true then ((laws_markTable.f kj12 t378 t379 1).bind fun bt395 => (if bt395.1 < 0 then (laws_FnExactDropOld.j1 kj12 a1 a2 t376 true a0_0 l0_1 t372 t373 t383 t384) else ((laws_eqTable.f kj12 t383 t384 t372 t373).bind fun t397 => (if t397 = true then (laws_FnExactDropOld.j1 kj12 a1 a2 t376 (t387 != t376) a0_0 l0_1 t372 t373 t383 t384) else (laws_FnExactDropOld.j1 kj12 a1 a2 t376 true a0_0 l0_1 t372 t373 t383 t384))))) else (some false)))) = some r := by rw [if_neg (show ¬ (false = true) by decide)] at H; exact H
     clear H
     have H := H1
     clear H1
     replace H := Option.bind_eq_some_iff.mp H
     obtain ⟨⟨t390, t391⟩, A580, H⟩ := H
     replace H : ((laws_eqTable.f kj12 t378 t379 t390 t391).bind fun t394 => (if t394 = true then ((laws_markTable.f kj12 t378 t379 1).bind fun bt395 => (if bt395.1 < 0 then (laws_FnExactDropOld.j1 kj12 a1 a2 t376 true a0_0 l0_1 t372 t373 t383 t384) else ((laws_eqTable.f kj12 t383 t384 t372 t373).bind fun t397 => (if t397 = true then (laws_FnExactDropOld.j1 kj12 a1 a2 t376 (t387 != t376) a0_0 l0_1 t372 t373 t383 t384) else (laws_FnExactDropOld.j1 kj12 a1 a2 t376 true a0_0 l0_1 t372 t373 t383 t384))))) else (some false))) = some r := H
     have A58 := Aside0.mk A580
     clear A580
     replace H := Option.bind_eq_some_iff.mp H
     obtain ⟨t394, A590, H⟩ := H
     replace H : (if t394 = true then ((laws_markTable.f kj12 t378 t379 1).bind fun bt395 => (if bt395.1 < 0 then (laws_FnExactDropOld.j1 kj12 a1 a2 t376 true a0_0 l0_1 t372 t373 t383 t384) else ((laws_eqTable.f kj12 t383 t384 t372 t373).bind fun t397 => (if t397 = true then (laws_FnExactDropOld.j1 kj12 a1 a2 t376 (t387 != t376) a0_0 l0_1 t372 t373 t383 t384) else (laws_FnExactDropOld.j1 kj12 a1 a2 t376 true a0_0 l0_1 t372 t373 t383 t384))))) else (some false)) = some r := H
     have A59 := Aside0.mk A590
     clear A590
     by_cases c60 : t394 = true
     ·subst c60
      have H1 : ((laws_markTable.f kj12 t378 t379 1).bind fun bt395 => (if bt395.1 < 0 then (laws_FnExactDropOld.j1 kj12 a1 a2 t376 true a0_0 l0_1 t372 t373 t383 t384) else ((laws_eqTable.f kj12 t383 t384 t372 t373).bind fun t397 => (if t397 = true then (laws_FnExactDropOld.j1 kj12 a1 a2 t376 (t387 != t376) a0_0 l0_1 t372 t373 t383 t384) else (laws_FnExactDropOld.j1 kj12 a1 a2 t376 true a0_0 l0_1 t372 t373 t383 t384))))) = some r := by rw [if_pos rfl] at H; exact H
      clear H
      have H := H1
      clear H1
      replace H := Option.bind_eq_some_iff.mp H
      obtain ⟨⟨t395, t396⟩, A610, H⟩ := H
      replace H : (if t395 < 0 then (laws_FnExactDropOld.j1 kj12 a1 a2 t376 true a0_0 l0_1 t372 t373 t383 t384) else ((laws_eqTable.f kj12 t383 t384 t372 t373).bind fun t397 => (if t397 = true then (laws_FnExactDropOld.j1 kj12 a1 a2 t376 (t387 != t376) a0_0 l0_1 t372 t373 t383 t384) else (laws_FnExactDropOld.j1 kj12 a1 a2 t376 true a0_0 l0_1 t372 t373 t383 t384)))) = some r := H
      have A61 := Aside0.mk A610
      clear A610
      have HC62 := Aside0.mk H
      clear H
      try go_wp2
      have n0_ := Aside0.mk (Kd.R_drew HO_378001.out)
      have n1_ := Aside0.mk (Kd.R_drew HO_383001.out)
      have n2_ := Aside0.mk (Kd.R_drew HO_389001.out)
      have n3_ := Aside0.mk (blk_drew BK366.out)
      have n4_ := Aside0.mk (blk_drew BK377.out)
      have n5_ := Aside0.mk (blk_drew BK382.out)
      have n6_ := Aside0.mk (blk_drew BK388.out)
      have n7_ := Aside0.mk (below_drew1 HB.out)
      clear HO_378001
      clear HO_383001
      clear HO_389001
      clear BK366
      clear BK377
      clear BK382
      clear BK388
      clear HB
      have HO_378001 := n0_
      have HO_383001 := n1_
      have HO_389001 := n2_
      have BK366 := n3_
      have BK377 := n4_
      have BK382 := n5_
      have BK388 := n6_
      have HB := n7_
      clear n0_ n1_ n2_ n3_ n4_ n5_ n6_ n7_
      refine start_ (n := 5) (S := fun w' => w'.cell? ⟨gb382, 0, none⟩ = some (.int .i64 t378) ∧ w'.cell? ⟨gb382, 1, none⟩ = some (.slice Ao31 t379.length co31) ∧ w'.cell? ⟨gb366, 0, none⟩ = some (.int .i64 a0_0) ∧ w'.cell? ⟨gb366, 1, none⟩ = some (.slice A0_1 l0_1.length c0_1)) (ds := []) #[false, false, false, false, false] (by kernel_rfl) rfl rfl ⟨(blk_cell BK382.out 0).trans rfl, (blk_cell BK382.out 1).trans rfl, (blk_cell BK366.out 0).trans rfl, (blk_cell BK366.out 1).trans rfl⟩ (fun hHeld => ?_)
      generalize wc.drew = w63 at HO_378001 HO_383001 HO_389001 BK366 BK377 BK382 BK388 HB hHeld ⊢
      refine take_ (i := 0) (N := some 49) (v := ?_) (a' := ?_) #[true, false, false, false, false] rfl rfl (by kernel_rfl) (fun _ _ _ h => h) (Or.inl ⟨by rfl, ?_⟩) hHeld ?_ ?_
      rotate_left
      ·rintro w' ⟨s0, s1, s2, s3⟩
       go_simp
       with_reducible rfl
      rotate_left
      ·simp only [Act.put, List.setIfInBounds_toArray, List.set_cons_zero, List.set_cons_succ, i64_w, i32_w]
       rfl
      refine take_ (i := 1) (N := some 50) (v := ?_) (a' := ?_) #[true, true, false, false, false] rfl rfl (by kernel_rfl) (fun _ _ _ h => h) (Or.inl ⟨by rfl, ?_⟩) hHeld ?_ ?_
      rotate_left
      ·rintro w' ⟨s0, s1, s2, s3⟩
       go_simp
       with_reducible rfl
      rotate_left
      ·simp only [Act.put, List.setIfInBounds_toArray, List.set_cons_zero, List.set_cons_succ, i64_w, i32_w]
       rfl
      refine one_ (i := 2) (N := some 51) #[true, true, true, false, false] rfl rfl (by kernel_rfl) (by decide) (fun K hK => ?_)
      refine goes_ Try.func19 (by kernel_rfl) rfl #[.agg #[.int .i64 a0_0, .slice A0_1 l0_1.length c0_1]] (by rfl) rfl rfl (by (try simp only [List.map_toArray, List.map_cons, List.map_nil]); first | done | rfl | (simp only [List.length_drop, List.length_take]; rfl)) ?_
      with_reducible refine (laws_toTable.calls kj12 a0_0 _ _ l0_1 t390 t391 _ ?side1 ?side2 A58.out).mono ?_
      (case side1 => repeat (first | exact (Kd.C_below HR0_1.out HB.out) | (with_reducible refine Kd.C_alloc ?_ _) | (with_reducible refine Kd.C_drewN ?_ _) | (with_reducible refine Kd.C_drew ?_)))
      (case side2 => exact HC0_1.out)
      rintro e w64 ⟨v392, rfl, ho0, hb⟩
      refine ⟨_, rfl, ?_⟩
      have n0_ := Aside0.mk (Kd.R_elder' (by (with_reducible repeat (first | apply Kd.R_alloc | apply Kd.R_drewN | apply Kd.R_drew)); exact HO_378001.out) (Kd.R_base ho0) hb)
      have n1_ := Aside0.mk (Kd.R_elder' (by (with_reducible repeat (first | apply Kd.R_alloc | apply Kd.R_drewN | apply Kd.R_drew)); exact HO_383001.out) (Kd.R_base ho0) hb)
      have n2_ := Aside0.mk (Kd.R_elder' (by (with_reducible repeat (first | apply Kd.R_alloc | apply Kd.R_drewN | apply Kd.R_drew)); exact HO_389001.out) (Kd.R_base ho0) hb)
      have n3_ := Aside0.mk (Kd.R_lower (Kd.R_new' (Kd.R_new' (Kd.R_new' ho0 (Kd.R_lt (by (with_reducible repeat (first | apply Kd.R_alloc | apply Kd.R_drewN | apply Kd.R_drew)); exact HO_378001.out))) (Kd.R_lt (by (with_reducible repeat (first | apply Kd.R_alloc | apply Kd.R_drewN | apply Kd.R_drew)); exact HO_383001.out))) (Kd.R_lt (by (with_reducible repeat (first | apply Kd.R_alloc | apply Kd.R_drewN | apply Kd.R_drew)); exact HO_389001.out))) (below_size (by repeat (first | (with_reducible first | exact HB.out | apply below_alloc | apply pw_below_drewN | apply below_drew1 | refine below_set ?_ GE366.out | refine below_set ?_ GE377.out | refine below_set ?_ GE382.out | refine below_set ?_ GE388.out) | exact HB.out))))
      have n4_ := Aside0.mk (blk_below (g := gb366) (o := .cells #[.int .i64 a0_0, .slice A0_1 l0_1.length c0_1] 32 (0, 0)) (by (with_reducible repeat (first | refine blk_drewN ?_ _ | refine blk_drew ?_ | refine blk_alloc ?_ _)); exact BK366.out) hb)
      have n5_ := Aside0.mk (blk_below (g := gb377) (o := .cells #[.int .i64 t372, .slice Ao24 t373.length co24] 24 (0, 0)) (by (with_reducible repeat (first | refine blk_drewN ?_ _ | refine blk_drew ?_ | refine blk_alloc ?_ _)); exact BK377.out) hb)
      have n6_ := Aside0.mk (blk_below (g := gb382) (o := .cells #[.int .i64 t378, .slice Ao31 t379.length co31] 24 (0, 0)) (by (with_reducible repeat (first | refine blk_drewN ?_ _ | refine blk_drew ?_ | refine blk_alloc ?_ _)); exact BK382.out) hb)
      have n7_ := Aside0.mk (blk_below (g := gb388) (o := .cells #[.int .i64 t383, .slice Ao38 t384.length co38] 24 (0, 0)) (by (with_reducible repeat (first | refine blk_drewN ?_ _ | refine blk_drew ?_ | refine blk_alloc ?_ _)); exact BK388.out) hb)
      have n8_ := Aside0.mk (below_step (by repeat (first | (with_reducible first | exact HB.out | apply below_alloc | apply pw_below_drewN | apply below_drew1 | refine below_set ?_ GE366.out | refine below_set ?_ GE377.out | refine below_set ?_ GE382.out | refine below_set ?_ GE388.out) | exact HB.out)) hb)
      clear HO_378001
      clear HO_383001
      clear HO_389001
      clear BK366
      clear BK377
      clear BK382
      clear BK388
      clear HB
      have HO_378001 := n0_
      have HO_383001 := n1_
      have HO_389001 := n2_
      have HO393 := n3_
      have BK366 := n4_
      have BK377 := n5_
      have BK382 := n6_
      have BK388 := n7_
      have HB := n8_
      clear n0_ n1_ n2_ n3_ n4_ n5_ n6_ n7_ n8_
      (try clear hb)
      (try clear hb2)
      (try clear hk)
      (try clear hi)
      (try clear ho0)
      obtain ⟨Ao65, co65, eo65⟩ := Kd.R_slice HO393.out
      (first | subst eo65 | (injection eo65 with f1_ f2_ f3_; have f4_ := f1_.symm; have f5_ := f3_.symm; clear f1_ f2_ f3_; subst f4_; subst f5_))
      refine hK.out _ _ ⟨(blk_cell BK382.out 0).trans rfl, (blk_cell BK382.out 1).trans rfl, (blk_cell BK366.out 0).trans rfl, (blk_cell BK366.out 1).trans rfl⟩ (fun hHeld => ?_)
      clear hK K
      refine norm_ (a' := ?_) ?_ ?_
      rotate_left
      ·show Act.put _ (some 51) _ = _
       simp only [Act.put, List.setIfInBounds_toArray, List.set_cons_zero, List.set_cons_succ, i64_w, i32_w]
       rfl
      refine one_ (i := 3) (N := some 52) #[true, true, true, true, false] rfl rfl (by kernel_rfl) (by decide) (fun K hK => ?_)
      refine goes_ Try.func14 (by kernel_rfl) rfl #[.agg #[.int .i64 t378, .slice Ao31 t379.length co31], .agg #[.int .i64 t390, .slice Ao65 t391.length co65]] (by rfl) rfl rfl (by (try simp only [List.map_toArray, List.map_cons, List.map_nil]); first | done | rfl | (simp only [List.length_drop, List.length_take]; rfl)) ?_
      with_reducible refine (laws_eqTable.calls kj12 t378 _ _ t379 t390 _ _ t391 true _ ?side1 ?side2 ?side3 ?side4 A59.out).mono ?_
      (case side1 => repeat (first | exact (Kd.R_reads' HO_383001.out).2.2 | (with_reducible refine Kd.C_alloc ?_ _) | (with_reducible refine Kd.C_drewN ?_ _) | (with_reducible refine Kd.C_drew ?_)))
      (case side2 => exact (Kd.R_reads' HO_383001.out).2.1)
      (case side3 => repeat (first | exact (Kd.R_reads' HO393.out).2.2 | (with_reducible refine Kd.C_alloc ?_ _) | (with_reducible refine Kd.C_drewN ?_ _) | (with_reducible refine Kd.C_drew ?_)))
      (case side4 => exact (Kd.R_reads' HO393.out).2.1)
      rintro e w66 ⟨rfl, hb⟩
      refine ⟨_, rfl, ?_⟩
      have n0_ := Aside0.mk (Kd.R_below (by (with_reducible repeat (first | apply Kd.R_alloc | apply Kd.R_drewN | apply Kd.R_drew)); exact HO_378001.out) hb)
      have n1_ := Aside0.mk (Kd.R_below (by (with_reducible repeat (first | apply Kd.R_alloc | apply Kd.R_drewN | apply Kd.R_drew)); exact HO_383001.out) hb)
      have n2_ := Aside0.mk (Kd.R_below (by (with_reducible repeat (first | apply Kd.R_alloc | apply Kd.R_drewN | apply Kd.R_drew)); exact HO_389001.out) hb)
      have n3_ := Aside0.mk (Kd.R_below (by (with_reducible repeat (first | apply Kd.R_alloc | apply Kd.R_drewN | apply Kd.R_drew)); exact HO393.out) hb)
      have n4_ := Aside0.mk (blk_below (g := gb366) (o := .cells #[.int .i64 a0_0, .slice A0_1 l0_1.length c0_1] 32 (0, 0)) (by (with_reducible repeat (first | refine blk_drewN ?_ _ | refine blk_drew ?_ | refine blk_alloc ?_ _)); exact BK366.out) hb)
      have n5_ := Aside0.mk (blk_below (g := gb377) (o := .cells #[.int .i64 t372, .slice Ao24 t373.length co24] 24 (0, 0)) (by (with_reducible repeat (first | refine blk_drewN ?_ _ | refine blk_drew ?_ | refine blk_alloc ?_ _)); exact BK377.out) hb)
      have n6_ := Aside0.mk (blk_below (g := gb382) (o := .cells #[.int .i64 t378, .slice Ao31 t379.length co31] 24 (0, 0)) (by (with_reducible repeat (first | refine blk_drewN ?_ _ | refine blk_drew ?_ | refine blk_alloc ?_ _)); exact BK382.out) hb)
      have n7_ := Aside0.mk (blk_below (g := gb388) (o := .cells #[.int .i64 t383, .slice Ao38 t384.length co38] 24 (0, 0)) (by (with_reducible repeat (first | refine blk_drewN ?_ _ | refine blk_drew ?_ | refine blk_alloc ?_ _)); exact BK388.out) hb)
      have n8_ := Aside0.mk (below_step (by repeat (first | (with_reducible first | exact HB.out | apply below_alloc | apply pw_below_drewN | apply below_drew1 | refine below_set ?_ GE366.out | refine below_set ?_ GE377.out | refine below_set ?_ GE382.out | refine below_set ?_ GE388.out) | exact HB.out)) hb)
      clear HO_378001
      clear HO_383001
      clear HO_389001
      clear HO393
      clear BK366
      clear BK377
      clear BK382
      clear BK388
      clear HB
      have HO_378001 := n0_
      have HO_383001 := n1_
      have HO_389001 := n2_
      have HO393 := n3_
      have BK366 := n4_
      have BK377 := n5_
      have BK382 := n6_
      have BK388 := n7_
      have HB := n8_
      clear n0_ n1_ n2_ n3_ n4_ n5_ n6_ n7_ n8_
      (try clear hb)
      (try clear hb2)
      (try clear hk)
      (try clear hi)
      refine hK.out _ _ ⟨(blk_cell BK382.out 0).trans rfl, (blk_cell BK382.out 1).trans rfl, (blk_cell BK366.out 0).trans rfl, (blk_cell BK366.out 1).trans rfl⟩ (fun hHeld => ?_)
      clear hK K
      refine norm_ (a' := ?_) ?_ ?_
      rotate_left
      ·show Act.put _ (some 52) _ = _
       simp only [Act.put, List.setIfInBounds_toArray, List.set_cons_zero, List.set_cons_succ, i64_w, i32_w]
       rfl
      refine pure_ (i := 4) (N := some 53) (v := ?_) (a' := ?_) #[true, true, true, true, true] rfl rfl (by kernel_rfl) (fun _ _ _ h => h) (Or.inl ⟨by rfl, ?_⟩) ?_ ?_
      rotate_left
      ·intro w'
       go_simp
       with_reducible rfl
      rotate_left
      ·simp only [Act.put, List.setIfInBounds_toArray, List.set_cons_zero, List.set_cons_succ, i64_w, i32_w]
       rfl
      refine done_ (by kernel_rfl) ?_
      have hnb67 := NB382_366.out
      have hnc67 := NB366_382.out
      have hnb68 := NB382_377.out
      have hnc68 := NB377_382.out
      have hnb69 := NB382_388.out
      have hnc69 := NB388_382.out
      have hcz70_0 : w66.cell? ⟨gb382, 0, none⟩ = some (.int .i64 t378) := (blk_cell BK382.out 0).trans rfl
      have hcz70_1 : w66.cell? ⟨gb382, 1, none⟩ = some (.slice Ao31 t379.length co31) := (blk_cell BK382.out 1).trans rfl
      have hfz70_0 := blk_frozen BK382.out 0
      have hfz70_1 := blk_frozen BK382.out 1
      go_upto_region 14 with (first | ((with_reducible refine gate_callee (f := 15) rfl ?_); refine goesL_ (some 56) rfl rfl Try.func15 (by kernel_rfl) rfl #[.agg #[.int .i64 t378, .slice Ao31 t379.length co31], .int .i64 1] rfl (by (try simp only [List.map_toArray, List.map_cons, List.map_nil]); first | done | rfl | (simp only [List.length_drop, List.length_take]; rfl)) ?_; (with_reducible refine (laws_markTable.calls kj12 t378 (fun k_ => some k_ = (.slice Ao31 t379.length co31 : Value).ownBlock) (.slice Ao31 t379.length co31) t379 1 t395 t396 w _ ?side1 ?side2 A61.out).mono ?_); (case side1 => repeat (first | (with_reducible first | exact HB.out | apply below_alloc | apply pw_below_drewN | apply below_drew1 | refine below_set ?_ GE366.out | refine below_set ?_ GE377.out | refine below_set ?_ GE382.out | refine below_set ?_ GE388.out) | exact HB.out)); (case side2 => exact Kd.R_tight rfl HO_383001.out); rintro e w71 ⟨rfl, hy0, hb, hkp⟩; refine ⟨_, rfl, ?_⟩; have n0_ := Aside0.mk (Kd.R_mono (ok' := fun k_ => some k_ ≠ (.slice Ao31 t379.length co31 : Value).ownBlock ∧ some k_ ≠ (.slice Ao38 t384.length co38 : Value).ownBlock ∧ some k_ ≠ (.slice Ao65 t391.length co65 : Value).ownBlock) (Kd.R_keptB (HO_378001.out) hkp (fun k_ hk_ hs_ => (hk_.1.1) hs_)) (fun k_ hk_ => ⟨hk_.1.1.1, hk_.1.1.2, hk_.1.2⟩)); have n1_ := Aside0.mk (Kd.R_reok rfl hy0 (fun k_ e_ => HO_383001.out.1 k_ e_)); have n2_ := Aside0.mk (Kd.R_mono (ok' := fun k_ => some k_ ≠ (.slice Ao24 t373.length co24 : Value).ownBlock ∧ some k_ ≠ (.slice Ao31 t379.length co31 : Value).ownBlock ∧ some k_ ≠ (.slice Ao65 t391.length co65 : Value).ownBlock) (Kd.R_keptB (HO_389001.out) hkp (fun k_ hk_ hs_ => (hk_.1.2) hs_)) (fun k_ hk_ => ⟨hk_.1.1.1, hk_.1.1.2, hk_.1.2⟩)); have n3_ := Aside0.mk (blk_kept (by (with_reducible repeat (first | refine blk_drewN ?_ _ | refine blk_drew ?_ | refine blk_alloc ?_ _)); exact BK366.out) hkp (fun hs_ => (fun e_ => (Kd.R_ne HO_383001.out BK366.out (by decide)) e_) hs_)); have n4_ := Aside0.mk (blk_kept (by (with_reducible repeat (first | refine blk_drewN ?_ _ | refine blk_drew ?_ | refine blk_alloc ?_ _)); exact BK377.out) hkp (fun hs_ => (fun e_ => (Kd.R_ne HO_383001.out BK377.out (by decide)) e_) hs_)); have n5_ := Aside0.mk (blk_kept (by (with_reducible repeat (first | refine blk_drewN ?_ _ | refine blk_drew ?_ | refine blk_alloc ?_ _)); exact BK382.out) hkp (fun hs_ => (fun e_ => (Kd.R_ne HO_383001.out BK382.out (by decide)) e_) hs_)); have n6_ := Aside0.mk (blk_kept (by (with_reducible repeat (first | refine blk_drewN ?_ _ | refine blk_drew ?_ | refine blk_alloc ?_ _)); exact BK388.out) hkp (fun hs_ => (fun e_ => (Kd.R_ne HO_383001.out BK388.out (by decide)) e_) hs_)); have n7_ := Aside0.mk (Kd.R_mono (ok' := fun k_ => some k_ ≠ (.slice Ao24 t373.length co24 : Value).ownBlock ∧ some k_ ≠ (.slice Ao31 t379.length co31 : Value).ownBlock ∧ some k_ ≠ (.slice Ao38 t384.length co38 : Value).ownBlock) (Kd.R_keptB (HO393.out) hkp (fun k_ hk_ hs_ => (hk_.1.2) hs_)) (fun k_ hk_ => ⟨hk_.1.1.1.2, hk_.1.1.2, hk_.1.2⟩)); have n8_ := Aside0.mk (hb); clear HO_378001; clear HO_383001; clear HO_389001; clear BK366; clear BK377; clear BK382; clear BK388; clear HO393; clear HB; have HO_378001 := n0_; have HO_383001 := n1_; have HO_389001 := n2_; have BK366 := n3_; have BK377 := n4_; have BK382 := n5_; have BK388 := n6_; have HO393 := n7_; have HB := n8_; clear n0_ n1_ n2_ n3_ n4_ n5_ n6_ n7_ n8_; (try clear hb); (try clear hkp); (try clear hy0)))
      (try simp only [Act.put, List.setIfInBounds_toArray, List.set_cons_zero, List.set_cons_succ])
      go_cut [69] (fun v69 wc => ∃ (kq : Nat) (x69_61 : Bool), v69 = .bool x69_61 ∧ Aside0 (laws_FnExactDropOld.j1 kq a1 a2 t376 x69_61 a0_0 l0_1 t372 t373 t383 t384 = some r) ∧ Aside0 (kq ≤ kj12) ∧ Aside0 (Kd.R k53 53 wc w.heap.size (fun k_ => some k_ ≠ ((.slice Ao31 t379.length co31) : Value).ownBlock ∧ some k_ ≠ ((.slice Ao38 t384.length co38) : Value).ownBlock) (.slice Ao24 t373.length co24) t373) ∧ Aside0 (Kd.R k53 53 wc w.heap.size (fun k_ => some k_ ≠ ((.slice Ao24 t373.length co24) : Value).ownBlock ∧ some k_ ≠ ((.slice Ao38 t384.length co38) : Value).ownBlock) (.slice Ao31 t379.length co31) t396) ∧ Aside0 (Kd.R k53 53 wc w.heap.size (fun k_ => some k_ ≠ ((.slice Ao24 t373.length co24) : Value).ownBlock ∧ some k_ ≠ ((.slice Ao31 t379.length co31) : Value).ownBlock) (.slice Ao38 t384.length co38) t384) ∧ Aside0 (wc.heap[gb366]? = some (.cells #[.int .i64 a0_0, (.slice A0_1 l0_1.length c0_1)] 32 (0, 0))) ∧ Aside0 (wc.heap[gb377]? = some (.cells #[.int .i64 t372, (.slice Ao24 t373.length co24)] 24 (0, 0))) ∧ Aside0 (wc.heap[gb382]? = some (.cells #[.int .i64 t378, (.slice Ao31 t379.length co31)] 24 (0, 0))) ∧ Aside0 (wc.heap[gb388]? = some (.cells #[.int .i64 t383, (.slice Ao38 t384.length co38)] 24 (0, 0))) ∧ Aside0 (Below w.heap.size w wc))
      case first =>
       have H := HC62.out
       clear HC62
       by_cases c72 : t395 < 0
       ·rw [if_pos c72] at H
        have c72b0 : decide (t395 < 0) = true := decide_eq_true c72
        clear c72
        (first | rw [c72b0] | (simp only [i64_w, i32_w]; rw [c72b0]) | skip)
        have H' := Aside0.mk H
        clear H
        go_wp2
        go_meet
        case rel => exact ⟨_, (true), (by first | rfl | (simp; done) | (simp [*]; done)), H', ⟨by have := HJ12.out; first | omega | exact Nat.le_refl _⟩, ⟨by (with_reducible repeat (first | apply Kd.R_alloc | apply Kd.R_drewN | apply Kd.R_drew)); exact Kd.R_mono HO_378001.out (fun _ hk => ⟨hk.1, hk.2.1⟩)⟩, ⟨by (with_reducible repeat (first | apply Kd.R_alloc | apply Kd.R_drewN | apply Kd.R_drew)); exact Kd.R_mono HO_383001.out (fun _ hk => ⟨hk.1.1, hk.1.2⟩)⟩, ⟨by (with_reducible repeat (first | apply Kd.R_alloc | apply Kd.R_drewN | apply Kd.R_drew)); exact Kd.R_mono HO_389001.out (fun _ hk => ⟨hk.1, hk.2.1⟩)⟩, ⟨by (with_reducible repeat (first | refine blk_drewN ?_ _ | refine blk_drew ?_ | refine blk_alloc ?_ _)); exact BK366.out⟩, ⟨by (with_reducible repeat (first | refine blk_drewN ?_ _ | refine blk_drew ?_ | refine blk_alloc ?_ _)); exact BK377.out⟩, ⟨by (with_reducible repeat (first | refine blk_drewN ?_ _ | refine blk_drew ?_ | refine blk_alloc ?_ _)); exact BK382.out⟩, ⟨by (with_reducible repeat (first | refine blk_drewN ?_ _ | refine blk_drew ?_ | refine blk_alloc ?_ _)); exact BK388.out⟩, ⟨by repeat (first | (with_reducible first | exact HB.out | apply below_alloc | apply pw_below_drewN | apply below_drew1 | refine below_set ?_ GE366.out | refine below_set ?_ GE377.out | refine below_set ?_ GE382.out | refine below_set ?_ GE388.out) | exact HB.out)⟩⟩
       ·rw [if_neg c72] at H
        have c72b0 : decide (t395 < 0) = false := decide_eq_false c72
        clear c72
        (first | rw [c72b0] | (simp only [i64_w, i32_w]; rw [c72b0]) | skip)
        replace H := Option.bind_eq_some_iff.mp H
        obtain ⟨t397, A730, H⟩ := H
        replace H : (if t397 = true then (laws_FnExactDropOld.j1 kj12 a1 a2 t376 (t387 != t376) a0_0 l0_1 t372 t373 t383 t384) else (laws_FnExactDropOld.j1 kj12 a1 a2 t376 true a0_0 l0_1 t372 t373 t383 t384)) = some r := H
        have A73 := Aside0.mk A730
        clear A730
        by_cases c74 : t397 = true
        ·subst c74
         have H1 : (laws_FnExactDropOld.j1 kj12 a1 a2 t376 (t387 != t376) a0_0 l0_1 t372 t373 t383 t384) = some r := by rw [if_pos rfl] at H; exact H
         clear H
         have H := H1
         clear H1
         have H' := Aside0.mk H
         clear H
         have hnb75 := NB388_366.out
         have hnc75 := NB366_388.out
         have hnb76 := NB388_377.out
         have hnc76 := NB377_388.out
         have hnb77 := NB388_382.out
         have hnc77 := NB382_388.out
         have hcz78_0 : w71.cell? ⟨gb388, 0, none⟩ = some (.int .i64 t383) := (blk_cell BK388.out 0).trans rfl
         have hcz78_1 : w71.cell? ⟨gb388, 1, none⟩ = some (.slice Ao38 t384.length co38) := (blk_cell BK388.out 1).trans rfl
         have hfz78_0 := blk_frozen BK388.out 0
         have hfz78_1 := blk_frozen BK388.out 1
         have hnb79 := NB377_366.out
         have hnc79 := NB366_377.out
         have hnb80 := NB377_382.out
         have hnc80 := NB382_377.out
         have hcz81_0 : w71.cell? ⟨gb377, 0, none⟩ = some (.int .i64 t372) := (blk_cell BK377.out 0).trans rfl
         have hcz81_1 : w71.cell? ⟨gb377, 1, none⟩ = some (.slice Ao24 t373.length co24) := (blk_cell BK377.out 1).trans rfl
         have hfz81_0 := blk_frozen BK377.out 0
         have hfz81_1 := blk_frozen BK377.out 1
         go_wp2_with (first | (go_at_call 14; (with_reducible refine (laws_eqTable.calls kj12 t383 _ _ t384 t372 _ _ t373 true _ ?side1 ?side2 ?side3 ?side4 A73.out).mono ?_); (case side1 => repeat (first | exact (Kd.R_reads' HO_389001.out).2.2 | (with_reducible refine Kd.C_alloc ?_ _) | (with_reducible refine Kd.C_drewN ?_ _) | (with_reducible refine Kd.C_drew ?_))); (case side2 => exact (Kd.R_reads' HO_389001.out).2.1); (case side3 => repeat (first | exact (Kd.R_reads' HO_378001.out).2.2 | (with_reducible refine Kd.C_alloc ?_ _) | (with_reducible refine Kd.C_drewN ?_ _) | (with_reducible refine Kd.C_drew ?_))); (case side4 => exact (Kd.R_reads' HO_378001.out).2.1); rintro e w82 ⟨rfl, hb⟩; have n0_ := Aside0.mk (Kd.R_below (by (with_reducible repeat (first | apply Kd.R_alloc | apply Kd.R_drewN | apply Kd.R_drew)); exact HO_378001.out) hb); have n1_ := Aside0.mk (Kd.R_below (by (with_reducible repeat (first | apply Kd.R_alloc | apply Kd.R_drewN | apply Kd.R_drew)); exact HO_383001.out) hb); have n2_ := Aside0.mk (Kd.R_below (by (with_reducible repeat (first | apply Kd.R_alloc | apply Kd.R_drewN | apply Kd.R_drew)); exact HO_389001.out) hb); have n3_ := Aside0.mk (Kd.R_below (by (with_reducible repeat (first | apply Kd.R_alloc | apply Kd.R_drewN | apply Kd.R_drew)); exact HO393.out) hb); have n4_ := Aside0.mk (blk_below (g := gb366) (o := .cells #[.int .i64 a0_0, .slice A0_1 l0_1.length c0_1] 32 (0, 0)) (by (with_reducible repeat (first | refine blk_drewN ?_ _ | refine blk_drew ?_ | refine blk_alloc ?_ _)); exact BK366.out) hb); have n5_ := Aside0.mk (blk_below (g := gb377) (o := .cells #[.int .i64 t372, .slice Ao24 t373.length co24] 24 (0, 0)) (by (with_reducible repeat (first | refine blk_drewN ?_ _ | refine blk_drew ?_ | refine blk_alloc ?_ _)); exact BK377.out) hb); have n6_ := Aside0.mk (blk_below (g := gb382) (o := .cells #[.int .i64 t378, .slice Ao31 t379.length co31] 24 (0, 0)) (by (with_reducible repeat (first | refine blk_drewN ?_ _ | refine blk_drew ?_ | refine blk_alloc ?_ _)); exact BK382.out) hb); have n7_ := Aside0.mk (blk_below (g := gb388) (o := .cells #[.int .i64 t383, .slice Ao38 t384.length co38] 24 (0, 0)) (by (with_reducible repeat (first | refine blk_drewN ?_ _ | refine blk_drew ?_ | refine blk_alloc ?_ _)); exact BK388.out) hb); have n8_ := Aside0.mk (below_step (by repeat (first | (with_reducible first | exact HB.out | apply below_alloc | apply pw_below_drewN | apply below_drew1 | refine below_set ?_ GE366.out | refine below_set ?_ GE377.out | refine below_set ?_ GE382.out | refine below_set ?_ GE388.out) | exact HB.out)) hb); clear HO_378001; clear HO_383001; clear HO_389001; clear HO393; clear BK366; clear BK377; clear BK382; clear BK388; clear HB; have HO_378001 := n0_; have HO_383001 := n1_; have HO_389001 := n2_; have HO393 := n3_; have BK366 := n4_; have BK377 := n5_; have BK382 := n6_; have BK388 := n7_; have HB := n8_; clear n0_ n1_ n2_ n3_ n4_ n5_ n6_ n7_ n8_; (try clear hb); (try clear hb2); (try clear hk); (try clear hi)))
         go_meet
         case rel => exact ⟨_, ((t387 != t376)), (by first | rfl | (simp; done) | (simp [*]; done)), H', ⟨by have := HJ12.out; first | omega | exact Nat.le_refl _⟩, ⟨by (with_reducible repeat (first | apply Kd.R_alloc | apply Kd.R_drewN | apply Kd.R_drew)); exact Kd.R_mono HO_378001.out (fun _ hk => ⟨hk.1, hk.2.1⟩)⟩, ⟨by (with_reducible repeat (first | apply Kd.R_alloc | apply Kd.R_drewN | apply Kd.R_drew)); exact Kd.R_mono HO_383001.out (fun _ hk => ⟨hk.1.1, hk.1.2⟩)⟩, ⟨by (with_reducible repeat (first | apply Kd.R_alloc | apply Kd.R_drewN | apply Kd.R_drew)); exact Kd.R_mono HO_389001.out (fun _ hk => ⟨hk.1, hk.2.1⟩)⟩, ⟨by (with_reducible repeat (first | refine blk_drewN ?_ _ | refine blk_drew ?_ | refine blk_alloc ?_ _)); exact BK366.out⟩, ⟨by (with_reducible repeat (first | refine blk_drewN ?_ _ | refine blk_drew ?_ | refine blk_alloc ?_ _)); exact BK377.out⟩, ⟨by (with_reducible repeat (first | refine blk_drewN ?_ _ | refine blk_drew ?_ | refine blk_alloc ?_ _)); exact BK382.out⟩, ⟨by (with_reducible repeat (first | refine blk_drewN ?_ _ | refine blk_drew ?_ | refine blk_alloc ?_ _)); exact BK388.out⟩, ⟨by repeat (first | (with_reducible first | exact HB.out | apply below_alloc | apply pw_below_drewN | apply below_drew1 | refine below_set ?_ GE366.out | refine below_set ?_ GE377.out | refine below_set ?_ GE382.out | refine below_set ?_ GE388.out) | exact HB.out)⟩⟩
        ·replace c74 := Bool.eq_false_iff.mpr c74
         subst c74
         have H1 : (laws_FnExactDropOld.j1 kj12 a1 a2 t376 true a0_0 l0_1 t372 t373 t383 t384) = some r := by rw [if_neg (show ¬ (false = true) by decide)] at H; exact H
         clear H
         have H := H1
         clear H1
         have H' := Aside0.mk H
         clear H
         have hnb83 := NB388_366.out
         have hnc83 := NB366_388.out
         have hnb84 := NB388_377.out
         have hnc84 := NB377_388.out
         have hnb85 := NB388_382.out
         have hnc85 := NB382_388.out
         have hcz86_0 : w71.cell? ⟨gb388, 0, none⟩ = some (.int .i64 t383) := (blk_cell BK388.out 0).trans rfl
         have hcz86_1 : w71.cell? ⟨gb388, 1, none⟩ = some (.slice Ao38 t384.length co38) := (blk_cell BK388.out 1).trans rfl
         have hfz86_0 := blk_frozen BK388.out 0
         have hfz86_1 := blk_frozen BK388.out 1
         have hnb87 := NB377_366.out
         have hnc87 := NB366_377.out
         have hnb88 := NB377_382.out
         have hnc88 := NB382_377.out
         have hcz89_0 : w71.cell? ⟨gb377, 0, none⟩ = some (.int .i64 t372) := (blk_cell BK377.out 0).trans rfl
         have hcz89_1 : w71.cell? ⟨gb377, 1, none⟩ = some (.slice Ao24 t373.length co24) := (blk_cell BK377.out 1).trans rfl
         have hfz89_0 := blk_frozen BK377.out 0
         have hfz89_1 := blk_frozen BK377.out 1
         go_wp2_with (first | (go_at_call 14; (with_reducible refine (laws_eqTable.calls kj12 t383 _ _ t384 t372 _ _ t373 false _ ?side1 ?side2 ?side3 ?side4 A73.out).mono ?_); (case side1 => repeat (first | exact (Kd.R_reads' HO_389001.out).2.2 | (with_reducible refine Kd.C_alloc ?_ _) | (with_reducible refine Kd.C_drewN ?_ _) | (with_reducible refine Kd.C_drew ?_))); (case side2 => exact (Kd.R_reads' HO_389001.out).2.1); (case side3 => repeat (first | exact (Kd.R_reads' HO_378001.out).2.2 | (with_reducible refine Kd.C_alloc ?_ _) | (with_reducible refine Kd.C_drewN ?_ _) | (with_reducible refine Kd.C_drew ?_))); (case side4 => exact (Kd.R_reads' HO_378001.out).2.1); rintro e w90 ⟨rfl, hb⟩; have n0_ := Aside0.mk (Kd.R_below (by (with_reducible repeat (first | apply Kd.R_alloc | apply Kd.R_drewN | apply Kd.R_drew)); exact HO_378001.out) hb); have n1_ := Aside0.mk (Kd.R_below (by (with_reducible repeat (first | apply Kd.R_alloc | apply Kd.R_drewN | apply Kd.R_drew)); exact HO_383001.out) hb); have n2_ := Aside0.mk (Kd.R_below (by (with_reducible repeat (first | apply Kd.R_alloc | apply Kd.R_drewN | apply Kd.R_drew)); exact HO_389001.out) hb); have n3_ := Aside0.mk (Kd.R_below (by (with_reducible repeat (first | apply Kd.R_alloc | apply Kd.R_drewN | apply Kd.R_drew)); exact HO393.out) hb); have n4_ := Aside0.mk (blk_below (g := gb366) (o := .cells #[.int .i64 a0_0, .slice A0_1 l0_1.length c0_1] 32 (0, 0)) (by (with_reducible repeat (first | refine blk_drewN ?_ _ | refine blk_drew ?_ | refine blk_alloc ?_ _)); exact BK366.out) hb); have n5_ := Aside0.mk (blk_below (g := gb377) (o := .cells #[.int .i64 t372, .slice Ao24 t373.length co24] 24 (0, 0)) (by (with_reducible repeat (first | refine blk_drewN ?_ _ | refine blk_drew ?_ | refine blk_alloc ?_ _)); exact BK377.out) hb); have n6_ := Aside0.mk (blk_below (g := gb382) (o := .cells #[.int .i64 t378, .slice Ao31 t379.length co31] 24 (0, 0)) (by (with_reducible repeat (first | refine blk_drewN ?_ _ | refine blk_drew ?_ | refine blk_alloc ?_ _)); exact BK382.out) hb); have n7_ := Aside0.mk (blk_below (g := gb388) (o := .cells #[.int .i64 t383, .slice Ao38 t384.length co38] 24 (0, 0)) (by (with_reducible repeat (first | refine blk_drewN ?_ _ | refine blk_drew ?_ | refine blk_alloc ?_ _)); exact BK388.out) hb); have n8_ := Aside0.mk (below_step (by repeat (first | (with_reducible first | exact HB.out | apply below_alloc | apply pw_below_drewN | apply below_drew1 | refine below_set ?_ GE366.out | refine below_set ?_ GE377.out | refine below_set ?_ GE382.out | refine below_set ?_ GE388.out) | exact HB.out)) hb); clear HO_378001; clear HO_383001; clear HO_389001; clear HO393; clear BK366; clear BK377; clear BK382; clear BK388; clear HB; have HO_378001 := n0_; have HO_383001 := n1_; have HO_389001 := n2_; have HO393 := n3_; have BK366 := n4_; have BK377 := n5_; have BK382 := n6_; have BK388 := n7_; have HB := n8_; clear n0_ n1_ n2_ n3_ n4_ n5_ n6_ n7_ n8_; (try clear hb); (try clear hb2); (try clear hk); (try clear hi)))
         go_meet
         case rel => exact ⟨_, (true), (by first | rfl | (simp; done) | (simp [*]; done)), H', ⟨by have := HJ12.out; first | omega | exact Nat.le_refl _⟩, ⟨by (with_reducible repeat (first | apply Kd.R_alloc | apply Kd.R_drewN | apply Kd.R_drew)); exact Kd.R_mono HO_378001.out (fun _ hk => ⟨hk.1, hk.2.1⟩)⟩, ⟨by (with_reducible repeat (first | apply Kd.R_alloc | apply Kd.R_drewN | apply Kd.R_drew)); exact Kd.R_mono HO_383001.out (fun _ hk => ⟨hk.1.1, hk.1.2⟩)⟩, ⟨by (with_reducible repeat (first | apply Kd.R_alloc | apply Kd.R_drewN | apply Kd.R_drew)); exact Kd.R_mono HO_389001.out (fun _ hk => ⟨hk.1, hk.2.1⟩)⟩, ⟨by (with_reducible repeat (first | refine blk_drewN ?_ _ | refine blk_drew ?_ | refine blk_alloc ?_ _)); exact BK366.out⟩, ⟨by (with_reducible repeat (first | refine blk_drewN ?_ _ | refine blk_drew ?_ | refine blk_alloc ?_ _)); exact BK377.out⟩, ⟨by (with_reducible repeat (first | refine blk_drewN ?_ _ | refine blk_drew ?_ | refine blk_alloc ?_ _)); exact BK382.out⟩, ⟨by (with_reducible repeat (first | refine blk_drewN ?_ _ | refine blk_drew ?_ | refine blk_alloc ?_ _)); exact BK388.out⟩, ⟨by repeat (first | (with_reducible first | exact HB.out | apply below_alloc | apply pw_below_drewN | apply below_drew1 | refine below_set ?_ GE366.out | refine below_set ?_ GE377.out | refine below_set ?_ GE382.out | refine below_set ?_ GE388.out) | exact HB.out)⟩⟩
      case rest =>
       clear HC62
       try clear c1
       try clear c2
       try clear p2
       try clear c3
       try clear c4
       try clear c5
       try clear c5b0
       try clear c6
       try clear c7
       try clear c8
       try clear c14
       try clear c15
       try clear c17
       try clear c19
       try clear c22
       try clear c28
       try clear c29
       try clear c34
       try clear c35
       try clear c36
       try clear c40
       try clear c41
       try clear c42
       try clear c43
       try clear c45
       try clear c46
       try clear c49
       try clear c50
       try clear c51
       try clear c53
       try clear c54
       try clear c57
       try clear c60
       try clear c67
       try clear c68
       try clear c69
       try clear c72
       try clear c72b0
       try clear c74
       try clear c75
       try clear c76
       try clear c77
       try clear c79
       try clear c80
       try clear c83
       try clear c84
       try clear c85
       try clear c87
       try clear c88
       try clear hcz15_0
       try clear hcz15_1
       try clear hcz17_0
       try clear hcz17_1
       try clear hcz23_0
       try clear hcz23_1
       try clear hcz25_0
       try clear hcz25_1
       try clear hcz30_0
       try clear hcz30_1
       try clear hcz37_0
       try clear hcz37_1
       try clear hcz44_0
       try clear hcz44_1
       try clear hcz47_0
       try clear hcz47_1
       try clear hcz52_0
       try clear hcz52_1
       try clear hcz55_0
       try clear hcz55_1
       try clear hcz70_0
       try clear hcz70_1
       try clear hcz78_0
       try clear hcz78_1
       try clear hcz7_0
       try clear hcz7_1
       try clear hcz81_0
       try clear hcz81_1
       try clear hcz86_0
       try clear hcz86_1
       try clear hcz89_0
       try clear hcz89_1
       try clear hfz15_0
       try clear hfz15_1
       try clear hfz17_0
       try clear hfz17_1
       try clear hfz23_0
       try clear hfz23_1
       try clear hfz25_0
       try clear hfz25_1
       try clear hfz30_0
       try clear hfz30_1
       try clear hfz37_0
       try clear hfz37_1
       try clear hfz44_0
       try clear hfz44_1
       try clear hfz47_0
       try clear hfz47_1
       try clear hfz52_0
       try clear hfz52_1
       try clear hfz55_0
       try clear hfz55_1
       try clear hfz70_0
       try clear hfz70_1
       try clear hfz78_0
       try clear hfz78_1
       try clear hfz7_0
       try clear hfz7_1
       try clear hfz81_0
       try clear hfz81_1
       try clear hfz86_0
       try clear hfz86_1
       try clear hfz89_0
       try clear hfz89_1
       try clear p2
       obtain ⟨kq, x69_61, rfl, HA, HJ61, HO_378001, HO_383001, HO_389001, BK366, BK377, BK382, BK388, HB⟩ := hcut
       have hl383001_61 := (Kd.R_reads' HO_383001.out).1
       rw [hl383001_61] at HO_383001
       (try simp only [hl383001_61])
       (try simp only [hl383001_61] at BK366)
       (try simp only [hl383001_61] at BK377)
       (try simp only [hl383001_61] at BK382)
       (try simp only [hl383001_61] at BK388)
       (try simp only [hl383001_61] at HO_378001)
       (try simp only [hl383001_61] at HO_389001)
       cases kq with
       | zero => exact absurd HA.out (by simp [laws_FnExactDropOld.j1])
       | succ kj61 =>
        have H := HA.out
        clear HA
        simp only [laws_FnExactDropOld.j1] at H
        by_cases c91 : x69_61 = true
        ·subst c91
         have H1 : (some false) = some r := by rw [if_pos rfl] at H; exact H
         clear H
         have H := H1
         clear H1
         obtain rfl := Option.some.inj H
         go_wp2
         go_ret
         exact ⟨by first | rfl | (simp [errW_none, errW_some] <;> rfl) | (simp [*, errW_none, errW_some] <;> rfl), by repeat (first | (with_reducible first | exact HB.out | apply below_alloc | apply pw_below_drewN | apply below_drew1 | refine below_set ?_ GE366.out | refine below_set ?_ GE377.out | refine below_set ?_ GE382.out | refine below_set ?_ GE388.out) | exact HB.out)⟩
        ·replace c91 := Bool.eq_false_iff.mpr c91
         subst c91
         have H1 : ((laws_markTable.f kj61 t383 t384 1).bind fun bt398 => ((laws_heldTable.f kj61 t383 bt398.2 1).bind fun t400 => (if t400 < 0 then (some false) else (if t400 = bt398.1 then ((laws_toTable.f kj61 a0_0 l0_1).bind fun bt401 => ((impl_DropOld.f kj61 bt401.1 bt401.2 a1 a2).bind fun bt405 => ((laws_eqTable.f kj61 bt405.1 bt405.2.1 t372 t373).bind fun t411 => (if t411 = true then (laws_FnExactDropOld.j2 kj61 bt398.1 (bt405.2.2 != t376) t383 bt398.2) else (laws_FnExactDropOld.j2 kj61 bt398.1 true t383 bt398.2))))) else (some false))))) = some r := by rw [if_neg (show ¬ (false = true) by decide)] at H; exact H
         clear H
         have H := H1
         clear H1
         replace H := Option.bind_eq_some_iff.mp H
         obtain ⟨⟨t398, t399⟩, A920, H⟩ := H
         replace H : ((laws_heldTable.f kj61 t383 t399 1).bind fun t400 => (if t400 < 0 then (some false) else (if t400 = t398 then ((laws_toTable.f kj61 a0_0 l0_1).bind fun bt401 => ((impl_DropOld.f kj61 bt401.1 bt401.2 a1 a2).bind fun bt405 => ((laws_eqTable.f kj61 bt405.1 bt405.2.1 t372 t373).bind fun t411 => (if t411 = true then (laws_FnExactDropOld.j2 kj61 t398 (bt405.2.2 != t376) t383 t399) else (laws_FnExactDropOld.j2 kj61 t398 true t383 t399))))) else (some false)))) = some r := H
         have A92 := Aside0.mk A920
         clear A920
         replace H := Option.bind_eq_some_iff.mp H
         obtain ⟨t400, A930, H⟩ := H
         replace H : (if t400 < 0 then (some false) else (if t400 = t398 then ((laws_toTable.f kj61 a0_0 l0_1).bind fun bt401 => ((impl_DropOld.f kj61 bt401.1 bt401.2 a1 a2).bind fun bt405 => ((laws_eqTable.f kj61 bt405.1 bt405.2.1 t372 t373).bind fun t411 => (if t411 = true then (laws_FnExactDropOld.j2 kj61 t398 (bt405.2.2 != t376) t383 t399) else (laws_FnExactDropOld.j2 kj61 t398 true t383 t399))))) else (some false))) = some r := H
         have A93 := Aside0.mk A930
         clear A930
         by_cases c94 : t400 < 0
         ·rw [if_pos c94] at H
          have c94b0 : decide (t400 < 0) = true := decide_eq_true c94
          clear c94
          obtain rfl := Option.some.inj H
          have hnb95 := NB388_366.out
          have hnc95 := NB366_388.out
          have hnb96 := NB388_377.out
          have hnc96 := NB377_388.out
          have hnb97 := NB388_382.out
          have hnc97 := NB382_388.out
          have hcz98_0 : wc.cell? ⟨gb388, 0, none⟩ = some (.int .i64 t383) := (blk_cell BK388.out 0).trans rfl
          have hcz98_1 : wc.cell? ⟨gb388, 1, none⟩ = some (.slice Ao38 t384.length co38) := (blk_cell BK388.out 1).trans rfl
          have hfz98_0 := blk_frozen BK388.out 0
          have hfz98_1 := blk_frozen BK388.out 1
          go_wp2_with (first | ((with_reducible refine gate_callee (f := 15) rfl ?_); refine goesL_ (some 72) rfl rfl Try.func15 (by kernel_rfl) rfl #[.agg #[.int .i64 t383, .slice Ao38 t384.length co38], .int .i64 1] rfl (by (try simp only [List.map_toArray, List.map_cons, List.map_nil]); first | done | rfl | (simp only [List.length_drop, List.length_take]; rfl)) ?_; (with_reducible refine (laws_markTable.calls kj61 t383 (fun k_ => some k_ = (.slice Ao38 t384.length co38 : Value).ownBlock) (.slice Ao38 t384.length co38) t384 1 t398 t399 w _ ?side1 ?side2 A92.out).mono ?_); (case side1 => repeat (first | (with_reducible first | exact HB.out | apply below_alloc | apply pw_below_drewN | apply below_drew1 | refine below_set ?_ GE366.out | refine below_set ?_ GE377.out | refine below_set ?_ GE382.out | refine below_set ?_ GE388.out) | exact HB.out)); (case side2 => exact Kd.R_tight rfl HO_389001.out); rintro e w99 ⟨rfl, hy0, hb, hkp⟩; refine ⟨_, rfl, ?_⟩; have n0_ := Aside0.mk (Kd.R_mono (ok' := fun k_ => some k_ ≠ (.slice Ao31 t396.length co31 : Value).ownBlock ∧ some k_ ≠ (.slice Ao38 t384.length co38 : Value).ownBlock) (Kd.R_keptB (HO_378001.out) hkp (fun k_ hk_ hs_ => (hk_.2) hs_)) (fun k_ hk_ => ⟨hk_.1.1, hk_.1.2⟩)); have n1_ := Aside0.mk (Kd.R_mono (ok' := fun k_ => some k_ ≠ (.slice Ao24 t373.length co24 : Value).ownBlock ∧ some k_ ≠ (.slice Ao38 t384.length co38 : Value).ownBlock) (Kd.R_keptB (HO_383001.out) hkp (fun k_ hk_ hs_ => (hk_.2) hs_)) (fun k_ hk_ => ⟨hk_.1.1, hk_.1.2⟩)); have n2_ := Aside0.mk (Kd.R_reok rfl hy0 (fun k_ e_ => HO_389001.out.1 k_ e_)); have n3_ := Aside0.mk (blk_kept (by (with_reducible repeat (first | refine blk_drewN ?_ _ | refine blk_drew ?_ | refine blk_alloc ?_ _)); exact BK366.out) hkp (fun hs_ => (fun e_ => (Kd.R_ne HO_389001.out BK366.out (by decide)) e_) hs_)); have n4_ := Aside0.mk (blk_kept (by (with_reducible repeat (first | refine blk_drewN ?_ _ | refine blk_drew ?_ | refine blk_alloc ?_ _)); exact BK377.out) hkp (fun hs_ => (fun e_ => (Kd.R_ne HO_389001.out BK377.out (by decide)) e_) hs_)); have n5_ := Aside0.mk (blk_kept (by (with_reducible repeat (first | refine blk_drewN ?_ _ | refine blk_drew ?_ | refine blk_alloc ?_ _)); exact BK382.out) hkp (fun hs_ => (fun e_ => (Kd.R_ne HO_389001.out BK382.out (by decide)) e_) hs_)); have n6_ := Aside0.mk (blk_kept (by (with_reducible repeat (first | refine blk_drewN ?_ _ | refine blk_drew ?_ | refine blk_alloc ?_ _)); exact BK388.out) hkp (fun hs_ => (fun e_ => (Kd.R_ne HO_389001.out BK388.out (by decide)) e_) hs_)); have n7_ := Aside0.mk (hb); clear HO_378001; clear HO_383001; clear HO_389001; clear BK366; clear BK377; clear BK382; clear BK388; clear HB; have HO_378001 := n0_; have HO_383001 := n1_; have HO_389001 := n2_; have BK366 := n3_; have BK377 := n4_; have BK382 := n5_; have BK388 := n6_; have HB := n7_; clear n0_ n1_ n2_ n3_ n4_ n5_ n6_ n7_; (try clear hb); (try clear hkp); (try clear hy0); have hcz100_0 : w99.cell? ⟨gb388, 0, none⟩ = some (.int .i64 t383) := (blk_cell BK388.out 0).trans rfl; have hcz100_1 : w99.cell? ⟨gb388, 1, none⟩ = some (.slice Ao38 t384.length co38) := (blk_cell BK388.out 1).trans rfl; have hfz100_0 := blk_frozen BK388.out 0; have hfz100_1 := blk_frozen BK388.out 1) | ((with_reducible refine gate_callee (f := 16) rfl ?_); refine goesL_ (some 75) rfl rfl Try.func16 (by kernel_rfl) rfl #[.agg #[.int .i64 t383, .slice Ao38 t399.length co38], .int .i64 1] rfl (by (try simp only [List.map_toArray, List.map_cons, List.map_nil]); first | done | (rw [show t399.length = t384.length from (Kd.R_reads' HO_389001.out).1.symm] <;> rfl) | rfl | (simp only [List.length_drop, List.length_take]; rfl)) ?_; (with_reducible refine (laws_heldTable.calls kj61 t383 _ _ t399 1 t400 _ ?side1 ?side2 A93.out).mono ?_); (case side1 => repeat (first | exact (Kd.R_reads' HO_389001.out).2.2 | (with_reducible refine Kd.C_alloc ?_ _) | (with_reducible refine Kd.C_drewN ?_ _) | (with_reducible refine Kd.C_drew ?_))); (case side2 => rw [show t399.length = t384.length from (Kd.R_reads' HO_389001.out).1.symm]; exact (Kd.R_reads' HO_389001.out).2.1); rintro e w101 ⟨rfl, hb⟩; refine ⟨_, rfl, ?_⟩; have n0_ := Aside0.mk (Kd.R_below (by (with_reducible repeat (first | apply Kd.R_alloc | apply Kd.R_drewN | apply Kd.R_drew)); exact HO_378001.out) hb); have n1_ := Aside0.mk (Kd.R_below (by (with_reducible repeat (first | apply Kd.R_alloc | apply Kd.R_drewN | apply Kd.R_drew)); exact HO_383001.out) hb); have n2_ := Aside0.mk (Kd.R_below (by (with_reducible repeat (first | apply Kd.R_alloc | apply Kd.R_drewN | apply Kd.R_drew)); exact HO_389001.out) hb); have n3_ := Aside0.mk (blk_below (g := gb366) (o := .cells #[.int .i64 a0_0, .slice A0_1 l0_1.length c0_1] 32 (0, 0)) (by (with_reducible repeat (first | refine blk_drewN ?_ _ | refine blk_drew ?_ | refine blk_alloc ?_ _)); exact BK366.out) hb); have n4_ := Aside0.mk (blk_below (g := gb377) (o := .cells #[.int .i64 t372, .slice Ao24 t373.length co24] 24 (0, 0)) (by (with_reducible repeat (first | refine blk_drewN ?_ _ | refine blk_drew ?_ | refine blk_alloc ?_ _)); exact BK377.out) hb); have n5_ := Aside0.mk (blk_below (g := gb382) (o := .cells #[.int .i64 t378, .slice Ao31 t396.length co31] 24 (0, 0)) (by (with_reducible repeat (first | refine blk_drewN ?_ _ | refine blk_drew ?_ | refine blk_alloc ?_ _)); exact BK382.out) hb); have n6_ := Aside0.mk (blk_below (g := gb388) (o := .cells #[.int .i64 t383, .slice Ao38 t384.length co38] 24 (0, 0)) (by (with_reducible repeat (first | refine blk_drewN ?_ _ | refine blk_drew ?_ | refine blk_alloc ?_ _)); exact BK388.out) hb); have n7_ := Aside0.mk (below_step (by repeat (first | (with_reducible first | exact HB.out | apply below_alloc | apply pw_below_drewN | apply below_drew1 | refine below_set ?_ GE366.out | refine below_set ?_ GE377.out | refine below_set ?_ GE382.out | refine below_set ?_ GE388.out) | exact HB.out)) hb); clear HO_378001; clear HO_383001; clear HO_389001; clear BK366; clear BK377; clear BK382; clear BK388; clear HB; have HO_378001 := n0_; have HO_383001 := n1_; have HO_389001 := n2_; have BK366 := n3_; have BK377 := n4_; have BK382 := n5_; have BK388 := n6_; have HB := n7_; clear n0_ n1_ n2_ n3_ n4_ n5_ n6_ n7_; (try clear hb); (try clear hb2); (try clear hk); (try clear hi)))
          go_ret
          exact ⟨by first | rfl | (simp [errW_none, errW_some] <;> rfl) | (simp [*, errW_none, errW_some] <;> rfl), by repeat (first | (with_reducible first | exact HB.out | apply below_alloc | apply pw_below_drewN | apply below_drew1 | refine below_set ?_ GE366.out | refine below_set ?_ GE377.out | refine below_set ?_ GE382.out | refine below_set ?_ GE388.out) | exact HB.out)⟩
         ·rw [if_neg c94] at H
          have c94b0 : decide (t400 < 0) = false := decide_eq_false c94
          clear c94
          by_cases c102 : t400 = t398
          ·rw [if_pos c102] at H
           have c102b0 : (t400 == t398) = true := beq_iff_eq.mpr c102
           have c102b1 : (t400 != t398) = false := bne_eq_false_iff_eq.mpr c102
           clear c102
           replace H := Option.bind_eq_some_iff.mp H
           obtain ⟨⟨t401, t402⟩, A1030, H⟩ := H
           replace H : ((impl_DropOld.f kj61 t401 t402 a1 a2).bind fun bt405 => ((laws_eqTable.f kj61 bt405.1 bt405.2.1 t372 t373).bind fun t411 => (if t411 = true then (laws_FnExactDropOld.j2 kj61 t398 (bt405.2.2 != t376) t383 t399) else (laws_FnExactDropOld.j2 kj61 t398 true t383 t399)))) = some r := H
           have A103 := Aside0.mk A1030
           clear A1030
           replace H := Option.bind_eq_some_iff.mp H
           obtain ⟨⟨t405, t406, t409⟩, A1040, H⟩ := H
           replace H : ((laws_eqTable.f kj61 t405 t406 t372 t373).bind fun t411 => (if t411 = true then (laws_FnExactDropOld.j2 kj61 t398 (t409 != t376) t383 t399) else (laws_FnExactDropOld.j2 kj61 t398 true t383 t399))) = some r := H
           have A104 := Aside0.mk A1040
           clear A1040
           have HC105 := Aside0.mk H
           clear H
           have hnb106 := NB388_366.out
           have hnc106 := NB366_388.out
           have hnb107 := NB388_377.out
           have hnc107 := NB377_388.out
           have hnb108 := NB388_382.out
           have hnc108 := NB382_388.out
           have hcz109_0 : wc.cell? ⟨gb388, 0, none⟩ = some (.int .i64 t383) := (blk_cell BK388.out 0).trans rfl
           have hcz109_1 : wc.cell? ⟨gb388, 1, none⟩ = some (.slice Ao38 t384.length co38) := (blk_cell BK388.out 1).trans rfl
           have hfz109_0 := blk_frozen BK388.out 0
           have hfz109_1 := blk_frozen BK388.out 1
           go_upto_region 25 with (first | ((with_reducible refine gate_callee (f := 15) rfl ?_); refine goesL_ (some 72) rfl rfl Try.func15 (by kernel_rfl) rfl #[.agg #[.int .i64 t383, .slice Ao38 t384.length co38], .int .i64 1] rfl (by (try simp only [List.map_toArray, List.map_cons, List.map_nil]); first | done | rfl | (simp only [List.length_drop, List.length_take]; rfl)) ?_; (with_reducible refine (laws_markTable.calls kj61 t383 (fun k_ => some k_ = (.slice Ao38 t384.length co38 : Value).ownBlock) (.slice Ao38 t384.length co38) t384 1 t398 t399 w _ ?side1 ?side2 A92.out).mono ?_); (case side1 => repeat (first | (with_reducible first | exact HB.out | apply below_alloc | apply pw_below_drewN | apply below_drew1 | refine below_set ?_ GE366.out | refine below_set ?_ GE377.out | refine below_set ?_ GE382.out | refine below_set ?_ GE388.out) | exact HB.out)); (case side2 => exact Kd.R_tight rfl HO_389001.out); rintro e w110 ⟨rfl, hy0, hb, hkp⟩; refine ⟨_, rfl, ?_⟩; have n0_ := Aside0.mk (Kd.R_mono (ok' := fun k_ => some k_ ≠ (.slice Ao31 t396.length co31 : Value).ownBlock ∧ some k_ ≠ (.slice Ao38 t384.length co38 : Value).ownBlock) (Kd.R_keptB (HO_378001.out) hkp (fun k_ hk_ hs_ => (hk_.2) hs_)) (fun k_ hk_ => ⟨hk_.1.1, hk_.1.2⟩)); have n1_ := Aside0.mk (Kd.R_mono (ok' := fun k_ => some k_ ≠ (.slice Ao24 t373.length co24 : Value).ownBlock ∧ some k_ ≠ (.slice Ao38 t384.length co38 : Value).ownBlock) (Kd.R_keptB (HO_383001.out) hkp (fun k_ hk_ hs_ => (hk_.2) hs_)) (fun k_ hk_ => ⟨hk_.1.1, hk_.1.2⟩)); have n2_ := Aside0.mk (Kd.R_reok rfl hy0 (fun k_ e_ => HO_389001.out.1 k_ e_)); have n3_ := Aside0.mk (blk_kept (by (with_reducible repeat (first | refine blk_drewN ?_ _ | refine blk_drew ?_ | refine blk_alloc ?_ _)); exact BK366.out) hkp (fun hs_ => (fun e_ => (Kd.R_ne HO_389001.out BK366.out (by decide)) e_) hs_)); have n4_ := Aside0.mk (blk_kept (by (with_reducible repeat (first | refine blk_drewN ?_ _ | refine blk_drew ?_ | refine blk_alloc ?_ _)); exact BK377.out) hkp (fun hs_ => (fun e_ => (Kd.R_ne HO_389001.out BK377.out (by decide)) e_) hs_)); have n5_ := Aside0.mk (blk_kept (by (with_reducible repeat (first | refine blk_drewN ?_ _ | refine blk_drew ?_ | refine blk_alloc ?_ _)); exact BK382.out) hkp (fun hs_ => (fun e_ => (Kd.R_ne HO_389001.out BK382.out (by decide)) e_) hs_)); have n6_ := Aside0.mk (blk_kept (by (with_reducible repeat (first | refine blk_drewN ?_ _ | refine blk_drew ?_ | refine blk_alloc ?_ _)); exact BK388.out) hkp (fun hs_ => (fun e_ => (Kd.R_ne HO_389001.out BK388.out (by decide)) e_) hs_)); have n7_ := Aside0.mk (hb); clear HO_378001; clear HO_383001; clear HO_389001; clear BK366; clear BK377; clear BK382; clear BK388; clear HB; have HO_378001 := n0_; have HO_383001 := n1_; have HO_389001 := n2_; have BK366 := n3_; have BK377 := n4_; have BK382 := n5_; have BK388 := n6_; have HB := n7_; clear n0_ n1_ n2_ n3_ n4_ n5_ n6_ n7_; (try clear hb); (try clear hkp); (try clear hy0); have hcz111_0 : w110.cell? ⟨gb388, 0, none⟩ = some (.int .i64 t383) := (blk_cell BK388.out 0).trans rfl; have hcz111_1 : w110.cell? ⟨gb388, 1, none⟩ = some (.slice Ao38 t384.length co38) := (blk_cell BK388.out 1).trans rfl; have hfz111_0 := blk_frozen BK388.out 0; have hfz111_1 := blk_frozen BK388.out 1) | ((with_reducible refine gate_callee (f := 16) rfl ?_); refine goesL_ (some 75) rfl rfl Try.func16 (by kernel_rfl) rfl #[.agg #[.int .i64 t383, .slice Ao38 t399.length co38], .int .i64 1] rfl (by (try simp only [List.map_toArray, List.map_cons, List.map_nil]); first | done | (rw [show t399.length = t384.length from (Kd.R_reads' HO_389001.out).1.symm] <;> rfl) | rfl | (simp only [List.length_drop, List.length_take]; rfl)) ?_; (with_reducible refine (laws_heldTable.calls kj61 t383 _ _ t399 1 t400 _ ?side1 ?side2 A93.out).mono ?_); (case side1 => repeat (first | exact (Kd.R_reads' HO_389001.out).2.2 | (with_reducible refine Kd.C_alloc ?_ _) | (with_reducible refine Kd.C_drewN ?_ _) | (with_reducible refine Kd.C_drew ?_))); (case side2 => rw [show t399.length = t384.length from (Kd.R_reads' HO_389001.out).1.symm]; exact (Kd.R_reads' HO_389001.out).2.1); rintro e w112 ⟨rfl, hb⟩; refine ⟨_, rfl, ?_⟩; have n0_ := Aside0.mk (Kd.R_below (by (with_reducible repeat (first | apply Kd.R_alloc | apply Kd.R_drewN | apply Kd.R_drew)); exact HO_378001.out) hb); have n1_ := Aside0.mk (Kd.R_below (by (with_reducible repeat (first | apply Kd.R_alloc | apply Kd.R_drewN | apply Kd.R_drew)); exact HO_383001.out) hb); have n2_ := Aside0.mk (Kd.R_below (by (with_reducible repeat (first | apply Kd.R_alloc | apply Kd.R_drewN | apply Kd.R_drew)); exact HO_389001.out) hb); have n3_ := Aside0.mk (blk_below (g := gb366) (o := .cells #[.int .i64 a0_0, .slice A0_1 l0_1.length c0_1] 32 (0, 0)) (by (with_reducible repeat (first | refine blk_drewN ?_ _ | refine blk_drew ?_ | refine blk_alloc ?_ _)); exact BK366.out) hb); have n4_ := Aside0.mk (blk_below (g := gb377) (o := .cells #[.int .i64 t372, .slice Ao24 t373.length co24] 24 (0, 0)) (by (with_reducible repeat (first | refine blk_drewN ?_ _ | refine blk_drew ?_ | refine blk_alloc ?_ _)); exact BK377.out) hb); have n5_ := Aside0.mk (blk_below (g := gb382) (o := .cells #[.int .i64 t378, .slice Ao31 t396.length co31] 24 (0, 0)) (by (with_reducible repeat (first | refine blk_drewN ?_ _ | refine blk_drew ?_ | refine blk_alloc ?_ _)); exact BK382.out) hb); have n6_ := Aside0.mk (blk_below (g := gb388) (o := .cells #[.int .i64 t383, .slice Ao38 t384.length co38] 24 (0, 0)) (by (with_reducible repeat (first | refine blk_drewN ?_ _ | refine blk_drew ?_ | refine blk_alloc ?_ _)); exact BK388.out) hb); have n7_ := Aside0.mk (below_step (by repeat (first | (with_reducible first | exact HB.out | apply below_alloc | apply pw_below_drewN | apply below_drew1 | refine below_set ?_ GE366.out | refine below_set ?_ GE377.out | refine below_set ?_ GE382.out | refine below_set ?_ GE388.out) | exact HB.out)) hb); clear HO_378001; clear HO_383001; clear HO_389001; clear BK366; clear BK377; clear BK382; clear BK388; clear HB; have HO_378001 := n0_; have HO_383001 := n1_; have HO_389001 := n2_; have BK366 := n3_; have BK377 := n4_; have BK382 := n5_; have BK388 := n6_; have HB := n7_; clear n0_ n1_ n2_ n3_ n4_ n5_ n6_ n7_; (try clear hb); (try clear hb2); (try clear hk); (try clear hi); have hnb113 := NB366_377.out; have hnc113 := NB377_366.out; have hnb114 := NB366_382.out; have hnc114 := NB382_366.out; have hcz115_0 : w112.cell? ⟨gb366, 0, none⟩ = some (.int .i64 a0_0) := (blk_cell BK366.out 0).trans rfl; have hcz115_1 : w112.cell? ⟨gb366, 1, none⟩ = some (.slice A0_1 l0_1.length c0_1) := (blk_cell BK366.out 1).trans rfl; have hfz115_0 := blk_frozen BK366.out 0; have hfz115_1 := blk_frozen BK366.out 1) | ((with_reducible refine gate_callee (f := 19) rfl ?_); refine goesL_ (some 83) rfl rfl Try.func19 (by kernel_rfl) rfl #[.agg #[.int .i64 a0_0, .slice A0_1 l0_1.length c0_1]] rfl (by (try simp only [List.map_toArray, List.map_cons, List.map_nil]); first | done | rfl | (simp only [List.length_drop, List.length_take]; rfl)) ?_; (with_reducible refine (laws_toTable.calls kj61 a0_0 _ _ l0_1 t401 t402 _ ?side1 ?side2 A103.out).mono ?_); (case side1 => repeat (first | exact (Kd.C_below HR0_1.out HB.out) | (with_reducible refine Kd.C_alloc ?_ _) | (with_reducible refine Kd.C_drewN ?_ _) | (with_reducible refine Kd.C_drew ?_))); (case side2 => exact HC0_1.out); rintro e w116 ⟨v403, rfl, ho0, hb⟩; refine ⟨_, rfl, ?_⟩; have n0_ := Aside0.mk (Kd.R_elder' (by (with_reducible repeat (first | apply Kd.R_alloc | apply Kd.R_drewN | apply Kd.R_drew)); exact HO_378001.out) (Kd.R_base ho0) hb); have n1_ := Aside0.mk (Kd.R_elder' (by (with_reducible repeat (first | apply Kd.R_alloc | apply Kd.R_drewN | apply Kd.R_drew)); exact HO_383001.out) (Kd.R_base ho0) hb); have n2_ := Aside0.mk (Kd.R_elder' (by (with_reducible repeat (first | apply Kd.R_alloc | apply Kd.R_drewN | apply Kd.R_drew)); exact HO_389001.out) (Kd.R_base ho0) hb); have n3_ := Aside0.mk (Kd.R_lower (Kd.R_new' (Kd.R_new' (Kd.R_new' ho0 (Kd.R_lt (by (with_reducible repeat (first | apply Kd.R_alloc | apply Kd.R_drewN | apply Kd.R_drew)); exact HO_378001.out))) (Kd.R_lt (by (with_reducible repeat (first | apply Kd.R_alloc | apply Kd.R_drewN | apply Kd.R_drew)); exact HO_383001.out))) (Kd.R_lt (by (with_reducible repeat (first | apply Kd.R_alloc | apply Kd.R_drewN | apply Kd.R_drew)); exact HO_389001.out))) (below_size (by repeat (first | (with_reducible first | exact HB.out | apply below_alloc | apply pw_below_drewN | apply below_drew1 | refine below_set ?_ GE366.out | refine below_set ?_ GE377.out | refine below_set ?_ GE382.out | refine below_set ?_ GE388.out) | exact HB.out)))); have n4_ := Aside0.mk (blk_below (g := gb366) (o := .cells #[.int .i64 a0_0, .slice A0_1 l0_1.length c0_1] 32 (0, 0)) (by (with_reducible repeat (first | refine blk_drewN ?_ _ | refine blk_drew ?_ | refine blk_alloc ?_ _)); exact BK366.out) hb); have n5_ := Aside0.mk (blk_below (g := gb377) (o := .cells #[.int .i64 t372, .slice Ao24 t373.length co24] 24 (0, 0)) (by (with_reducible repeat (first | refine blk_drewN ?_ _ | refine blk_drew ?_ | refine blk_alloc ?_ _)); exact BK377.out) hb); have n6_ := Aside0.mk (blk_below (g := gb382) (o := .cells #[.int .i64 t378, .slice Ao31 t396.length co31] 24 (0, 0)) (by (with_reducible repeat (first | refine blk_drewN ?_ _ | refine blk_drew ?_ | refine blk_alloc ?_ _)); exact BK382.out) hb); have n7_ := Aside0.mk (blk_below (g := gb388) (o := .cells #[.int .i64 t383, .slice Ao38 t384.length co38] 24 (0, 0)) (by (with_reducible repeat (first | refine blk_drewN ?_ _ | refine blk_drew ?_ | refine blk_alloc ?_ _)); exact BK388.out) hb); have n8_ := Aside0.mk (below_step (by repeat (first | (with_reducible first | exact HB.out | apply below_alloc | apply pw_below_drewN | apply below_drew1 | refine below_set ?_ GE366.out | refine below_set ?_ GE377.out | refine below_set ?_ GE382.out | refine below_set ?_ GE388.out) | exact HB.out)) hb); clear HO_378001; clear HO_383001; clear HO_389001; clear BK366; clear BK377; clear BK382; clear BK388; clear HB; have HO_378001 := n0_; have HO_383001 := n1_; have HO_389001 := n2_; have HO404 := n3_; have BK366 := n4_; have BK377 := n5_; have BK382 := n6_; have BK388 := n7_; have HB := n8_; clear n0_ n1_ n2_ n3_ n4_ n5_ n6_ n7_ n8_; (try clear hb); (try clear hb2); (try clear hk); (try clear hi); (try clear ho0); obtain ⟨Ao117, co117, eo117⟩ := Kd.R_slice HO404.out; subst eo117) | ((with_reducible refine gate_callee (f := 29) rfl ?_); refine goesL_ (some 86) rfl rfl Try.func29 (by kernel_rfl) rfl #[.agg #[.int .i64 t401, .slice Ao117 t402.length co117], .int .i64 a1, .int .i64 a2] rfl (by (try simp only [List.map_toArray, List.map_cons, List.map_nil]); first | done | rfl | (simp only [List.length_drop, List.length_take]; rfl)) ?_; (with_reducible refine (impl_DropOld.calls kj61 t401 _ _ t402 a1 a2 t405 t406 t409 _ ?side1 ?side2 A104.out).mono ?_); (case side1 => repeat (first | exact (Kd.R_reads' HO404.out).2.2 | (with_reducible refine Kd.C_alloc ?_ _) | (with_reducible refine Kd.C_drewN ?_ _) | (with_reducible refine Kd.C_drew ?_))); (case side2 => exact (Kd.R_reads' HO404.out).2.1); rintro e w118 ⟨v407, rfl, ho0, hb⟩; refine ⟨_, rfl, ?_⟩; have n0_ := Aside0.mk (Kd.R_elder' (by (with_reducible repeat (first | apply Kd.R_alloc | apply Kd.R_drewN | apply Kd.R_drew)); exact HO_378001.out) (Kd.R_base ho0) hb); have n1_ := Aside0.mk (Kd.R_elder' (by (with_reducible repeat (first | apply Kd.R_alloc | apply Kd.R_drewN | apply Kd.R_drew)); exact HO_383001.out) (Kd.R_base ho0) hb); have n2_ := Aside0.mk (Kd.R_elder' (by (with_reducible repeat (first | apply Kd.R_alloc | apply Kd.R_drewN | apply Kd.R_drew)); exact HO_389001.out) (Kd.R_base ho0) hb); have n3_ := Aside0.mk (Kd.R_elder' (by (with_reducible repeat (first | apply Kd.R_alloc | apply Kd.R_drewN | apply Kd.R_drew)); exact HO404.out) (Kd.R_base ho0) hb); have n4_ := Aside0.mk (Kd.R_lower (Kd.R_new' (Kd.R_new' (Kd.R_new' (Kd.R_new' ho0 (Kd.R_lt (by (with_reducible repeat (first | apply Kd.R_alloc | apply Kd.R_drewN | apply Kd.R_drew)); exact HO_378001.out))) (Kd.R_lt (by (with_reducible repeat (first | apply Kd.R_alloc | apply Kd.R_drewN | apply Kd.R_drew)); exact HO_383001.out))) (Kd.R_lt (by (with_reducible repeat (first | apply Kd.R_alloc | apply Kd.R_drewN | apply Kd.R_drew)); exact HO_389001.out))) (Kd.R_lt (by (with_reducible repeat (first | apply Kd.R_alloc | apply Kd.R_drewN | apply Kd.R_drew)); exact HO404.out))) (below_size (by repeat (first | (with_reducible first | exact HB.out | apply below_alloc | apply pw_below_drewN | apply below_drew1 | refine below_set ?_ GE366.out | refine below_set ?_ GE377.out | refine below_set ?_ GE382.out | refine below_set ?_ GE388.out) | exact HB.out)))); have n5_ := Aside0.mk (blk_below (g := gb366) (o := .cells #[.int .i64 a0_0, .slice A0_1 l0_1.length c0_1] 32 (0, 0)) (by (with_reducible repeat (first | refine blk_drewN ?_ _ | refine blk_drew ?_ | refine blk_alloc ?_ _)); exact BK366.out) hb); have n6_ := Aside0.mk (blk_below (g := gb377) (o := .cells #[.int .i64 t372, .slice Ao24 t373.length co24] 24 (0, 0)) (by (with_reducible repeat (first | refine blk_drewN ?_ _ | refine blk_drew ?_ | refine blk_alloc ?_ _)); exact BK377.out) hb); have n7_ := Aside0.mk (blk_below (g := gb382) (o := .cells #[.int .i64 t378, .slice Ao31 t396.length co31] 24 (0, 0)) (by (with_reducible repeat (first | refine blk_drewN ?_ _ | refine blk_drew ?_ | refine blk_alloc ?_ _)); exact BK382.out) hb); have n8_ := Aside0.mk (blk_below (g := gb388) (o := .cells #[.int .i64 t383, .slice Ao38 t384.length co38] 24 (0, 0)) (by (with_reducible repeat (first | refine blk_drewN ?_ _ | refine blk_drew ?_ | refine blk_alloc ?_ _)); exact BK388.out) hb); have n9_ := Aside0.mk (below_step (by repeat (first | (with_reducible first | exact HB.out | apply below_alloc | apply pw_below_drewN | apply below_drew1 | refine below_set ?_ GE366.out | refine below_set ?_ GE377.out | refine below_set ?_ GE382.out | refine below_set ?_ GE388.out) | exact HB.out)) hb); clear HO_378001; clear HO_383001; clear HO_389001; clear HO404; clear BK366; clear BK377; clear BK382; clear BK388; clear HB; have HO_378001 := n0_; have HO_383001 := n1_; have HO_389001 := n2_; have HO404 := n3_; have HO408 := n4_; have BK366 := n5_; have BK377 := n6_; have BK382 := n7_; have BK388 := n8_; have HB := n9_; clear n0_ n1_ n2_ n3_ n4_ n5_ n6_ n7_ n8_ n9_; (try clear hb); (try clear hb2); (try clear hk); (try clear hi); (try clear ho0)) | ((with_reducible refine gate_dst (N := 16) rfl ?_); refine box_event ?hg (N := 16) ?hd (cs := #[.int .i64 0, .slice none 0 0]) (t := 24) ?hr ?_; (case hd => rfl); (case hg => rfl); (case hr => first | (go_simp; done) | (go_simp; rfl)); intro gb410 hg w119 hbox hb; have n0_ := Aside0.mk (Kd.R_below (by (with_reducible repeat (first | apply Kd.R_alloc | apply Kd.R_drewN | apply Kd.R_drew)); exact HO_378001.out) hb); have n1_ := Aside0.mk (Kd.R_below (by (with_reducible repeat (first | apply Kd.R_alloc | apply Kd.R_drewN | apply Kd.R_drew)); exact HO_383001.out) hb); have n2_ := Aside0.mk (Kd.R_below (by (with_reducible repeat (first | apply Kd.R_alloc | apply Kd.R_drewN | apply Kd.R_drew)); exact HO_389001.out) hb); have n3_ := Aside0.mk (Kd.R_below (by (with_reducible repeat (first | apply Kd.R_alloc | apply Kd.R_drewN | apply Kd.R_drew)); exact HO404.out) hb); have n4_ := Aside0.mk (Kd.R_below (by (with_reducible repeat (first | apply Kd.R_alloc | apply Kd.R_drewN | apply Kd.R_drew)); exact HO408.out) hb); have n5_ := Aside0.mk (blk_below (g := gb366) (o := .cells #[.int .i64 a0_0, .slice A0_1 l0_1.length c0_1] 32 (0, 0)) (by (with_reducible repeat (first | refine blk_drewN ?_ _ | refine blk_drew ?_ | refine blk_alloc ?_ _)); exact BK366.out) hb); have n6_ := Aside0.mk (blk_below (g := gb377) (o := .cells #[.int .i64 t372, .slice Ao24 t373.length co24] 24 (0, 0)) (by (with_reducible repeat (first | refine blk_drewN ?_ _ | refine blk_drew ?_ | refine blk_alloc ?_ _)); exact BK377.out) hb); have n7_ := Aside0.mk (blk_below (g := gb382) (o := .cells #[.int .i64 t378, .slice Ao31 t396.length co31] 24 (0, 0)) (by (with_reducible repeat (first | refine blk_drewN ?_ _ | refine blk_drew ?_ | refine blk_alloc ?_ _)); exact BK382.out) hb); have n8_ := Aside0.mk (blk_below (g := gb388) (o := .cells #[.int .i64 t383, .slice Ao38 t384.length co38] 24 (0, 0)) (by (with_reducible repeat (first | refine blk_drewN ?_ _ | refine blk_drew ?_ | refine blk_alloc ?_ _)); exact BK388.out) hb); have n9_ := Aside0.mk (below_step (by repeat (first | (with_reducible first | exact HB.out | apply below_alloc | apply pw_below_drewN | apply below_drew1 | refine below_set ?_ GE366.out | refine below_set ?_ GE377.out | refine below_set ?_ GE382.out | refine below_set ?_ GE388.out) | exact HB.out)) hb); have n10_ := Aside0.mk (hbox); have n11_ := Aside0.mk ((by rw [hg]; exact (below_size (by repeat (first | (with_reducible first | exact HB.out | apply below_alloc | apply pw_below_drewN | apply below_drew1 | refine below_set ?_ GE366.out | refine below_set ?_ GE377.out | refine below_set ?_ GE382.out | refine below_set ?_ GE388.out) | exact HB.out))) : w.heap.size ≤ gb410)); have n12_ := Aside0.mk ((by rw [hg]; exact (below_size (by repeat (first | (with_reducible first | exact HB.out | apply below_alloc | apply pw_below_drewN | apply below_drew1 | refine below_set ?_ GE366.out | refine below_set ?_ GE377.out | refine below_set ?_ GE382.out | refine below_set ?_ GE388.out) | exact HB.out))) : w.heap.size ≤ gb410)); have n13_ := Aside0.mk ((by rw [hg]; exact Nat.ne_of_lt (blk_lt (g := gb366) (o := .cells #[.int .i64 a0_0, .slice A0_1 l0_1.length c0_1] 32 (0, 0)) (by (with_reducible repeat (first | refine blk_drewN ?_ _ | refine blk_drew ?_ | refine blk_alloc ?_ _)); exact BK366.out)) : gb366 ≠ gb410)); have n14_ := Aside0.mk ((by rw [hg]; exact Nat.ne_of_gt (blk_lt (g := gb366) (o := .cells #[.int .i64 a0_0, .slice A0_1 l0_1.length c0_1] 32 (0, 0)) (by (with_reducible repeat (first | refine blk_drewN ?_ _ | refine blk_drew ?_ | refine blk_alloc ?_ _)); exact BK366.out)) : gb410 ≠ gb366)); have n15_ := Aside0.mk ((by rw [hg]; exact Nat.ne_of_lt (blk_lt (g := gb377) (o := .cells #[.int .i64 t372, .slice Ao24 t373.length co24] 24 (0, 0)) (by (with_reducible repeat (first | refine blk_drewN ?_ _ | refine blk_drew ?_ | refine blk_alloc ?_ _)); exact BK377.out)) : gb377 ≠ gb410)); have n16_ := Aside0.mk ((by rw [hg]; exact Nat.ne_of_gt (blk_lt (g := gb377) (o := .cells #[.int .i64 t372, .slice Ao24 t373.length co24] 24 (0, 0)) (by (with_reducible repeat (first | refine blk_drewN ?_ _ | refine blk_drew ?_ | refine blk_alloc ?_ _)); exact BK377.out)) : gb410 ≠ gb377)); have n17_ := Aside0.mk ((by rw [hg]; exact Nat.ne_of_lt (blk_lt (g := gb382) (o := .cells #[.int .i64 t378, .slice Ao31 t396.length co31] 24 (0, 0)) (by (with_reducible repeat (first | refine blk_drewN ?_ _ | refine blk_drew ?_ | refine blk_alloc ?_ _)); exact BK382.out)) : gb382 ≠ gb410)); have n18_ := Aside0.mk ((by rw [hg]; exact Nat.ne_of_gt (blk_lt (g := gb382) (o := .cells #[.int .i64 t378, .slice Ao31 t396.length co31] 24 (0, 0)) (by (with_reducible repeat (first | refine blk_drewN ?_ _ | refine blk_drew ?_ | refine blk_alloc ?_ _)); exact BK382.out)) : gb410 ≠ gb382)); have n19_ := Aside0.mk ((by rw [hg]; exact Nat.ne_of_lt (blk_lt (g := gb388) (o := .cells #[.int .i64 t383, .slice Ao38 t384.length co38] 24 (0, 0)) (by (with_reducible repeat (first | refine blk_drewN ?_ _ | refine blk_drew ?_ | refine blk_alloc ?_ _)); exact BK388.out)) : gb388 ≠ gb410)); have n20_ := Aside0.mk ((by rw [hg]; exact Nat.ne_of_gt (blk_lt (g := gb388) (o := .cells #[.int .i64 t383, .slice Ao38 t384.length co38] 24 (0, 0)) (by (with_reducible repeat (first | refine blk_drewN ?_ _ | refine blk_drew ?_ | refine blk_alloc ?_ _)); exact BK388.out)) : gb410 ≠ gb388)); clear HO_378001; clear HO_383001; clear HO_389001; clear HO404; clear HO408; clear BK366; clear BK377; clear BK382; clear BK388; clear HB; have HO_378001 := n0_; have HO_383001 := n1_; have HO_389001 := n2_; have HO404 := n3_; have HO408 := n4_; have BK366 := n5_; have BK377 := n6_; have BK382 := n7_; have BK388 := n8_; have HB := n9_; have BK410 := n10_; have GW410 := n11_; have GE410 := n12_; have NB366_410 := n13_; have NB410_366 := n14_; have NB377_410 := n15_; have NB410_377 := n16_; have NB382_410 := n17_; have NB410_382 := n18_; have NB388_410 := n19_; have NB410_388 := n20_; clear n0_ n1_ n2_ n3_ n4_ n5_ n6_ n7_ n8_ n9_ n10_ n11_ n12_ n13_ n14_ n15_ n16_ n17_ n18_ n19_ n20_; clear hb hbox hg; have hnb120 := NB410_366.out; have hnc120 := NB366_410.out; have hnb121 := NB410_377.out; have hnc121 := NB377_410.out; have hnb122 := NB410_382.out; have hnc122 := NB382_410.out; have hnb123 := NB410_388.out; have hnc123 := NB388_410.out; have hcz124_0 : w119.cell? ⟨gb410, 0, none⟩ = some (.int .i64 0) := (blk_cell BK410.out 0).trans rfl; have hcz124_1 : w119.cell? ⟨gb410, 1, none⟩ = some (.slice none 0 0) := (blk_cell BK410.out 1).trans rfl; have hfz124_0 := blk_frozen BK410.out 0; have hfz124_1 := blk_frozen BK410.out 1; obtain ⟨Ao125, co125, eo125⟩ := Kd.R_slice HO408.out; subst eo125))
           (try simp only [Act.put, List.setIfInBounds_toArray, List.set_cons_zero, List.set_cons_succ])
           go_cut [97] (fun v97 wc => ∃ (kq : Nat) (x97_104 : Bool), v97 = .bool x97_104 ∧ Aside0 (laws_FnExactDropOld.j2 kq t398 x97_104 t383 t399 = some r) ∧ Aside0 (kq ≤ kj61) ∧ Aside0 (Kd.R k53 53 wc w.heap.size (fun k_ => some k_ ≠ ((.slice Ao31 t396.length co31) : Value).ownBlock ∧ some k_ ≠ ((.slice Ao38 t384.length co38) : Value).ownBlock ∧ some k_ ≠ ((.slice Ao125 t406.length co125) : Value).ownBlock) (.slice Ao24 t373.length co24) t373) ∧ Aside0 (Kd.R k53 53 wc w.heap.size (fun k_ => some k_ ≠ ((.slice Ao24 t373.length co24) : Value).ownBlock ∧ some k_ ≠ ((.slice Ao38 t384.length co38) : Value).ownBlock ∧ some k_ ≠ ((.slice Ao125 t406.length co125) : Value).ownBlock) (.slice Ao31 t396.length co31) t396) ∧ Aside0 (Kd.R k53 53 wc w.heap.size (fun k_ => some k_ ≠ ((.slice Ao24 t373.length co24) : Value).ownBlock ∧ some k_ ≠ ((.slice Ao31 t396.length co31) : Value).ownBlock ∧ some k_ ≠ ((.slice Ao125 t406.length co125) : Value).ownBlock) (.slice Ao38 t384.length co38) t399) ∧ Aside0 (Kd.R k53 53 wc w.heap.size (fun k_ => some k_ ≠ ((.slice Ao24 t373.length co24) : Value).ownBlock ∧ some k_ ≠ ((.slice Ao31 t396.length co31) : Value).ownBlock ∧ some k_ ≠ ((.slice Ao38 t384.length co38) : Value).ownBlock) (.slice Ao125 t406.length co125) t406) ∧ Aside0 (wc.heap[gb366]? = some (.cells #[.int .i64 a0_0, (.slice A0_1 l0_1.length c0_1)] 32 (0, 0))) ∧ Aside0 (wc.heap[gb377]? = some (.cells #[.int .i64 t372, (.slice Ao24 t373.length co24)] 24 (0, 0))) ∧ Aside0 (wc.heap[gb382]? = some (.cells #[.int .i64 t378, (.slice Ao31 t396.length co31)] 24 (0, 0))) ∧ Aside0 (wc.heap[gb388]? = some (.cells #[.int .i64 t383, (.slice Ao38 t384.length co38)] 24 (0, 0))) ∧ Aside0 (wc.heap[gb410]? = some (.cells #[.int .i64 t405, (.slice Ao125 t406.length co125)] 24 (0, 0))) ∧ Aside0 (Below w.heap.size w wc))
           case first =>
            have H := HC105.out
            clear HC105
            replace H := Option.bind_eq_some_iff.mp H
            obtain ⟨t411, A1260, H⟩ := H
            replace H : (if t411 = true then (laws_FnExactDropOld.j2 kj61 t398 (t409 != t376) t383 t399) else (laws_FnExactDropOld.j2 kj61 t398 true t383 t399)) = some r := H
            have A126 := Aside0.mk A1260
            clear A1260
            by_cases c127 : t411 = true
            ·subst c127
             have H1 : (laws_FnExactDropOld.j2 kj61 t398 (t409 != t376) t383 t399) = some r := by rw [if_pos rfl] at H; exact H
             clear H
             have H := H1
             clear H1
             have H' := Aside0.mk H
             clear H
             have hnb128 := NB410_366.out
             have hnc128 := NB366_410.out
             have hnb129 := NB410_377.out
             have hnc129 := NB377_410.out
             have hnb130 := NB410_382.out
             have hnc130 := NB382_410.out
             have hnb131 := NB410_388.out
             have hnc131 := NB388_410.out
             have hcz132_0 : w119.cell? ⟨gb410, 0, none⟩ = some (.int .i64 0) := (blk_cell BK410.out 0).trans rfl
             have hcz132_1 : w119.cell? ⟨gb410, 1, none⟩ = some (.slice none 0 0) := (blk_cell BK410.out 1).trans rfl
             have hfz132_0 := blk_frozen BK410.out 0
             have hfz132_1 := blk_frozen BK410.out 1
             have hnb133 := NB377_366.out
             have hnc133 := NB366_377.out
             have hnb134 := NB377_382.out
             have hnc134 := NB382_377.out
             have hnb135 := NB377_388.out
             have hnc135 := NB388_377.out
             have hcz136_0 : w119.cell? ⟨gb377, 0, none⟩ = some (.int .i64 t372) := (blk_cell BK377.out 0).trans rfl
             have hcz136_1 : w119.cell? ⟨gb377, 1, none⟩ = some (.slice Ao24 t373.length co24) := (blk_cell BK377.out 1).trans rfl
             have hfz136_0 := blk_frozen BK377.out 0
             have hfz136_1 := blk_frozen BK377.out 1
             go_wp2_with (first | ((with_reducible refine gate_callee (f := 14) rfl ?_); refine goesL_ (some 91) rfl rfl Try.func14 (by kernel_rfl) rfl #[.agg #[.int .i64 t405, .slice Ao125 t406.length co125], .agg #[.int .i64 t372, .slice Ao24 t373.length co24]] rfl (by (try simp only [List.map_toArray, List.map_cons, List.map_nil]); first | done | rfl | (simp only [List.length_drop, List.length_take]; rfl)) ?_; (with_reducible refine (laws_eqTable.calls kj61 t405 _ _ t406 t372 _ _ t373 true _ ?side1 ?side2 ?side3 ?side4 A126.out).mono ?_); (case side1 => refine (Kd.R_reads' (e := 53) (base := w.heap.size) (ok := fun k_ => ((((True ∧ some k_ ≠ (.slice Ao24 t373.length co24 : Value).ownBlock) ∧ some k_ ≠ (.slice Ao31 t396.length co31 : Value).ownBlock) ∧ some k_ ≠ (.slice Ao38 t384.length co38 : Value).ownBlock) ∧ some k_ ≠ (.slice Ao117 t402.length co117 : Value).ownBlock)) (n := t406.length) (c := co125) ?_).2.2; exact (by (with_reducible repeat (first | apply Kd.R_alloc | apply Kd.R_drewN | apply Kd.R_drew)); exact (Kd.R_mono (Kd.R_far (p := ⟨gb410, 1, none⟩) (Kd.R_far (p := ⟨gb410, 0, none⟩) (Kd.R_types HO408.out BK410.out (by decide)) (fun _ hk => hk.2) (.int .i64 t405)) (fun _ hk => hk.2) (.slice Ao125 t406.length co125)) (fun _ h_ => h_.1)))); (case side2 => exact (Kd.R_reads' HO408.out).2.1); (case side3 => refine (Kd.R_reads' (e := 53) (base := w.heap.size) (ok := fun k_ => (((some k_ ≠ (.slice Ao31 t396.length co31 : Value).ownBlock ∧ some k_ ≠ (.slice Ao38 t384.length co38 : Value).ownBlock) ∧ some k_ ≠ (.slice Ao117 t402.length co117 : Value).ownBlock) ∧ some k_ ≠ (.slice Ao125 t406.length co125 : Value).ownBlock)) (n := t373.length) (c := co24) ?_).2.2; exact (by (with_reducible repeat (first | apply Kd.R_alloc | apply Kd.R_drewN | apply Kd.R_drew)); exact (Kd.R_mono (Kd.R_far (p := ⟨gb410, 1, none⟩) (Kd.R_far (p := ⟨gb410, 0, none⟩) (Kd.R_types HO_378001.out BK410.out (by decide)) (fun _ hk => hk.2) (.int .i64 t405)) (fun _ hk => hk.2) (.slice Ao125 t406.length co125)) (fun _ h_ => h_.1)))); (case side4 => exact (Kd.R_reads' HO_378001.out).2.1); rintro e w137 ⟨rfl, hb⟩; refine ⟨_, rfl, ?_⟩; have n0_ := Aside0.mk (Kd.R_below (by (with_reducible repeat (first | apply Kd.R_alloc | apply Kd.R_drewN | apply Kd.R_drew)); exact (Kd.R_mono (Kd.R_far (p := ⟨gb410, 1, none⟩) (Kd.R_far (p := ⟨gb410, 0, none⟩) (Kd.R_types HO_378001.out BK410.out (by decide)) (fun _ hk => hk.2) (.int .i64 t405)) (fun _ hk => hk.2) (.slice Ao125 t406.length co125)) (fun _ h_ => h_.1))) hb); have n1_ := Aside0.mk (Kd.R_below (by (with_reducible repeat (first | apply Kd.R_alloc | apply Kd.R_drewN | apply Kd.R_drew)); exact (Kd.R_mono (Kd.R_far (p := ⟨gb410, 1, none⟩) (Kd.R_far (p := ⟨gb410, 0, none⟩) (Kd.R_types HO_383001.out BK410.out (by decide)) (fun _ hk => hk.2) (.int .i64 t405)) (fun _ hk => hk.2) (.slice Ao125 t406.length co125)) (fun _ h_ => h_.1))) hb); have n2_ := Aside0.mk (Kd.R_below (by (with_reducible repeat (first | apply Kd.R_alloc | apply Kd.R_drewN | apply Kd.R_drew)); exact (Kd.R_mono (Kd.R_far (p := ⟨gb410, 1, none⟩) (Kd.R_far (p := ⟨gb410, 0, none⟩) (Kd.R_types HO_389001.out BK410.out (by decide)) (fun _ hk => hk.2) (.int .i64 t405)) (fun _ hk => hk.2) (.slice Ao125 t406.length co125)) (fun _ h_ => h_.1))) hb); have n3_ := Aside0.mk (Kd.R_below (by (with_reducible repeat (first | apply Kd.R_alloc | apply Kd.R_drewN | apply Kd.R_drew)); exact (Kd.R_mono (Kd.R_far (p := ⟨gb410, 1, none⟩) (Kd.R_far (p := ⟨gb410, 0, none⟩) (Kd.R_types HO404.out BK410.out (by decide)) (fun _ hk => hk.2) (.int .i64 t405)) (fun _ hk => hk.2) (.slice Ao125 t406.length co125)) (fun _ h_ => h_.1))) hb); have n4_ := Aside0.mk (Kd.R_below (by (with_reducible repeat (first | apply Kd.R_alloc | apply Kd.R_drewN | apply Kd.R_drew)); exact (Kd.R_mono (Kd.R_far (p := ⟨gb410, 1, none⟩) (Kd.R_far (p := ⟨gb410, 0, none⟩) (Kd.R_types HO408.out BK410.out (by decide)) (fun _ hk => hk.2) (.int .i64 t405)) (fun _ hk => hk.2) (.slice Ao125 t406.length co125)) (fun _ h_ => h_.1))) hb); have n5_ := Aside0.mk (blk_below (g := gb366) (o := .cells #[.int .i64 a0_0, .slice A0_1 l0_1.length c0_1] 32 (0, 0)) (by (with_reducible repeat (first | refine blk_drewN ?_ _ | refine blk_drew ?_ | refine blk_alloc ?_ _)); refine blk_far ?_ NB366_410.out _; (with_reducible repeat (first | refine blk_drewN ?_ _ | refine blk_drew ?_ | refine blk_alloc ?_ _)); refine blk_far ?_ NB366_410.out _; (with_reducible repeat (first | refine blk_drewN ?_ _ | refine blk_drew ?_ | refine blk_alloc ?_ _)); exact BK366.out) hb); have n6_ := Aside0.mk (blk_below (g := gb377) (o := .cells #[.int .i64 t372, .slice Ao24 t373.length co24] 24 (0, 0)) (by (with_reducible repeat (first | refine blk_drewN ?_ _ | refine blk_drew ?_ | refine blk_alloc ?_ _)); refine blk_far ?_ NB377_410.out _; (with_reducible repeat (first | refine blk_drewN ?_ _ | refine blk_drew ?_ | refine blk_alloc ?_ _)); refine blk_far ?_ NB377_410.out _; (with_reducible repeat (first | refine blk_drewN ?_ _ | refine blk_drew ?_ | refine blk_alloc ?_ _)); exact BK377.out) hb); have n7_ := Aside0.mk (blk_below (g := gb382) (o := .cells #[.int .i64 t378, .slice Ao31 t396.length co31] 24 (0, 0)) (by (with_reducible repeat (first | refine blk_drewN ?_ _ | refine blk_drew ?_ | refine blk_alloc ?_ _)); refine blk_far ?_ NB382_410.out _; (with_reducible repeat (first | refine blk_drewN ?_ _ | refine blk_drew ?_ | refine blk_alloc ?_ _)); refine blk_far ?_ NB382_410.out _; (with_reducible repeat (first | refine blk_drewN ?_ _ | refine blk_drew ?_ | refine blk_alloc ?_ _)); exact BK382.out) hb); have n8_ := Aside0.mk (blk_below (g := gb388) (o := .cells #[.int .i64 t383, .slice Ao38 t384.length co38] 24 (0, 0)) (by (with_reducible repeat (first | refine blk_drewN ?_ _ | refine blk_drew ?_ | refine blk_alloc ?_ _)); refine blk_far ?_ NB388_410.out _; (with_reducible repeat (first | refine blk_drewN ?_ _ | refine blk_drew ?_ | refine blk_alloc ?_ _)); refine blk_far ?_ NB388_410.out _; (with_reducible repeat (first | refine blk_drewN ?_ _ | refine blk_drew ?_ | refine blk_alloc ?_ _)); exact BK388.out) hb); have n9_ := Aside0.mk (blk_below (g := gb410) (o := .cells #[.int .i64 t405, .slice Ao125 t406.length co125] 24 (0, 0)) (by (with_reducible repeat (first | refine blk_drewN ?_ _ | refine blk_drew ?_ | refine blk_alloc ?_ _)); refine blk_put (cs := #[.int .i64 t405, .slice none 0 0]) ?_ 1 _ rfl; (with_reducible repeat (first | refine blk_drewN ?_ _ | refine blk_drew ?_ | refine blk_alloc ?_ _)); refine blk_put (cs := #[.int .i64 0, .slice none 0 0]) ?_ 0 _ rfl; (with_reducible repeat (first | refine blk_drewN ?_ _ | refine blk_drew ?_ | refine blk_alloc ?_ _)); exact BK410.out) hb); have n10_ := Aside0.mk (below_step (by repeat (first | (with_reducible first | exact HB.out | apply below_alloc | apply pw_below_drewN | apply below_drew1 | refine below_set ?_ GE366.out | refine below_set ?_ GE377.out | refine below_set ?_ GE382.out | refine below_set ?_ GE388.out | refine below_set ?_ GE410.out) | exact HB.out)) hb); clear HO_378001; clear HO_383001; clear HO_389001; clear HO404; clear HO408; clear BK366; clear BK377; clear BK382; clear BK388; clear BK410; clear HB; have HO_378001 := n0_; have HO_383001 := n1_; have HO_389001 := n2_; have HO404 := n3_; have HO408 := n4_; have BK366 := n5_; have BK377 := n6_; have BK382 := n7_; have BK388 := n8_; have BK410 := n9_; have HB := n10_; clear n0_ n1_ n2_ n3_ n4_ n5_ n6_ n7_ n8_ n9_ n10_; (try clear hb); (try clear hb2); (try clear hk); (try clear hi)))
             go_meet
             case rel => exact ⟨_, ((t409 != t376)), (by first | rfl | (simp; done) | (simp [*]; done)), H', ⟨by have := HJ12.out; have := HJ61.out; first | omega | exact Nat.le_refl _⟩, ⟨by (try simp only [hl383001_61]); (with_reducible repeat (first | apply Kd.R_alloc | apply Kd.R_drewN | apply Kd.R_drew)); exact Kd.R_mono HO_378001.out (fun _ hk => ⟨hk.1.1.1, ⟨hk.1.1.2, hk.2⟩⟩)⟩, ⟨by (try simp only [hl383001_61]); (with_reducible repeat (first | apply Kd.R_alloc | apply Kd.R_drewN | apply Kd.R_drew)); exact Kd.R_mono HO_383001.out (fun _ hk => ⟨hk.1.1.1, ⟨hk.1.1.2, hk.2⟩⟩)⟩, ⟨by (try simp only [hl383001_61]); (with_reducible repeat (first | apply Kd.R_alloc | apply Kd.R_drewN | apply Kd.R_drew)); exact Kd.R_mono HO_389001.out (fun _ hk => ⟨hk.1.1.1, ⟨hk.1.1.2, hk.2⟩⟩)⟩, ⟨by (try simp only [hl383001_61]); (with_reducible repeat (first | apply Kd.R_alloc | apply Kd.R_drewN | apply Kd.R_drew)); exact Kd.R_mono HO408.out (fun _ hk => ⟨hk.1.1.1.2, ⟨hk.1.1.2, hk.1.2⟩⟩)⟩, ⟨by (try simp only [hl383001_61]); (with_reducible repeat (first | refine blk_drewN ?_ _ | refine blk_drew ?_ | refine blk_alloc ?_ _)); exact BK366.out⟩, ⟨by (try simp only [hl383001_61]); (with_reducible repeat (first | refine blk_drewN ?_ _ | refine blk_drew ?_ | refine blk_alloc ?_ _)); exact BK377.out⟩, ⟨by (try simp only [hl383001_61]); (with_reducible repeat (first | refine blk_drewN ?_ _ | refine blk_drew ?_ | refine blk_alloc ?_ _)); exact BK382.out⟩, ⟨by (try simp only [hl383001_61]); (with_reducible repeat (first | refine blk_drewN ?_ _ | refine blk_drew ?_ | refine blk_alloc ?_ _)); exact BK388.out⟩, ⟨by (try simp only [hl383001_61]); (with_reducible repeat (first | refine blk_drewN ?_ _ | refine blk_drew ?_ | refine blk_alloc ?_ _)); exact BK410.out⟩, ⟨by repeat (first | (with_reducible first | exact HB.out | apply below_alloc | apply pw_below_drewN | apply below_drew1 | refine below_set ?_ GE366.out | refine below_set ?_ GE377.out | refine below_set ?_ GE382.out | refine below_set ?_ GE388.out | refine below_set ?_ GE410.out) | exact HB.out)⟩⟩
            ·replace c127 := Bool.eq_false_iff.mpr c127
             subst c127
             have H1 : (laws_FnExactDropOld.j2 kj61 t398 true t383 t399) = some r := by rw [if_neg (show ¬ (false = true) by decide)] at H; exact H
             clear H
             have H := H1
             clear H1
             have H' := Aside0.mk H
             clear H
             have hnb138 := NB410_366.out
             have hnc138 := NB366_410.out
             have hnb139 := NB410_377.out
             have hnc139 := NB377_410.out
             have hnb140 := NB410_382.out
             have hnc140 := NB382_410.out
             have hnb141 := NB410_388.out
             have hnc141 := NB388_410.out
             have hcz142_0 : w119.cell? ⟨gb410, 0, none⟩ = some (.int .i64 0) := (blk_cell BK410.out 0).trans rfl
             have hcz142_1 : w119.cell? ⟨gb410, 1, none⟩ = some (.slice none 0 0) := (blk_cell BK410.out 1).trans rfl
             have hfz142_0 := blk_frozen BK410.out 0
             have hfz142_1 := blk_frozen BK410.out 1
             have hnb143 := NB377_366.out
             have hnc143 := NB366_377.out
             have hnb144 := NB377_382.out
             have hnc144 := NB382_377.out
             have hnb145 := NB377_388.out
             have hnc145 := NB388_377.out
             have hcz146_0 : w119.cell? ⟨gb377, 0, none⟩ = some (.int .i64 t372) := (blk_cell BK377.out 0).trans rfl
             have hcz146_1 : w119.cell? ⟨gb377, 1, none⟩ = some (.slice Ao24 t373.length co24) := (blk_cell BK377.out 1).trans rfl
             have hfz146_0 := blk_frozen BK377.out 0
             have hfz146_1 := blk_frozen BK377.out 1
             go_wp2_with (first | ((with_reducible refine gate_callee (f := 14) rfl ?_); refine goesL_ (some 91) rfl rfl Try.func14 (by kernel_rfl) rfl #[.agg #[.int .i64 t405, .slice Ao125 t406.length co125], .agg #[.int .i64 t372, .slice Ao24 t373.length co24]] rfl (by (try simp only [List.map_toArray, List.map_cons, List.map_nil]); first | done | rfl | (simp only [List.length_drop, List.length_take]; rfl)) ?_; (with_reducible refine (laws_eqTable.calls kj61 t405 _ _ t406 t372 _ _ t373 false _ ?side1 ?side2 ?side3 ?side4 A126.out).mono ?_); (case side1 => refine (Kd.R_reads' (e := 53) (base := w.heap.size) (ok := fun k_ => ((((True ∧ some k_ ≠ (.slice Ao24 t373.length co24 : Value).ownBlock) ∧ some k_ ≠ (.slice Ao31 t396.length co31 : Value).ownBlock) ∧ some k_ ≠ (.slice Ao38 t384.length co38 : Value).ownBlock) ∧ some k_ ≠ (.slice Ao117 t402.length co117 : Value).ownBlock)) (n := t406.length) (c := co125) ?_).2.2; exact (by (with_reducible repeat (first | apply Kd.R_alloc | apply Kd.R_drewN | apply Kd.R_drew)); exact (Kd.R_mono (Kd.R_far (p := ⟨gb410, 1, none⟩) (Kd.R_far (p := ⟨gb410, 0, none⟩) (Kd.R_types HO408.out BK410.out (by decide)) (fun _ hk => hk.2) (.int .i64 t405)) (fun _ hk => hk.2) (.slice Ao125 t406.length co125)) (fun _ h_ => h_.1)))); (case side2 => exact (Kd.R_reads' HO408.out).2.1); (case side3 => refine (Kd.R_reads' (e := 53) (base := w.heap.size) (ok := fun k_ => (((some k_ ≠ (.slice Ao31 t396.length co31 : Value).ownBlock ∧ some k_ ≠ (.slice Ao38 t384.length co38 : Value).ownBlock) ∧ some k_ ≠ (.slice Ao117 t402.length co117 : Value).ownBlock) ∧ some k_ ≠ (.slice Ao125 t406.length co125 : Value).ownBlock)) (n := t373.length) (c := co24) ?_).2.2; exact (by (with_reducible repeat (first | apply Kd.R_alloc | apply Kd.R_drewN | apply Kd.R_drew)); exact (Kd.R_mono (Kd.R_far (p := ⟨gb410, 1, none⟩) (Kd.R_far (p := ⟨gb410, 0, none⟩) (Kd.R_types HO_378001.out BK410.out (by decide)) (fun _ hk => hk.2) (.int .i64 t405)) (fun _ hk => hk.2) (.slice Ao125 t406.length co125)) (fun _ h_ => h_.1)))); (case side4 => exact (Kd.R_reads' HO_378001.out).2.1); rintro e w147 ⟨rfl, hb⟩; refine ⟨_, rfl, ?_⟩; have n0_ := Aside0.mk (Kd.R_below (by (with_reducible repeat (first | apply Kd.R_alloc | apply Kd.R_drewN | apply Kd.R_drew)); exact (Kd.R_mono (Kd.R_far (p := ⟨gb410, 1, none⟩) (Kd.R_far (p := ⟨gb410, 0, none⟩) (Kd.R_types HO_378001.out BK410.out (by decide)) (fun _ hk => hk.2) (.int .i64 t405)) (fun _ hk => hk.2) (.slice Ao125 t406.length co125)) (fun _ h_ => h_.1))) hb); have n1_ := Aside0.mk (Kd.R_below (by (with_reducible repeat (first | apply Kd.R_alloc | apply Kd.R_drewN | apply Kd.R_drew)); exact (Kd.R_mono (Kd.R_far (p := ⟨gb410, 1, none⟩) (Kd.R_far (p := ⟨gb410, 0, none⟩) (Kd.R_types HO_383001.out BK410.out (by decide)) (fun _ hk => hk.2) (.int .i64 t405)) (fun _ hk => hk.2) (.slice Ao125 t406.length co125)) (fun _ h_ => h_.1))) hb); have n2_ := Aside0.mk (Kd.R_below (by (with_reducible repeat (first | apply Kd.R_alloc | apply Kd.R_drewN | apply Kd.R_drew)); exact (Kd.R_mono (Kd.R_far (p := ⟨gb410, 1, none⟩) (Kd.R_far (p := ⟨gb410, 0, none⟩) (Kd.R_types HO_389001.out BK410.out (by decide)) (fun _ hk => hk.2) (.int .i64 t405)) (fun _ hk => hk.2) (.slice Ao125 t406.length co125)) (fun _ h_ => h_.1))) hb); have n3_ := Aside0.mk (Kd.R_below (by (with_reducible repeat (first | apply Kd.R_alloc | apply Kd.R_drewN | apply Kd.R_drew)); exact (Kd.R_mono (Kd.R_far (p := ⟨gb410, 1, none⟩) (Kd.R_far (p := ⟨gb410, 0, none⟩) (Kd.R_types HO404.out BK410.out (by decide)) (fun _ hk => hk.2) (.int .i64 t405)) (fun _ hk => hk.2) (.slice Ao125 t406.length co125)) (fun _ h_ => h_.1))) hb); have n4_ := Aside0.mk (Kd.R_below (by (with_reducible repeat (first | apply Kd.R_alloc | apply Kd.R_drewN | apply Kd.R_drew)); exact (Kd.R_mono (Kd.R_far (p := ⟨gb410, 1, none⟩) (Kd.R_far (p := ⟨gb410, 0, none⟩) (Kd.R_types HO408.out BK410.out (by decide)) (fun _ hk => hk.2) (.int .i64 t405)) (fun _ hk => hk.2) (.slice Ao125 t406.length co125)) (fun _ h_ => h_.1))) hb); have n5_ := Aside0.mk (blk_below (g := gb366) (o := .cells #[.int .i64 a0_0, .slice A0_1 l0_1.length c0_1] 32 (0, 0)) (by (with_reducible repeat (first | refine blk_drewN ?_ _ | refine blk_drew ?_ | refine blk_alloc ?_ _)); refine blk_far ?_ NB366_410.out _; (with_reducible repeat (first | refine blk_drewN ?_ _ | refine blk_drew ?_ | refine blk_alloc ?_ _)); refine blk_far ?_ NB366_410.out _; (with_reducible repeat (first | refine blk_drewN ?_ _ | refine blk_drew ?_ | refine blk_alloc ?_ _)); exact BK366.out) hb); have n6_ := Aside0.mk (blk_below (g := gb377) (o := .cells #[.int .i64 t372, .slice Ao24 t373.length co24] 24 (0, 0)) (by (with_reducible repeat (first | refine blk_drewN ?_ _ | refine blk_drew ?_ | refine blk_alloc ?_ _)); refine blk_far ?_ NB377_410.out _; (with_reducible repeat (first | refine blk_drewN ?_ _ | refine blk_drew ?_ | refine blk_alloc ?_ _)); refine blk_far ?_ NB377_410.out _; (with_reducible repeat (first | refine blk_drewN ?_ _ | refine blk_drew ?_ | refine blk_alloc ?_ _)); exact BK377.out) hb); have n7_ := Aside0.mk (blk_below (g := gb382) (o := .cells #[.int .i64 t378, .slice Ao31 t396.length co31] 24 (0, 0)) (by (with_reducible repeat (first | refine blk_drewN ?_ _ | refine blk_drew ?_ | refine blk_alloc ?_ _)); refine blk_far ?_ NB382_410.out _; (with_reducible repeat (first | refine blk_drewN ?_ _ | refine blk_drew ?_ | refine blk_alloc ?_ _)); refine blk_far ?_ NB382_410.out _; (with_reducible repeat (first | refine blk_drewN ?_ _ | refine blk_drew ?_ | refine blk_alloc ?_ _)); exact BK382.out) hb); have n8_ := Aside0.mk (blk_below (g := gb388) (o := .cells #[.int .i64 t383, .slice Ao38 t384.length co38] 24 (0, 0)) (by (with_reducible repeat (first | refine blk_drewN ?_ _ | refine blk_drew ?_ | refine blk_alloc ?_ _)); refine blk_far ?_ NB388_410.out _; (with_reducible repeat (first | refine blk_drewN ?_ _ | refine blk_drew ?_ | refine blk_alloc ?_ _)); refine blk_far ?_ NB388_410.out _; (with_reducible repeat (first | refine blk_drewN ?_ _ | refine blk_drew ?_ | refine blk_alloc ?_ _)); exact BK388.out) hb); have n9_ := Aside0.mk (blk_below (g := gb410) (o := .cells #[.int .i64 t405, .slice Ao125 t406.length co125] 24 (0, 0)) (by (with_reducible repeat (first | refine blk_drewN ?_ _ | refine blk_drew ?_ | refine blk_alloc ?_ _)); refine blk_put (cs := #[.int .i64 t405, .slice none 0 0]) ?_ 1 _ rfl; (with_reducible repeat (first | refine blk_drewN ?_ _ | refine blk_drew ?_ | refine blk_alloc ?_ _)); refine blk_put (cs := #[.int .i64 0, .slice none 0 0]) ?_ 0 _ rfl; (with_reducible repeat (first | refine blk_drewN ?_ _ | refine blk_drew ?_ | refine blk_alloc ?_ _)); exact BK410.out) hb); have n10_ := Aside0.mk (below_step (by repeat (first | (with_reducible first | exact HB.out | apply below_alloc | apply pw_below_drewN | apply below_drew1 | refine below_set ?_ GE366.out | refine below_set ?_ GE377.out | refine below_set ?_ GE382.out | refine below_set ?_ GE388.out | refine below_set ?_ GE410.out) | exact HB.out)) hb); clear HO_378001; clear HO_383001; clear HO_389001; clear HO404; clear HO408; clear BK366; clear BK377; clear BK382; clear BK388; clear BK410; clear HB; have HO_378001 := n0_; have HO_383001 := n1_; have HO_389001 := n2_; have HO404 := n3_; have HO408 := n4_; have BK366 := n5_; have BK377 := n6_; have BK382 := n7_; have BK388 := n8_; have BK410 := n9_; have HB := n10_; clear n0_ n1_ n2_ n3_ n4_ n5_ n6_ n7_ n8_ n9_ n10_; (try clear hb); (try clear hb2); (try clear hk); (try clear hi)))
             go_meet
             case rel => exact ⟨_, (true), (by first | rfl | (simp; done) | (simp [*]; done)), H', ⟨by have := HJ12.out; have := HJ61.out; first | omega | exact Nat.le_refl _⟩, ⟨by (try simp only [hl383001_61]); (with_reducible repeat (first | apply Kd.R_alloc | apply Kd.R_drewN | apply Kd.R_drew)); exact Kd.R_mono HO_378001.out (fun _ hk => ⟨hk.1.1.1, ⟨hk.1.1.2, hk.2⟩⟩)⟩, ⟨by (try simp only [hl383001_61]); (with_reducible repeat (first | apply Kd.R_alloc | apply Kd.R_drewN | apply Kd.R_drew)); exact Kd.R_mono HO_383001.out (fun _ hk => ⟨hk.1.1.1, ⟨hk.1.1.2, hk.2⟩⟩)⟩, ⟨by (try simp only [hl383001_61]); (with_reducible repeat (first | apply Kd.R_alloc | apply Kd.R_drewN | apply Kd.R_drew)); exact Kd.R_mono HO_389001.out (fun _ hk => ⟨hk.1.1.1, ⟨hk.1.1.2, hk.2⟩⟩)⟩, ⟨by (try simp only [hl383001_61]); (with_reducible repeat (first | apply Kd.R_alloc | apply Kd.R_drewN | apply Kd.R_drew)); exact Kd.R_mono HO408.out (fun _ hk => ⟨hk.1.1.1.2, ⟨hk.1.1.2, hk.1.2⟩⟩)⟩, ⟨by (try simp only [hl383001_61]); (with_reducible repeat (first | refine blk_drewN ?_ _ | refine blk_drew ?_ | refine blk_alloc ?_ _)); exact BK366.out⟩, ⟨by (try simp only [hl383001_61]); (with_reducible repeat (first | refine blk_drewN ?_ _ | refine blk_drew ?_ | refine blk_alloc ?_ _)); exact BK377.out⟩, ⟨by (try simp only [hl383001_61]); (with_reducible repeat (first | refine blk_drewN ?_ _ | refine blk_drew ?_ | refine blk_alloc ?_ _)); exact BK382.out⟩, ⟨by (try simp only [hl383001_61]); (with_reducible repeat (first | refine blk_drewN ?_ _ | refine blk_drew ?_ | refine blk_alloc ?_ _)); exact BK388.out⟩, ⟨by (try simp only [hl383001_61]); (with_reducible repeat (first | refine blk_drewN ?_ _ | refine blk_drew ?_ | refine blk_alloc ?_ _)); exact BK410.out⟩, ⟨by repeat (first | (with_reducible first | exact HB.out | apply below_alloc | apply pw_below_drewN | apply below_drew1 | refine below_set ?_ GE366.out | refine below_set ?_ GE377.out | refine below_set ?_ GE382.out | refine below_set ?_ GE388.out | refine below_set ?_ GE410.out) | exact HB.out)⟩⟩
           case rest =>
            clear HC105
            try clear c1
            try clear c2
            try clear p2
            try clear c3
            try clear c4
            try clear c5
            try clear c5b0
            try clear c6
            try clear c7
            try clear c8
            try clear c9
            try clear c10
            try clear c11
            try clear c12
            try clear c13
            try clear c14
            try clear c15
            try clear c16
            try clear c17
            try clear c19
            try clear c22
            try clear c28
            try clear c29
            try clear c34
            try clear c35
            try clear c36
            try clear c40
            try clear c41
            try clear c42
            try clear c43
            try clear c45
            try clear c46
            try clear c49
            try clear c50
            try clear c51
            try clear c53
            try clear c54
            try clear c57
            try clear c60
            try clear c67
            try clear c68
            try clear c69
            try clear c72
            try clear c72b0
            try clear c74
            try clear c75
            try clear c76
            try clear c77
            try clear c79
            try clear c80
            try clear c83
            try clear c84
            try clear c85
            try clear c87
            try clear c88
            try clear c91
            try clear c94
            try clear c94b0
            try clear c95
            try clear c96
            try clear c97
            try clear c102
            try clear c102b0
            try clear c102b1
            try clear c106
            try clear c107
            try clear c108
            try clear c113
            try clear c114
            try clear c120
            try clear c121
            try clear c122
            try clear c123
            try clear c127
            try clear c128
            try clear c129
            try clear c130
            try clear c131
            try clear c133
            try clear c134
            try clear c135
            try clear c138
            try clear c139
            try clear c140
            try clear c141
            try clear c143
            try clear c144
            try clear c145
            try clear hcz100_0
            try clear hcz100_1
            try clear hcz109_0
            try clear hcz109_1
            try clear hcz111_0
            try clear hcz111_1
            try clear hcz115_0
            try clear hcz115_1
            try clear hcz124_0
            try clear hcz124_1
            try clear hcz132_0
            try clear hcz132_1
            try clear hcz136_0
            try clear hcz136_1
            try clear hcz142_0
            try clear hcz142_1
            try clear hcz146_0
            try clear hcz146_1
            try clear hcz15_0
            try clear hcz15_1
            try clear hcz17_0
            try clear hcz17_1
            try clear hcz23_0
            try clear hcz23_1
            try clear hcz25_0
            try clear hcz25_1
            try clear hcz30_0
            try clear hcz30_1
            try clear hcz37_0
            try clear hcz37_1
            try clear hcz44_0
            try clear hcz44_1
            try clear hcz47_0
            try clear hcz47_1
            try clear hcz52_0
            try clear hcz52_1
            try clear hcz55_0
            try clear hcz55_1
            try clear hcz70_0
            try clear hcz70_1
            try clear hcz78_0
            try clear hcz78_1
            try clear hcz7_0
            try clear hcz7_1
            try clear hcz81_0
            try clear hcz81_1
            try clear hcz86_0
            try clear hcz86_1
            try clear hcz89_0
            try clear hcz89_1
            try clear hcz98_0
            try clear hcz98_1
            try clear hfz100_0
            try clear hfz100_1
            try clear hfz109_0
            try clear hfz109_1
            try clear hfz111_0
            try clear hfz111_1
            try clear hfz115_0
            try clear hfz115_1
            try clear hfz124_0
            try clear hfz124_1
            try clear hfz132_0
            try clear hfz132_1
            try clear hfz136_0
            try clear hfz136_1
            try clear hfz142_0
            try clear hfz142_1
            try clear hfz146_0
            try clear hfz146_1
            try clear hfz15_0
            try clear hfz15_1
            try clear hfz17_0
            try clear hfz17_1
            try clear hfz23_0
            try clear hfz23_1
            try clear hfz25_0
            try clear hfz25_1
            try clear hfz30_0
            try clear hfz30_1
            try clear hfz37_0
            try clear hfz37_1
            try clear hfz44_0
            try clear hfz44_1
            try clear hfz47_0
            try clear hfz47_1
            try clear hfz52_0
            try clear hfz52_1
            try clear hfz55_0
            try clear hfz55_1
            try clear hfz70_0
            try clear hfz70_1
            try clear hfz78_0
            try clear hfz78_1
            try clear hfz7_0
            try clear hfz7_1
            try clear hfz81_0
            try clear hfz81_1
            try clear hfz86_0
            try clear hfz86_1
            try clear hfz89_0
            try clear hfz89_1
            try clear hfz98_0
            try clear hfz98_1
            try clear p2
            obtain ⟨kq, x97_104, rfl, HA, HJ104, HO_378001, HO_383001, HO_389001, HO_411001, BK366, BK377, BK382, BK388, BK410, HB⟩ := hcut
            have hl389001_104 := (Kd.R_reads' HO_389001.out).1
            rw [hl389001_104] at HO_389001
            (try simp only [hl389001_104])
            (try simp only [hl389001_104] at BK366)
            (try simp only [hl389001_104] at BK377)
            (try simp only [hl389001_104] at BK382)
            (try simp only [hl389001_104] at BK388)
            (try simp only [hl389001_104] at BK410)
            (try simp only [hl389001_104] at HO_378001)
            (try simp only [hl389001_104] at HO_383001)
            (try simp only [hl389001_104] at HO_411001)
            cases kq with
            | zero => exact absurd HA.out (by simp [laws_FnExactDropOld.j2])
            | succ kj104 =>
             have H := HA.out
             clear HA
             simp only [laws_FnExactDropOld.j2] at H
             by_cases c148 : x97_104 = true
             ·subst c148
              have H1 : (some false) = some r := by rw [if_pos rfl] at H; exact H
              clear H
              have H := H1
              clear H1
              obtain rfl := Option.some.inj H
              go_wp2
              go_ret
              exact ⟨by first | rfl | (simp [errW_none, errW_some] <;> rfl) | (simp [*, errW_none, errW_some] <;> rfl), by repeat (first | (with_reducible first | exact HB.out | apply below_alloc | apply pw_below_drewN | apply below_drew1 | refine below_set ?_ GE366.out | refine below_set ?_ GE377.out | refine below_set ?_ GE382.out | refine below_set ?_ GE388.out | refine below_set ?_ GE410.out) | exact HB.out)⟩
             ·replace c148 := Bool.eq_false_iff.mpr c148
              subst c148
              have H1 : ((laws_heldTable.f kj104 t383 t399 1).bind fun t412 => (if t412 < 0 then (some false) else (if t412 = t398 then (some true) else (some false)))) = some r := by rw [if_neg (show ¬ (false = true) by decide)] at H; exact H
              clear H
              have H := H1
              clear H1
              replace H := Option.bind_eq_some_iff.mp H
              obtain ⟨t412, A1490, H⟩ := H
              replace H : (if t412 < 0 then (some false) else (if t412 = t398 then (some true) else (some false))) = some r := H
              have A149 := Aside0.mk A1490
              clear A1490
              by_cases c150 : t412 < 0
              ·rw [if_pos c150] at H
               have c150b0 : decide (t412 < 0) = true := decide_eq_true c150
               clear c150
               obtain rfl := Option.some.inj H
               have hnb151 := NB388_366.out
               have hnc151 := NB366_388.out
               have hnb152 := NB388_377.out
               have hnc152 := NB377_388.out
               have hnb153 := NB388_382.out
               have hnc153 := NB382_388.out
               have hnb154 := NB388_410.out
               have hnc154 := NB410_388.out
               have hcz155_0 : wc.cell? ⟨gb388, 0, none⟩ = some (.int .i64 t383) := (blk_cell BK388.out 0).trans rfl
               have hcz155_1 : wc.cell? ⟨gb388, 1, none⟩ = some (.slice Ao38 t399.length co38) := (blk_cell BK388.out 1).trans rfl
               have hfz155_0 := blk_frozen BK388.out 0
               have hfz155_1 := blk_frozen BK388.out 1
               go_wp2_with (first | ((with_reducible refine gate_callee (f := 16) rfl ?_); refine goesL_ (some 100) rfl rfl Try.func16 (by kernel_rfl) rfl #[.agg #[.int .i64 t383, .slice Ao38 t399.length co38], .int .i64 1] rfl (by (try simp only [List.map_toArray, List.map_cons, List.map_nil]); first | done | rfl | (simp only [List.length_drop, List.length_take]; rfl)) ?_; (with_reducible refine (laws_heldTable.calls kj104 t383 _ _ t399 1 t412 _ ?side1 ?side2 A149.out).mono ?_); (case side1 => repeat (first | exact (Kd.R_reads' HO_389001.out).2.2 | (with_reducible refine Kd.C_alloc ?_ _) | (with_reducible refine Kd.C_drewN ?_ _) | (with_reducible refine Kd.C_drew ?_))); (case side2 => exact (Kd.R_reads' HO_389001.out).2.1); rintro e w156 ⟨rfl, hb⟩; refine ⟨_, rfl, ?_⟩; have n0_ := Aside0.mk (Kd.R_below (by (with_reducible repeat (first | apply Kd.R_alloc | apply Kd.R_drewN | apply Kd.R_drew)); exact HO_378001.out) hb); have n1_ := Aside0.mk (Kd.R_below (by (with_reducible repeat (first | apply Kd.R_alloc | apply Kd.R_drewN | apply Kd.R_drew)); exact HO_383001.out) hb); have n2_ := Aside0.mk (Kd.R_below (by (with_reducible repeat (first | apply Kd.R_alloc | apply Kd.R_drewN | apply Kd.R_drew)); exact HO_389001.out) hb); have n3_ := Aside0.mk (Kd.R_below (by (with_reducible repeat (first | apply Kd.R_alloc | apply Kd.R_drewN | apply Kd.R_drew)); exact HO_411001.out) hb); have n4_ := Aside0.mk (blk_below (g := gb366) (o := .cells #[.int .i64 a0_0, .slice A0_1 l0_1.length c0_1] 32 (0, 0)) (by (with_reducible repeat (first | refine blk_drewN ?_ _ | refine blk_drew ?_ | refine blk_alloc ?_ _)); exact BK366.out) hb); have n5_ := Aside0.mk (blk_below (g := gb377) (o := .cells #[.int .i64 t372, .slice Ao24 t373.length co24] 24 (0, 0)) (by (with_reducible repeat (first | refine blk_drewN ?_ _ | refine blk_drew ?_ | refine blk_alloc ?_ _)); exact BK377.out) hb); have n6_ := Aside0.mk (blk_below (g := gb382) (o := .cells #[.int .i64 t378, .slice Ao31 t396.length co31] 24 (0, 0)) (by (with_reducible repeat (first | refine blk_drewN ?_ _ | refine blk_drew ?_ | refine blk_alloc ?_ _)); exact BK382.out) hb); have n7_ := Aside0.mk (blk_below (g := gb388) (o := .cells #[.int .i64 t383, .slice Ao38 t399.length co38] 24 (0, 0)) (by (with_reducible repeat (first | refine blk_drewN ?_ _ | refine blk_drew ?_ | refine blk_alloc ?_ _)); exact BK388.out) hb); have n8_ := Aside0.mk (blk_below (g := gb410) (o := .cells #[.int .i64 t405, .slice Ao125 t406.length co125] 24 (0, 0)) (by (with_reducible repeat (first | refine blk_drewN ?_ _ | refine blk_drew ?_ | refine blk_alloc ?_ _)); exact BK410.out) hb); have n9_ := Aside0.mk (below_step (by repeat (first | (with_reducible first | exact HB.out | apply below_alloc | apply pw_below_drewN | apply below_drew1 | refine below_set ?_ GE366.out | refine below_set ?_ GE377.out | refine below_set ?_ GE382.out | refine below_set ?_ GE388.out | refine below_set ?_ GE410.out) | exact HB.out)) hb); clear HO_378001; clear HO_383001; clear HO_389001; clear HO_411001; clear BK366; clear BK377; clear BK382; clear BK388; clear BK410; clear HB; have HO_378001 := n0_; have HO_383001 := n1_; have HO_389001 := n2_; have HO_411001 := n3_; have BK366 := n4_; have BK377 := n5_; have BK382 := n6_; have BK388 := n7_; have BK410 := n8_; have HB := n9_; clear n0_ n1_ n2_ n3_ n4_ n5_ n6_ n7_ n8_ n9_; (try clear hb); (try clear hb2); (try clear hk); (try clear hi)))
               go_ret
               exact ⟨by first | rfl | (simp [errW_none, errW_some] <;> rfl) | (simp [*, errW_none, errW_some] <;> rfl), by repeat (first | (with_reducible first | exact HB.out | apply below_alloc | apply pw_below_drewN | apply below_drew1 | refine below_set ?_ GE366.out | refine below_set ?_ GE377.out | refine below_set ?_ GE382.out | refine below_set ?_ GE388.out | refine below_set ?_ GE410.out) | exact HB.out)⟩
              ·rw [if_neg c150] at H
               have c150b0 : decide (t412 < 0) = false := decide_eq_false c150
               clear c150
               by_cases c157 : t412 = t398
               ·rw [if_pos c157] at H
                have c157b0 : (t412 == t398) = true := beq_iff_eq.mpr c157
                have c157b1 : (t412 != t398) = false := bne_eq_false_iff_eq.mpr c157
                clear c157
                obtain rfl := Option.some.inj H
                have hnb158 := NB388_366.out
                have hnc158 := NB366_388.out
                have hnb159 := NB388_377.out
                have hnc159 := NB377_388.out
                have hnb160 := NB388_382.out
                have hnc160 := NB382_388.out
                have hnb161 := NB388_410.out
                have hnc161 := NB410_388.out
                have hcz162_0 : wc.cell? ⟨gb388, 0, none⟩ = some (.int .i64 t383) := (blk_cell BK388.out 0).trans rfl
                have hcz162_1 : wc.cell? ⟨gb388, 1, none⟩ = some (.slice Ao38 t399.length co38) := (blk_cell BK388.out 1).trans rfl
                have hfz162_0 := blk_frozen BK388.out 0
                have hfz162_1 := blk_frozen BK388.out 1
                go_wp2_with (first | ((with_reducible refine gate_callee (f := 16) rfl ?_); refine goesL_ (some 100) rfl rfl Try.func16 (by kernel_rfl) rfl #[.agg #[.int .i64 t383, .slice Ao38 t399.length co38], .int .i64 1] rfl (by (try simp only [List.map_toArray, List.map_cons, List.map_nil]); first | done | rfl | (simp only [List.length_drop, List.length_take]; rfl)) ?_; (with_reducible refine (laws_heldTable.calls kj104 t383 _ _ t399 1 t412 _ ?side1 ?side2 A149.out).mono ?_); (case side1 => repeat (first | exact (Kd.R_reads' HO_389001.out).2.2 | (with_reducible refine Kd.C_alloc ?_ _) | (with_reducible refine Kd.C_drewN ?_ _) | (with_reducible refine Kd.C_drew ?_))); (case side2 => exact (Kd.R_reads' HO_389001.out).2.1); rintro e w163 ⟨rfl, hb⟩; refine ⟨_, rfl, ?_⟩; have n0_ := Aside0.mk (Kd.R_below (by (with_reducible repeat (first | apply Kd.R_alloc | apply Kd.R_drewN | apply Kd.R_drew)); exact HO_378001.out) hb); have n1_ := Aside0.mk (Kd.R_below (by (with_reducible repeat (first | apply Kd.R_alloc | apply Kd.R_drewN | apply Kd.R_drew)); exact HO_383001.out) hb); have n2_ := Aside0.mk (Kd.R_below (by (with_reducible repeat (first | apply Kd.R_alloc | apply Kd.R_drewN | apply Kd.R_drew)); exact HO_389001.out) hb); have n3_ := Aside0.mk (Kd.R_below (by (with_reducible repeat (first | apply Kd.R_alloc | apply Kd.R_drewN | apply Kd.R_drew)); exact HO_411001.out) hb); have n4_ := Aside0.mk (blk_below (g := gb366) (o := .cells #[.int .i64 a0_0, .slice A0_1 l0_1.length c0_1] 32 (0, 0)) (by (with_reducible repeat (first | refine blk_drewN ?_ _ | refine blk_drew ?_ | refine blk_alloc ?_ _)); exact BK366.out) hb); have n5_ := Aside0.mk (blk_below (g := gb377) (o := .cells #[.int .i64 t372, .slice Ao24 t373.length co24] 24 (0, 0)) (by (with_reducible repeat (first | refine blk_drewN ?_ _ | refine blk_drew ?_ | refine blk_alloc ?_ _)); exact BK377.out) hb); have n6_ := Aside0.mk (blk_below (g := gb382) (o := .cells #[.int .i64 t378, .slice Ao31 t396.length co31] 24 (0, 0)) (by (with_reducible repeat (first | refine blk_drewN ?_ _ | refine blk_drew ?_ | refine blk_alloc ?_ _)); exact BK382.out) hb); have n7_ := Aside0.mk (blk_below (g := gb388) (o := .cells #[.int .i64 t383, .slice Ao38 t399.length co38] 24 (0, 0)) (by (with_reducible repeat (first | refine blk_drewN ?_ _ | refine blk_drew ?_ | refine blk_alloc ?_ _)); exact BK388.out) hb); have n8_ := Aside0.mk (blk_below (g := gb410) (o := .cells #[.int .i64 t405, .slice Ao125 t406.length co125] 24 (0, 0)) (by (with_reducible repeat (first | refine blk_drewN ?_ _ | refine blk_drew ?_ | refine blk_alloc ?_ _)); exact BK410.out) hb); have n9_ := Aside0.mk (below_step (by repeat (first | (with_reducible first | exact HB.out | apply below_alloc | apply pw_below_drewN | apply below_drew1 | refine below_set ?_ GE366.out | refine below_set ?_ GE377.out | refine below_set ?_ GE382.out | refine below_set ?_ GE388.out | refine below_set ?_ GE410.out) | exact HB.out)) hb); clear HO_378001; clear HO_383001; clear HO_389001; clear HO_411001; clear BK366; clear BK377; clear BK382; clear BK388; clear BK410; clear HB; have HO_378001 := n0_; have HO_383001 := n1_; have HO_389001 := n2_; have HO_411001 := n3_; have BK366 := n4_; have BK377 := n5_; have BK382 := n6_; have BK388 := n7_; have BK410 := n8_; have HB := n9_; clear n0_ n1_ n2_ n3_ n4_ n5_ n6_ n7_ n8_ n9_; (try clear hb); (try clear hb2); (try clear hk); (try clear hi)))
                go_ret
                exact ⟨by first | rfl | (simp [errW_none, errW_some] <;> rfl) | (simp [*, errW_none, errW_some] <;> rfl), by repeat (first | (with_reducible first | exact HB.out | apply below_alloc | apply pw_below_drewN | apply below_drew1 | refine below_set ?_ GE366.out | refine below_set ?_ GE377.out | refine below_set ?_ GE382.out | refine below_set ?_ GE388.out | refine below_set ?_ GE410.out) | exact HB.out)⟩
               ·rw [if_neg c157] at H
                have c157b0 : (t412 == t398) = false := beq_eq_false_iff_ne.mpr c157
                have c157b1 : (t412 != t398) = true := bne_iff_ne.mpr c157
                obtain rfl := Option.some.inj H
                have hnb164 := NB388_366.out
                have hnc164 := NB366_388.out
                have hnb165 := NB388_377.out
                have hnc165 := NB377_388.out
                have hnb166 := NB388_382.out
                have hnc166 := NB382_388.out
                have hnb167 := NB388_410.out
                have hnc167 := NB410_388.out
                have hcz168_0 : wc.cell? ⟨gb388, 0, none⟩ = some (.int .i64 t383) := (blk_cell BK388.out 0).trans rfl
                have hcz168_1 : wc.cell? ⟨gb388, 1, none⟩ = some (.slice Ao38 t399.length co38) := (blk_cell BK388.out 1).trans rfl
                have hfz168_0 := blk_frozen BK388.out 0
                have hfz168_1 := blk_frozen BK388.out 1
                go_wp2_with (first | ((with_reducible refine gate_callee (f := 16) rfl ?_); refine goesL_ (some 100) rfl rfl Try.func16 (by kernel_rfl) rfl #[.agg #[.int .i64 t383, .slice Ao38 t399.length co38], .int .i64 1] rfl (by (try simp only [List.map_toArray, List.map_cons, List.map_nil]); first | done | rfl | (simp only [List.length_drop, List.length_take]; rfl)) ?_; (with_reducible refine (laws_heldTable.calls kj104 t383 _ _ t399 1 t412 _ ?side1 ?side2 A149.out).mono ?_); (case side1 => repeat (first | exact (Kd.R_reads' HO_389001.out).2.2 | (with_reducible refine Kd.C_alloc ?_ _) | (with_reducible refine Kd.C_drewN ?_ _) | (with_reducible refine Kd.C_drew ?_))); (case side2 => exact (Kd.R_reads' HO_389001.out).2.1); rintro e w169 ⟨rfl, hb⟩; refine ⟨_, rfl, ?_⟩; have n0_ := Aside0.mk (Kd.R_below (by (with_reducible repeat (first | apply Kd.R_alloc | apply Kd.R_drewN | apply Kd.R_drew)); exact HO_378001.out) hb); have n1_ := Aside0.mk (Kd.R_below (by (with_reducible repeat (first | apply Kd.R_alloc | apply Kd.R_drewN | apply Kd.R_drew)); exact HO_383001.out) hb); have n2_ := Aside0.mk (Kd.R_below (by (with_reducible repeat (first | apply Kd.R_alloc | apply Kd.R_drewN | apply Kd.R_drew)); exact HO_389001.out) hb); have n3_ := Aside0.mk (Kd.R_below (by (with_reducible repeat (first | apply Kd.R_alloc | apply Kd.R_drewN | apply Kd.R_drew)); exact HO_411001.out) hb); have n4_ := Aside0.mk (blk_below (g := gb366) (o := .cells #[.int .i64 a0_0, .slice A0_1 l0_1.length c0_1] 32 (0, 0)) (by (with_reducible repeat (first | refine blk_drewN ?_ _ | refine blk_drew ?_ | refine blk_alloc ?_ _)); exact BK366.out) hb); have n5_ := Aside0.mk (blk_below (g := gb377) (o := .cells #[.int .i64 t372, .slice Ao24 t373.length co24] 24 (0, 0)) (by (with_reducible repeat (first | refine blk_drewN ?_ _ | refine blk_drew ?_ | refine blk_alloc ?_ _)); exact BK377.out) hb); have n6_ := Aside0.mk (blk_below (g := gb382) (o := .cells #[.int .i64 t378, .slice Ao31 t396.length co31] 24 (0, 0)) (by (with_reducible repeat (first | refine blk_drewN ?_ _ | refine blk_drew ?_ | refine blk_alloc ?_ _)); exact BK382.out) hb); have n7_ := Aside0.mk (blk_below (g := gb388) (o := .cells #[.int .i64 t383, .slice Ao38 t399.length co38] 24 (0, 0)) (by (with_reducible repeat (first | refine blk_drewN ?_ _ | refine blk_drew ?_ | refine blk_alloc ?_ _)); exact BK388.out) hb); have n8_ := Aside0.mk (blk_below (g := gb410) (o := .cells #[.int .i64 t405, .slice Ao125 t406.length co125] 24 (0, 0)) (by (with_reducible repeat (first | refine blk_drewN ?_ _ | refine blk_drew ?_ | refine blk_alloc ?_ _)); exact BK410.out) hb); have n9_ := Aside0.mk (below_step (by repeat (first | (with_reducible first | exact HB.out | apply below_alloc | apply pw_below_drewN | apply below_drew1 | refine below_set ?_ GE366.out | refine below_set ?_ GE377.out | refine below_set ?_ GE382.out | refine below_set ?_ GE388.out | refine below_set ?_ GE410.out) | exact HB.out)) hb); clear HO_378001; clear HO_383001; clear HO_389001; clear HO_411001; clear BK366; clear BK377; clear BK382; clear BK388; clear BK410; clear HB; have HO_378001 := n0_; have HO_383001 := n1_; have HO_389001 := n2_; have HO_411001 := n3_; have BK366 := n4_; have BK377 := n5_; have BK382 := n6_; have BK388 := n7_; have BK410 := n8_; have HB := n9_; clear n0_ n1_ n2_ n3_ n4_ n5_ n6_ n7_ n8_ n9_; (try clear hb); (try clear hb2); (try clear hk); (try clear hi)))
                go_ret
                exact ⟨by first | rfl | (simp [errW_none, errW_some] <;> rfl) | (simp [*, errW_none, errW_some] <;> rfl), by repeat (first | (with_reducible first | exact HB.out | apply below_alloc | apply pw_below_drewN | apply below_drew1 | refine below_set ?_ GE366.out | refine below_set ?_ GE377.out | refine below_set ?_ GE382.out | refine below_set ?_ GE388.out | refine below_set ?_ GE410.out) | exact HB.out)⟩
          ·rw [if_neg c102] at H
           have c102b0 : (t400 == t398) = false := beq_eq_false_iff_ne.mpr c102
           have c102b1 : (t400 != t398) = true := bne_iff_ne.mpr c102
           obtain rfl := Option.some.inj H
           have hnb170 := NB388_366.out
           have hnc170 := NB366_388.out
           have hnb171 := NB388_377.out
           have hnc171 := NB377_388.out
           have hnb172 := NB388_382.out
           have hnc172 := NB382_388.out
           have hcz173_0 : wc.cell? ⟨gb388, 0, none⟩ = some (.int .i64 t383) := (blk_cell BK388.out 0).trans rfl
           have hcz173_1 : wc.cell? ⟨gb388, 1, none⟩ = some (.slice Ao38 t384.length co38) := (blk_cell BK388.out 1).trans rfl
           have hfz173_0 := blk_frozen BK388.out 0
           have hfz173_1 := blk_frozen BK388.out 1
           go_wp2_with (first | ((with_reducible refine gate_callee (f := 15) rfl ?_); refine goesL_ (some 72) rfl rfl Try.func15 (by kernel_rfl) rfl #[.agg #[.int .i64 t383, .slice Ao38 t384.length co38], .int .i64 1] rfl (by (try simp only [List.map_toArray, List.map_cons, List.map_nil]); first | done | rfl | (simp only [List.length_drop, List.length_take]; rfl)) ?_; (with_reducible refine (laws_markTable.calls kj61 t383 (fun k_ => some k_ = (.slice Ao38 t384.length co38 : Value).ownBlock) (.slice Ao38 t384.length co38) t384 1 t398 t399 w _ ?side1 ?side2 A92.out).mono ?_); (case side1 => repeat (first | (with_reducible first | exact HB.out | apply below_alloc | apply pw_below_drewN | apply below_drew1 | refine below_set ?_ GE366.out | refine below_set ?_ GE377.out | refine below_set ?_ GE382.out | refine below_set ?_ GE388.out) | exact HB.out)); (case side2 => exact Kd.R_tight rfl HO_389001.out); rintro e w174 ⟨rfl, hy0, hb, hkp⟩; refine ⟨_, rfl, ?_⟩; have n0_ := Aside0.mk (Kd.R_mono (ok' := fun k_ => some k_ ≠ (.slice Ao31 t396.length co31 : Value).ownBlock ∧ some k_ ≠ (.slice Ao38 t384.length co38 : Value).ownBlock) (Kd.R_keptB (HO_378001.out) hkp (fun k_ hk_ hs_ => (hk_.2) hs_)) (fun k_ hk_ => ⟨hk_.1.1, hk_.1.2⟩)); have n1_ := Aside0.mk (Kd.R_mono (ok' := fun k_ => some k_ ≠ (.slice Ao24 t373.length co24 : Value).ownBlock ∧ some k_ ≠ (.slice Ao38 t384.length co38 : Value).ownBlock) (Kd.R_keptB (HO_383001.out) hkp (fun k_ hk_ hs_ => (hk_.2) hs_)) (fun k_ hk_ => ⟨hk_.1.1, hk_.1.2⟩)); have n2_ := Aside0.mk (Kd.R_reok rfl hy0 (fun k_ e_ => HO_389001.out.1 k_ e_)); have n3_ := Aside0.mk (blk_kept (by (with_reducible repeat (first | refine blk_drewN ?_ _ | refine blk_drew ?_ | refine blk_alloc ?_ _)); exact BK366.out) hkp (fun hs_ => (fun e_ => (Kd.R_ne HO_389001.out BK366.out (by decide)) e_) hs_)); have n4_ := Aside0.mk (blk_kept (by (with_reducible repeat (first | refine blk_drewN ?_ _ | refine blk_drew ?_ | refine blk_alloc ?_ _)); exact BK377.out) hkp (fun hs_ => (fun e_ => (Kd.R_ne HO_389001.out BK377.out (by decide)) e_) hs_)); have n5_ := Aside0.mk (blk_kept (by (with_reducible repeat (first | refine blk_drewN ?_ _ | refine blk_drew ?_ | refine blk_alloc ?_ _)); exact BK382.out) hkp (fun hs_ => (fun e_ => (Kd.R_ne HO_389001.out BK382.out (by decide)) e_) hs_)); have n6_ := Aside0.mk (blk_kept (by (with_reducible repeat (first | refine blk_drewN ?_ _ | refine blk_drew ?_ | refine blk_alloc ?_ _)); exact BK388.out) hkp (fun hs_ => (fun e_ => (Kd.R_ne HO_389001.out BK388.out (by decide)) e_) hs_)); have n7_ := Aside0.mk (hb); clear HO_378001; clear HO_383001; clear HO_389001; clear BK366; clear BK377; clear BK382; clear BK388; clear HB; have HO_378001 := n0_; have HO_383001 := n1_; have HO_389001 := n2_; have BK366 := n3_; have BK377 := n4_; have BK382 := n5_; have BK388 := n6_; have HB := n7_; clear n0_ n1_ n2_ n3_ n4_ n5_ n6_ n7_; (try clear hb); (try clear hkp); (try clear hy0); have hcz175_0 : w174.cell? ⟨gb388, 0, none⟩ = some (.int .i64 t383) := (blk_cell BK388.out 0).trans rfl; have hcz175_1 : w174.cell? ⟨gb388, 1, none⟩ = some (.slice Ao38 t384.length co38) := (blk_cell BK388.out 1).trans rfl; have hfz175_0 := blk_frozen BK388.out 0; have hfz175_1 := blk_frozen BK388.out 1) | ((with_reducible refine gate_callee (f := 16) rfl ?_); refine goesL_ (some 75) rfl rfl Try.func16 (by kernel_rfl) rfl #[.agg #[.int .i64 t383, .slice Ao38 t399.length co38], .int .i64 1] rfl (by (try simp only [List.map_toArray, List.map_cons, List.map_nil]); first | done | (rw [show t399.length = t384.length from (Kd.R_reads' HO_389001.out).1.symm] <;> rfl) | rfl | (simp only [List.length_drop, List.length_take]; rfl)) ?_; (with_reducible refine (laws_heldTable.calls kj61 t383 _ _ t399 1 t400 _ ?side1 ?side2 A93.out).mono ?_); (case side1 => repeat (first | exact (Kd.R_reads' HO_389001.out).2.2 | (with_reducible refine Kd.C_alloc ?_ _) | (with_reducible refine Kd.C_drewN ?_ _) | (with_reducible refine Kd.C_drew ?_))); (case side2 => rw [show t399.length = t384.length from (Kd.R_reads' HO_389001.out).1.symm]; exact (Kd.R_reads' HO_389001.out).2.1); rintro e w176 ⟨rfl, hb⟩; refine ⟨_, rfl, ?_⟩; have n0_ := Aside0.mk (Kd.R_below (by (with_reducible repeat (first | apply Kd.R_alloc | apply Kd.R_drewN | apply Kd.R_drew)); exact HO_378001.out) hb); have n1_ := Aside0.mk (Kd.R_below (by (with_reducible repeat (first | apply Kd.R_alloc | apply Kd.R_drewN | apply Kd.R_drew)); exact HO_383001.out) hb); have n2_ := Aside0.mk (Kd.R_below (by (with_reducible repeat (first | apply Kd.R_alloc | apply Kd.R_drewN | apply Kd.R_drew)); exact HO_389001.out) hb); have n3_ := Aside0.mk (blk_below (g := gb366) (o := .cells #[.int .i64 a0_0, .slice A0_1 l0_1.length c0_1] 32 (0, 0)) (by (with_reducible repeat (first | refine blk_drewN ?_ _ | refine blk_drew ?_ | refine blk_alloc ?_ _)); exact BK366.out) hb); have n4_ := Aside0.mk (blk_below (g := gb377) (o := .cells #[.int .i64 t372, .slice Ao24 t373.length co24] 24 (0, 0)) (by (with_reducible repeat (first | refine blk_drewN ?_ _ | refine blk_drew ?_ | refine blk_alloc ?_ _)); exact BK377.out) hb); have n5_ := Aside0.mk (blk_below (g := gb382) (o := .cells #[.int .i64 t378, .slice Ao31 t396.length co31] 24 (0, 0)) (by (with_reducible repeat (first | refine blk_drewN ?_ _ | refine blk_drew ?_ | refine blk_alloc ?_ _)); exact BK382.out) hb); have n6_ := Aside0.mk (blk_below (g := gb388) (o := .cells #[.int .i64 t383, .slice Ao38 t384.length co38] 24 (0, 0)) (by (with_reducible repeat (first | refine blk_drewN ?_ _ | refine blk_drew ?_ | refine blk_alloc ?_ _)); exact BK388.out) hb); have n7_ := Aside0.mk (below_step (by repeat (first | (with_reducible first | exact HB.out | apply below_alloc | apply pw_below_drewN | apply below_drew1 | refine below_set ?_ GE366.out | refine below_set ?_ GE377.out | refine below_set ?_ GE382.out | refine below_set ?_ GE388.out) | exact HB.out)) hb); clear HO_378001; clear HO_383001; clear HO_389001; clear BK366; clear BK377; clear BK382; clear BK388; clear HB; have HO_378001 := n0_; have HO_383001 := n1_; have HO_389001 := n2_; have BK366 := n3_; have BK377 := n4_; have BK382 := n5_; have BK388 := n6_; have HB := n7_; clear n0_ n1_ n2_ n3_ n4_ n5_ n6_ n7_; (try clear hb); (try clear hb2); (try clear hk); (try clear hi)))
           go_ret
           exact ⟨by first | rfl | (simp [errW_none, errW_some] <;> rfl) | (simp [*, errW_none, errW_some] <;> rfl), by repeat (first | (with_reducible first | exact HB.out | apply below_alloc | apply pw_below_drewN | apply below_drew1 | refine below_set ?_ GE366.out | refine below_set ?_ GE377.out | refine below_set ?_ GE382.out | refine below_set ?_ GE388.out) | exact HB.out)⟩
     ·replace c60 := Bool.eq_false_iff.mpr c60
      subst c60
      have H1 : (some false) = some r := by rw [if_neg (show ¬ (false = true) by decide)] at H; exact H
      clear H
      have H := H1
      clear H1
      obtain rfl := Option.some.inj H
      try go_wp2
      have n0_ := Aside0.mk (Kd.R_drew HO_378001.out)
      have n1_ := Aside0.mk (Kd.R_drew HO_383001.out)
      have n2_ := Aside0.mk (Kd.R_drew HO_389001.out)
      have n3_ := Aside0.mk (blk_drew BK366.out)
      have n4_ := Aside0.mk (blk_drew BK377.out)
      have n5_ := Aside0.mk (blk_drew BK382.out)
      have n6_ := Aside0.mk (blk_drew BK388.out)
      have n7_ := Aside0.mk (below_drew1 HB.out)
      clear HO_378001
      clear HO_383001
      clear HO_389001
      clear BK366
      clear BK377
      clear BK382
      clear BK388
      clear HB
      have HO_378001 := n0_
      have HO_383001 := n1_
      have HO_389001 := n2_
      have BK366 := n3_
      have BK377 := n4_
      have BK382 := n5_
      have BK388 := n6_
      have HB := n7_
      clear n0_ n1_ n2_ n3_ n4_ n5_ n6_ n7_
      refine start_ (n := 5) (S := fun w' => w'.cell? ⟨gb382, 0, none⟩ = some (.int .i64 t378) ∧ w'.cell? ⟨gb382, 1, none⟩ = some (.slice Ao31 t379.length co31) ∧ w'.cell? ⟨gb366, 0, none⟩ = some (.int .i64 a0_0) ∧ w'.cell? ⟨gb366, 1, none⟩ = some (.slice A0_1 l0_1.length c0_1)) (ds := []) #[false, false, false, false, false] (by kernel_rfl) rfl rfl ⟨(blk_cell BK382.out 0).trans rfl, (blk_cell BK382.out 1).trans rfl, (blk_cell BK366.out 0).trans rfl, (blk_cell BK366.out 1).trans rfl⟩ (fun hHeld => ?_)
      generalize wc.drew = w177 at HO_378001 HO_383001 HO_389001 BK366 BK377 BK382 BK388 HB hHeld ⊢
      refine take_ (i := 0) (N := some 49) (v := ?_) (a' := ?_) #[true, false, false, false, false] rfl rfl (by kernel_rfl) (fun _ _ _ h => h) (Or.inl ⟨by rfl, ?_⟩) hHeld ?_ ?_
      rotate_left
      ·rintro w' ⟨s0, s1, s2, s3⟩
       go_simp
       with_reducible rfl
      rotate_left
      ·simp only [Act.put, List.setIfInBounds_toArray, List.set_cons_zero, List.set_cons_succ, i64_w, i32_w]
       rfl
      refine take_ (i := 1) (N := some 50) (v := ?_) (a' := ?_) #[true, true, false, false, false] rfl rfl (by kernel_rfl) (fun _ _ _ h => h) (Or.inl ⟨by rfl, ?_⟩) hHeld ?_ ?_
      rotate_left
      ·rintro w' ⟨s0, s1, s2, s3⟩
       go_simp
       with_reducible rfl
      rotate_left
      ·simp only [Act.put, List.setIfInBounds_toArray, List.set_cons_zero, List.set_cons_succ, i64_w, i32_w]
       rfl
      refine one_ (i := 2) (N := some 51) #[true, true, true, false, false] rfl rfl (by kernel_rfl) (by decide) (fun K hK => ?_)
      refine goes_ Try.func19 (by kernel_rfl) rfl #[.agg #[.int .i64 a0_0, .slice A0_1 l0_1.length c0_1]] (by rfl) rfl rfl (by (try simp only [List.map_toArray, List.map_cons, List.map_nil]); first | done | rfl | (simp only [List.length_drop, List.length_take]; rfl)) ?_
      with_reducible refine (laws_toTable.calls kj12 a0_0 _ _ l0_1 t390 t391 _ ?side1 ?side2 A58.out).mono ?_
      (case side1 => repeat (first | exact (Kd.C_below HR0_1.out HB.out) | (with_reducible refine Kd.C_alloc ?_ _) | (with_reducible refine Kd.C_drewN ?_ _) | (with_reducible refine Kd.C_drew ?_)))
      (case side2 => exact HC0_1.out)
      rintro e w178 ⟨v392, rfl, ho0, hb⟩
      refine ⟨_, rfl, ?_⟩
      have n0_ := Aside0.mk (Kd.R_elder' (by (with_reducible repeat (first | apply Kd.R_alloc | apply Kd.R_drewN | apply Kd.R_drew)); exact HO_378001.out) (Kd.R_base ho0) hb)
      have n1_ := Aside0.mk (Kd.R_elder' (by (with_reducible repeat (first | apply Kd.R_alloc | apply Kd.R_drewN | apply Kd.R_drew)); exact HO_383001.out) (Kd.R_base ho0) hb)
      have n2_ := Aside0.mk (Kd.R_elder' (by (with_reducible repeat (first | apply Kd.R_alloc | apply Kd.R_drewN | apply Kd.R_drew)); exact HO_389001.out) (Kd.R_base ho0) hb)
      have n3_ := Aside0.mk (Kd.R_lower (Kd.R_new' (Kd.R_new' (Kd.R_new' ho0 (Kd.R_lt (by (with_reducible repeat (first | apply Kd.R_alloc | apply Kd.R_drewN | apply Kd.R_drew)); exact HO_378001.out))) (Kd.R_lt (by (with_reducible repeat (first | apply Kd.R_alloc | apply Kd.R_drewN | apply Kd.R_drew)); exact HO_383001.out))) (Kd.R_lt (by (with_reducible repeat (first | apply Kd.R_alloc | apply Kd.R_drewN | apply Kd.R_drew)); exact HO_389001.out))) (below_size (by repeat (first | (with_reducible first | exact HB.out | apply below_alloc | apply pw_below_drewN | apply below_drew1 | refine below_set ?_ GE366.out | refine below_set ?_ GE377.out | refine below_set ?_ GE382.out | refine below_set ?_ GE388.out) | exact HB.out))))
      have n4_ := Aside0.mk (blk_below (g := gb366) (o := .cells #[.int .i64 a0_0, .slice A0_1 l0_1.length c0_1] 32 (0, 0)) (by (with_reducible repeat (first | refine blk_drewN ?_ _ | refine blk_drew ?_ | refine blk_alloc ?_ _)); exact BK366.out) hb)
      have n5_ := Aside0.mk (blk_below (g := gb377) (o := .cells #[.int .i64 t372, .slice Ao24 t373.length co24] 24 (0, 0)) (by (with_reducible repeat (first | refine blk_drewN ?_ _ | refine blk_drew ?_ | refine blk_alloc ?_ _)); exact BK377.out) hb)
      have n6_ := Aside0.mk (blk_below (g := gb382) (o := .cells #[.int .i64 t378, .slice Ao31 t379.length co31] 24 (0, 0)) (by (with_reducible repeat (first | refine blk_drewN ?_ _ | refine blk_drew ?_ | refine blk_alloc ?_ _)); exact BK382.out) hb)
      have n7_ := Aside0.mk (blk_below (g := gb388) (o := .cells #[.int .i64 t383, .slice Ao38 t384.length co38] 24 (0, 0)) (by (with_reducible repeat (first | refine blk_drewN ?_ _ | refine blk_drew ?_ | refine blk_alloc ?_ _)); exact BK388.out) hb)
      have n8_ := Aside0.mk (below_step (by repeat (first | (with_reducible first | exact HB.out | apply below_alloc | apply pw_below_drewN | apply below_drew1 | refine below_set ?_ GE366.out | refine below_set ?_ GE377.out | refine below_set ?_ GE382.out | refine below_set ?_ GE388.out) | exact HB.out)) hb)
      clear HO_378001
      clear HO_383001
      clear HO_389001
      clear BK366
      clear BK377
      clear BK382
      clear BK388
      clear HB
      have HO_378001 := n0_
      have HO_383001 := n1_
      have HO_389001 := n2_
      have HO393 := n3_
      have BK366 := n4_
      have BK377 := n5_
      have BK382 := n6_
      have BK388 := n7_
      have HB := n8_
      clear n0_ n1_ n2_ n3_ n4_ n5_ n6_ n7_ n8_
      (try clear hb)
      (try clear hb2)
      (try clear hk)
      (try clear hi)
      (try clear ho0)
      obtain ⟨Ao179, co179, eo179⟩ := Kd.R_slice HO393.out
      (first | subst eo179 | (injection eo179 with f1_ f2_ f3_; have f4_ := f1_.symm; have f5_ := f3_.symm; clear f1_ f2_ f3_; subst f4_; subst f5_))
      refine hK.out _ _ ⟨(blk_cell BK382.out 0).trans rfl, (blk_cell BK382.out 1).trans rfl, (blk_cell BK366.out 0).trans rfl, (blk_cell BK366.out 1).trans rfl⟩ (fun hHeld => ?_)
      clear hK K
      refine norm_ (a' := ?_) ?_ ?_
      rotate_left
      ·show Act.put _ (some 51) _ = _
       simp only [Act.put, List.setIfInBounds_toArray, List.set_cons_zero, List.set_cons_succ, i64_w, i32_w]
       rfl
      refine one_ (i := 3) (N := some 52) #[true, true, true, true, false] rfl rfl (by kernel_rfl) (by decide) (fun K hK => ?_)
      refine goes_ Try.func14 (by kernel_rfl) rfl #[.agg #[.int .i64 t378, .slice Ao31 t379.length co31], .agg #[.int .i64 t390, .slice Ao179 t391.length co179]] (by rfl) rfl rfl (by (try simp only [List.map_toArray, List.map_cons, List.map_nil]); first | done | rfl | (simp only [List.length_drop, List.length_take]; rfl)) ?_
      with_reducible refine (laws_eqTable.calls kj12 t378 _ _ t379 t390 _ _ t391 false _ ?side1 ?side2 ?side3 ?side4 A59.out).mono ?_
      (case side1 => repeat (first | exact (Kd.R_reads' HO_383001.out).2.2 | (with_reducible refine Kd.C_alloc ?_ _) | (with_reducible refine Kd.C_drewN ?_ _) | (with_reducible refine Kd.C_drew ?_)))
      (case side2 => exact (Kd.R_reads' HO_383001.out).2.1)
      (case side3 => repeat (first | exact (Kd.R_reads' HO393.out).2.2 | (with_reducible refine Kd.C_alloc ?_ _) | (with_reducible refine Kd.C_drewN ?_ _) | (with_reducible refine Kd.C_drew ?_)))
      (case side4 => exact (Kd.R_reads' HO393.out).2.1)
      rintro e w180 ⟨rfl, hb⟩
      refine ⟨_, rfl, ?_⟩
      have n0_ := Aside0.mk (Kd.R_below (by (with_reducible repeat (first | apply Kd.R_alloc | apply Kd.R_drewN | apply Kd.R_drew)); exact HO_378001.out) hb)
      have n1_ := Aside0.mk (Kd.R_below (by (with_reducible repeat (first | apply Kd.R_alloc | apply Kd.R_drewN | apply Kd.R_drew)); exact HO_383001.out) hb)
      have n2_ := Aside0.mk (Kd.R_below (by (with_reducible repeat (first | apply Kd.R_alloc | apply Kd.R_drewN | apply Kd.R_drew)); exact HO_389001.out) hb)
      have n3_ := Aside0.mk (Kd.R_below (by (with_reducible repeat (first | apply Kd.R_alloc | apply Kd.R_drewN | apply Kd.R_drew)); exact HO393.out) hb)
      have n4_ := Aside0.mk (blk_below (g := gb366) (o := .cells #[.int .i64 a0_0, .slice A0_1 l0_1.length c0_1] 32 (0, 0)) (by (with_reducible repeat (first | refine blk_drewN ?_ _ | refine blk_drew ?_ | refine blk_alloc ?_ _)); exact BK366.out) hb)
      have n5_ := Aside0.mk (blk_below (g := gb377) (o := .cells #[.int .i64 t372, .slice Ao24 t373.length co24] 24 (0, 0)) (by (with_reducible repeat (first | refine blk_drewN ?_ _ | refine blk_drew ?_ | refine blk_alloc ?_ _)); exact BK377.out) hb)
      have n6_ := Aside0.mk (blk_below (g := gb382) (o := .cells #[.int .i64 t378, .slice Ao31 t379.length co31] 24 (0, 0)) (by (with_reducible repeat (first | refine blk_drewN ?_ _ | refine blk_drew ?_ | refine blk_alloc ?_ _)); exact BK382.out) hb)
      have n7_ := Aside0.mk (blk_below (g := gb388) (o := .cells #[.int .i64 t383, .slice Ao38 t384.length co38] 24 (0, 0)) (by (with_reducible repeat (first | refine blk_drewN ?_ _ | refine blk_drew ?_ | refine blk_alloc ?_ _)); exact BK388.out) hb)
      have n8_ := Aside0.mk (below_step (by repeat (first | (with_reducible first | exact HB.out | apply below_alloc | apply pw_below_drewN | apply below_drew1 | refine below_set ?_ GE366.out | refine below_set ?_ GE377.out | refine below_set ?_ GE382.out | refine below_set ?_ GE388.out) | exact HB.out)) hb)
      clear HO_378001
      clear HO_383001
      clear HO_389001
      clear HO393
      clear BK366
      clear BK377
      clear BK382
      clear BK388
      clear HB
      have HO_378001 := n0_
      have HO_383001 := n1_
      have HO_389001 := n2_
      have HO393 := n3_
      have BK366 := n4_
      have BK377 := n5_
      have BK382 := n6_
      have BK388 := n7_
      have HB := n8_
      clear n0_ n1_ n2_ n3_ n4_ n5_ n6_ n7_ n8_
      (try clear hb)
      (try clear hb2)
      (try clear hk)
      (try clear hi)
      refine hK.out _ _ ⟨(blk_cell BK382.out 0).trans rfl, (blk_cell BK382.out 1).trans rfl, (blk_cell BK366.out 0).trans rfl, (blk_cell BK366.out 1).trans rfl⟩ (fun hHeld => ?_)
      clear hK K
      refine norm_ (a' := ?_) ?_ ?_
      rotate_left
      ·show Act.put _ (some 52) _ = _
       simp only [Act.put, List.setIfInBounds_toArray, List.set_cons_zero, List.set_cons_succ, i64_w, i32_w]
       rfl
      refine pure_ (i := 4) (N := some 53) (v := ?_) (a' := ?_) #[true, true, true, true, true] rfl rfl (by kernel_rfl) (fun _ _ _ h => h) (Or.inl ⟨by rfl, ?_⟩) ?_ ?_
      rotate_left
      ·intro w'
       go_simp
       with_reducible rfl
      rotate_left
      ·simp only [Act.put, List.setIfInBounds_toArray, List.set_cons_zero, List.set_cons_succ, i64_w, i32_w]
       rfl
      refine done_ (by kernel_rfl) ?_
      try go_wp2
      go_ret
      exact ⟨by first | rfl | (simp [errW_none, errW_some] <;> rfl) | (simp [*, errW_none, errW_some] <;> rfl), by repeat (first | (with_reducible first | exact HB.out | apply below_alloc | apply pw_below_drewN | apply below_drew1 | refine below_set ?_ GE366.out | refine below_set ?_ GE377.out | refine below_set ?_ GE382.out | refine below_set ?_ GE388.out) | exact HB.out)⟩
end Go.Proofs.Ytcbofebikbbknaa.P

namespace Go.Proofs.Ytcbofebikbbknaa.P
open Go.RowKit Go.Proofs.YtcbofebikbbknaaW.PrintWords Go.Proofs.YtcbofebikbbknaaW.PrintLast
def wfS51 (s : S51) : Prop := (fun n : Int => (Lit.int .i64 n).wf = true) s.f0 ∧ (fun n : Int => (Lit.int .i64 n).wf = true) s.f1 ∧ (fun n : Int => (Lit.int .i64 n).wf = true) s.f2
def wfS32 (s : S32) : Prop := (fun n : Int => (Lit.int .i64 n).wf = true) s.f0 ∧ (fun l : List (S51) => l.length ≤ maxLen ∧ ∀ x ∈ l, wfS51 x) s.f1
/-- The one pure statement of laws_FnExactDropOld. -/
def laws_FnExactDropOld.Pure : Prop := ∀ (s0 : S32) (a1 : Int) (a2 : Int), wfS32 s0 → (fun n : Int => (Lit.int .i64 n).wf = true) a1 → (fun n : Int => (Lit.int .i64 n).wf = true) a2 → ∃ k, laws_FnExactDropOld.f k s0.f0 s0.f1 a1 a2 = some true
end Go.Proofs.Ytcbofebikbbknaa.P

namespace Go.Proofs.Ytcbofebikbbknaa.P
open Go.RowKit Go.Proofs.YtcbofebikbbknaaW.PrintWords
set_option linter.unusedVariables false
set_option linter.unusedSimpArgs false
theorem wrap_id {x : Int} (h0 : -9223372036854775808 ≤ x) (h1 : x ≤ 9223372036854775807) : wrap64 x = x := by unfold wrap64; omega
theorem Ev.succ {α : Type} {g : Nat → Option α} {r : α} (h : Ev (fun k => g (k + 1)) r) : Ev g r := Ev.step (fun _ => rfl) h
theorem getD_mid {α : Type} (d : α) (pre : List α) (x : α) (suf : List α) : (pre ++ x :: suf).getD ((pre.length : Int)).toNat d = x := by simp
theorem set_mid {α : Type} (pre : List α) (x y : α) (suf : List α) : (pre ++ x :: suf).set ((pre.length : Int)).toNat y = pre ++ y :: suf := by simp
theorem app_one {α : Type} (pre : List α) (x : α) (suf : List α) : pre ++ x :: suf = (pre ++ [x]) ++ suf := by simp
theorem len_mid {α : Type} (pre : List α) (x : α) (suf : List α) : ((pre ++ x :: suf).length : Int) = pre.length + suf.length + 1 := by simp; omega
theorem len_one {α : Type} (pre : List α) (x : α) : ((pre ++ [x]).length : Int) = pre.length + 1 := by simp
theorem nil_or_snoc {α : Type} (l : List α) : l = [] ∨ ∃ p y, l = p ++ [y] := by
 rcases List.eq_nil_or_concat l with rfl | ⟨p, y, rfl⟩
 ·exact .inl rfl
 ·exact .inr ⟨p, y, by simp⟩
end Go.Proofs.Ytcbofebikbbknaa.P

namespace Go.Proofs.Ytcbofebikbbknaa.P
open Go.RowKit Go.Proofs.YtcbofebikbbknaaW.PrintWords Go.Proofs.YtcbofebikbbknaaW.PrintLast
set_option linter.unusedVariables false
set_option linter.unusedSimpArgs false
theorem rdSeen_mid (pre : List S53) (x : S53) (suf : List S53) : rd_T53 (pre ++ x :: suf) (pre.length : Int) = x := getD_mid _ pre x suf
theorem rdLSeen_mid (pre : List S51) (x : S51) (suf : List S51) : rd_T51 (pre ++ x :: suf) (pre.length : Int) = x := getD_mid _ pre x suf
instance decSeen : DecidableEq S53 := fun a b => decidable_of_iff (a.f0 = b.f0 ∧ a.f1 = b.f1 ∧ a.f2 = b.f2) (by cases a; cases b; simp)
def cvSeen (x : S51) : S53 := ⟨x.f0, x.f1, x.f2⟩
theorem toSeenS_l (suf : List S51) : ∀ (pre : List S51) (k : Nat), suf.length < k → (pre.length : Int) + suf.length ≤ 1099511627776 →
  laws_toSeenS.l0 k (pre ++ suf) (pre.map cvSeen ++ List.replicate suf.length z53) (pre.length : Int) = some ((pre ++ suf).map cvSeen) := by
 induction suf with
 | nil =>
  intro pre k hk hb
  obtain ⟨k, rfl⟩ : ∃ m, k = m + 1 := ⟨k - 1, by omega⟩
  simp only [laws_toSeenS.l0]
  rw [if_neg (by simp)]
  simp
 | cons x suf ih =>
  intro pre k hk hb
  simp only [List.length_cons] at hk hb
  obtain ⟨k, rfl⟩ : ∃ m, k = m + 1 := ⟨k - 1, by omega⟩
  have h := ih (pre ++ [x]) k (by omega) (by simp; omega)
  simp only [laws_toSeenS.l0]
  rw [if_pos (by simp; omega), if_pos (by omega), rdLSeen_mid]
  simp only [laws_toSeen.f, Option.bind_some]
  rw [if_pos (by simp; omega), wrap_id (by omega) (by omega)]
  have e : (pre.map cvSeen ++ List.replicate (x :: suf).length z53).set ((pre.length : Int)).toNat (⟨x.f0, x.f1, x.f2⟩ : S53) = (pre ++ [x]).map cvSeen ++ List.replicate suf.length z53 := by
   simp [List.replicate_succ, cvSeen]
  rw [e]
  simpa using h
theorem toSeenS_ev (l : List S51) (hl : l.length ≤ 1048576) : Ev (fun k => laws_toSeenS.f k l) (l.map cvSeen) := by
 refine ⟨l.length + 1, fun k hk => ?_⟩
 have h := toSeenS_l l [] k (by omega) (by simp; omega)
 show laws_toSeenS.f k l = _
 unfold laws_toSeenS.f
 rw [if_pos (by omega), if_pos (by simp; omega)]
 simpa using h
theorem eqSeen_is (a b : S53) : laws_eqSeen.f a.f0 a.f1 a.f2 b.f0 b.f1 b.f2 = some (decide (a = b)) := by
 cases a; cases b
 unfold laws_eqSeen.f
 simp only [S53.mk.injEq]
 split
 ·split
  ·split
   ·rename_i h1 h2 h3; simp [h1, h2, h3]
   ·rename_i h1 h2 h3; simp [h3]
  ·rename_i h1 h2; simp [h2]
 ·rename_i h1; simp [h1]
theorem eqSeenS_l (s : List S53) : ∀ (t pre qre : List S53) (k : Nat), s.length < k → pre.length = qre.length → s.length = t.length → (pre.length : Int) + s.length ≤ 1099511627776 →
  laws_eqSeenS.l0 k (pre ++ s) (qre ++ t) (pre.length : Int) = some (decide (s = t)) := by
 induction s with
 | nil =>
  intro t pre qre k hk hq hl hb
  obtain ⟨k, rfl⟩ : ∃ m, k = m + 1 := ⟨k - 1, by omega⟩
  obtain rfl : t = [] := List.eq_nil_of_length_eq_zero (by simpa using hl.symm)
  simp only [laws_eqSeenS.l0]
  rw [if_neg (by simp)]
  simp
 | cons x s ih =>
  intro t pre qre k hk hq hl hb
  cases t with
  | nil => simp at hl
  | cons y t =>
   simp only [List.length_cons] at hk hl hb
   obtain ⟨k, rfl⟩ : ∃ m, k = m + 1 := ⟨k - 1, by omega⟩
   have h := ih t (pre ++ [x]) (qre ++ [y]) k (by omega) (by simp; omega) (by omega) (by simp; omega)
   have hy : rd_T53 (qre ++ y :: t) (pre.length : Int) = y := by rw [hq]; exact rdSeen_mid qre y t
   simp only [laws_eqSeenS.l0]
   rw [if_pos (by simp; omega), if_pos (by omega), if_pos (by simp; omega), rdSeen_mid, hy, eqSeen_is, wrap_id (by omega) (by omega)]
   simp only [Option.bind_some]
   by_cases e : x = y
   ·subst e
    rw [if_pos (by simp)]
    simpa using h
   ·rw [if_neg (by simpa using e)]
    simp [e]
theorem eqSeenS_ev (s t : List S53) (hs : s.length ≤ 1099511627776) : Ev (fun k => laws_eqSeenS.f k s t) (decide (s = t)) := by
 refine ⟨s.length + 1, fun k hk => ?_⟩
 show laws_eqSeenS.f k s t = _
 unfold laws_eqSeenS.f
 by_cases hl : s.length = t.length
 ·rw [if_pos (by omega)]
  exact eqSeenS_l s t [] [] k (by omega) rfl hl (by simp; omega)
 ·rw [if_neg (by omega)]
  have : s ≠ t := fun e => hl (by rw [e])
  simp [this]
theorem szSeenS_is (l : List S51) (hl : l.length ≤ maxLen) (a : Int) (h0 : 0 ≤ a) (h1 : a ≤ 1048576) : laws_szSeenS.f l a = some (if a - l.length < 0 then -1 else a - l.length) := by
 have hm : l.length ≤ 9223372036854775807 := by unfold maxLen at hl; exact hl
 unfold laws_szSeenS.f
 rw [wrap_id (by omega) (by omega)]
 split <;> rfl
end Go.Proofs.Ytcbofebikbbknaa.P

namespace Go.Proofs.Ytcbofebikbbknaa.P
open Go.RowKit Go.Proofs.YtcbofebikbbknaaW.PrintWords Go.Proofs.YtcbofebikbbknaaW.PrintLast
set_option linter.unusedVariables false
set_option linter.unusedSimpArgs false
def marksSeen : Nat → Int → List S53
 | 0, _ => []
 | n + 1, q => ⟨q, q + 1, q + 2⟩ :: marksSeen n (q + 3)
theorem markSeenS_l (suf : List S53) : ∀ (pre : List S53) (k : Nat) (q : Int), suf.length < k → (pre.length : Int) + suf.length ≤ 1099511627776 → 0 ≤ q → q + 3 * suf.length ≤ 4611686018427387904 →
  laws_markSeenS.l0 k (pre ++ suf) q (pre.length : Int) = some (q + 3 * suf.length, pre ++ marksSeen suf.length q) := by
 induction suf with
 | nil =>
  intro pre k q hk hb h0 h1
  obtain ⟨k, rfl⟩ : ∃ m, k = m + 1 := ⟨k - 1, by omega⟩
  simp only [laws_markSeenS.l0]
  rw [if_neg (by simp)]
  simp [marksSeen]
 | cons x suf ih =>
  intro pre k q hk hb h0 h1
  simp only [List.length_cons] at hk hb h1
  obtain ⟨k, rfl⟩ : ∃ m, k = m + 1 := ⟨k - 1, by omega⟩
  have h := ih (pre ++ [⟨q, q + 1, q + 2⟩]) k (q + 3) (by omega) (by simp <;> omega) (by omega) (by omega)
  simp only [laws_markSeenS.l0]
  rw [if_pos (by simp <;> omega), if_pos (by omega)]
  simp only [Option.bind_some, set_mid, rdSeen_mid]
  rw [wrap_id (x := q + 1) (by omega) (by omega), wrap_id (x := q + 1 + 1) (by omega) (by omega), wrap_id (x := q + 1 + 1 + 1) (by omega) (by omega), wrap_id (x := (pre.length : Int) + 1) (by omega) (by omega)]
  rw [show q + 1 + 1 = q + 2 from by omega, show q + 2 + 1 = q + 3 from by omega]
  rw [show ((pre ++ [(⟨q, q + 1, q + 2⟩ : S53)]).length : Int) = (pre.length : Int) + 1 from by simp] at h
  rw [app_one, h]
  simp only [marksSeen, List.length_cons, List.append_assoc, List.cons_append, List.nil_append, Option.some.injEq, Prod.mk.injEq, and_true]
  omega
theorem markSeenS_ev (l : List S53) (q : Int) (hl : l.length ≤ 1099511627776) (h0 : 0 ≤ q) (h1 : q ≤ 1099511627776) : Ev (fun k => laws_markSeenS.f k l q) (q + 3 * l.length, marksSeen l.length q) := by
 refine ⟨l.length + 1, fun k hk => ?_⟩
 show laws_markSeenS.f k l q = _
 unfold laws_markSeenS.f
 simpa using markSeenS_l l [] k q (by omega) (by simp <;> omega) h0 (by omega)
theorem heldSeenS_l (n : Nat) : ∀ (pre : List S53) (k : Nat) (q : Int), n < k → (pre.length : Int) + n ≤ 1099511627776 → 0 ≤ q → q + 3 * n ≤ 4611686018427387904 →
  laws_heldSeenS.l0 k (pre ++ marksSeen n q) q (pre.length : Int) = some (q + 3 * n) := by
 induction n with
 | zero =>
  intro pre k q hk hb h0 h1
  obtain ⟨k, rfl⟩ : ∃ m, k = m + 1 := ⟨k - 1, by omega⟩
  simp only [laws_heldSeenS.l0]
  rw [show marksSeen 0 q = [] from rfl, if_neg (by simp)]
  simp
 | succ n ih =>
  intro pre k q hk hb h0 h1
  obtain ⟨k, rfl⟩ : ∃ m, k = m + 1 := ⟨k - 1, by omega⟩
  have h := ih (pre ++ [⟨q, q + 1, q + 2⟩]) k (q + 3) (by omega) (by simp <;> omega) (by omega) (by omega)
  simp only [laws_heldSeenS.l0]
  rw [show marksSeen (n + 1) q = ⟨q, q + 1, q + 2⟩ :: marksSeen n (q + 3) from rfl]
  rw [if_pos (by simp <;> omega), if_pos (by omega)]
  simp only [rdSeen_mid]
  rw [wrap_id (x := q + 1) (by omega) (by omega), wrap_id (x := q + 1 + 1) (by omega) (by omega), wrap_id (x := q + 1 + 1 + 1) (by omega) (by omega), wrap_id (x := (pre.length : Int) + 1) (by omega) (by omega)]
  rw [show q + 1 + 1 = q + 2 from by omega, show q + 2 + 1 = q + 3 from by omega, if_pos rfl, if_pos rfl, if_pos trivial]
  rw [show ((pre ++ [(⟨q, q + 1, q + 2⟩ : S53)]).length : Int) = (pre.length : Int) + 1 from by simp] at h
  rw [app_one, h]
  simp only [Option.some.injEq]
  omega
theorem heldSeenS_ev (n : Nat) (q : Int) (hl : n ≤ 1099511627776) (h0 : 0 ≤ q) (h1 : q ≤ 1099511627776) : Ev (fun k => laws_heldSeenS.f k (marksSeen n q) q) (q + 3 * n) := by
 refine ⟨n + 1, fun k hk => ?_⟩
 show laws_heldSeenS.f k (marksSeen n q) q = _
 unfold laws_heldSeenS.f
 exact heldSeenS_l n [] k q (by omega) (by simp <;> omega) h0 (by omega)
end Go.Proofs.Ytcbofebikbbknaa.P

namespace Go.Proofs.Ytcbofebikbbknaa.P
open Go.RowKit Go.Proofs.YtcbofebikbbknaaW.PrintWords Go.Proofs.YtcbofebikbbknaaW.PrintLast
set_option linter.unusedVariables false
set_option linter.unusedSimpArgs false
theorem specIn3 (a b c : Int) : spec_l1In.f a b c = some (decide (b ≤ a ∧ a ≤ c)) := by
 unfold spec_l1In.f
 by_cases h : a ≥ b
 ·rw [if_pos h]
  congr 1
  by_cases h2 : a ≤ c
  ·rw [decide_eq_true h2, decide_eq_true ⟨h, h2⟩]
  ·rw [decide_eq_false h2, decide_eq_false (fun hc => h2 hc.2)]
 ·rw [if_neg h, decide_eq_false (fun hc => h hc.1)]
theorem implIn3 (a b c : Int) : impl_in.f a b c = some (decide (b ≤ a ∧ a ≤ c)) := specIn3 a b c
def okSeen (x : S53) : Bool := decide (1 ≤ x.f0 ∧ x.f0 ≤ 99) && (decide (0 ≤ x.f1 ∧ x.f1 ≤ 9) && decide (0 ≤ x.f2 ∧ x.f2 ≤ 10000))
theorem specRow3 (x : S53) : spec_l13Row.f x.f0 x.f1 x.f2 = some (okSeen x) := by
 unfold spec_l13Row.f okSeen
 simp only [specIn3, Option.bind_some]
 by_cases h1 : 1 ≤ x.f0 ∧ x.f0 ≤ 99
 ·by_cases h2 : 0 ≤ x.f1 ∧ x.f1 ≤ 9
  ·simp only [h1, h2, and_self, decide_true, if_true, Bool.true_and]
  ·simp only [h1, h2, and_self, decide_true, decide_false, if_true, Bool.true_and, Bool.false_and, Bool.false_eq_true, if_false]
 ·simp only [h1, decide_false, Bool.false_and, Bool.false_eq_true, if_false]
theorem implSeen3 (x : S53) : impl_isSeen.f x.f0 x.f1 x.f2 = some (okSeen x) := specRow3 x
theorem eta3 (x : S53) : (⟨x.f0, x.f1, x.f2⟩ : S53) = x := rfl
/-- the time of the row ahead is no less -/
def later (o : Option S53) (x : S53) : Bool := match o with
 | none => true
 | some y => !decide (y.f2 < x.f2)
def goT (pre : List S53) : List S53 → Bool
 | [] => true
 | x :: r => okSeen x && (later pre.getLast? x && (!(pre.any fun y => y.f0 == x.f0) && goT (pre ++ [x]) r))
def goodT (a : Int) (l : List S53) : Bool := goT [] l && (decide (1 ≤ a ∧ a ≤ 8) && decide ((l.length : Int) ≤ a))
theorem specGoodT_l1 (l : List S53) (n i a : Int) (x : S53) (R : Bool) (hR : Ev (fun k => spec_GoodTable.l0 k l n (wrap64 (i + 1)) a l) R) (suf : List S53) : ∀ (pre : List S53), ((pre ++ suf).length : Int) ≤ 1099511627776 →
  Ev (fun k => spec_GoodTable.l1 k l n i (pre ++ suf) ((pre ++ suf).length : Int) pre.length a l x.f0 x.f1 x.f2) (!(suf.any fun y => y.f0 == x.f0) && R) := by
 induction suf with
 | nil =>
  intro pre h
  refine Ev.succ ?_
  simp only [spec_GoodTable.l1, List.append_nil, Int.lt_irrefl, if_false, List.any_nil, Bool.not_false, Bool.true_and]
  exact hR
 | cons y suf ih =>
  intro pre h
  refine Ev.succ ?_
  rw [len_mid] at h ⊢
  have := ih (pre ++ [y]) (by rw [← app_one, len_mid]; exact h)
  rw [← app_one, len_mid, len_one] at this
  simp only [spec_GoodTable.l1]
  simp only [if_pos (show ((pre.length : Int) < pre.length + suf.length + 1) by omega), if_pos (show (0 : Int) ≤ pre.length by omega), len_mid, rdSeen_mid, wrap_id (show (-9223372036854775808 : Int) ≤ pre.length + 1 by omega) (show ((pre.length : Int) + 1 ≤ 9223372036854775807) by omega), List.any_cons]
  by_cases h1 : y.f0 = x.f0
  ·simp only [if_pos h1, beq_iff_eq.2 h1, Bool.true_or, Bool.not_true, Bool.false_and]
   exact Ev.now _
  ·simp only [if_neg h1, beq_eq_false_iff_ne.2 h1, Bool.false_or]
   exact this
theorem specGoodT_l0 (a : Int) (l : List S53) (hl : l.length ≤ 1048576) (suf : List S53) : ∀ (pre : List S53), pre ++ suf = l →
  Ev (fun k => spec_GoodTable.l0 k l (l.length : Int) pre.length a l) (goT pre suf && (decide (1 ≤ a ∧ a ≤ 8) && decide ((l.length : Int) ≤ a))) := by
 induction suf with
 | nil =>
  intro pre h
  rw [List.append_nil] at h
  subst h
  refine Ev.succ ?_
  simp only [spec_GoodTable.l0, Int.lt_irrefl, if_false, specIn3, Option.bind_some, goT, Bool.true_and]
  by_cases h1 : 1 ≤ a ∧ a ≤ 8
  ·simp only [h1, and_self, decide_true, if_true, Bool.true_and]
   exact Ev.now _
  ·simp only [h1, decide_false, Bool.false_eq_true, if_false, Bool.false_and]
   exact Ev.now _
 | cons x suf ih =>
  intro pre h
  have h' := ih (pre ++ [x]) (by rw [← app_one]; exact h)
  rw [len_one] at h'
  refine Ev.succ ?_
  have hlen : (l.length : Int) = pre.length + suf.length + 1 := by rw [← h, len_mid]
  have hx : rd_T53 l (pre.length : Int) = x := by rw [← h]; exact rdSeen_mid pre x suf
  simp only [spec_GoodTable.l0]
  simp only [if_pos (show ((pre.length : Int) < l.length) by omega), if_pos (show (0 : Int) ≤ pre.length by omega), hx, specRow3, Option.bind_some]
  generalize hfin : (decide (1 ≤ a ∧ a ≤ 8) && decide ((l.length : Int) ≤ a)) = fin at h' ⊢
  have bad : ∀ (b : Bool), b = true → okSeen x = false ∨ later pre.getLast? x = false → Ev (fun k => spec_GoodTable.j1 k (pre.length : Int) l (l.length : Int) (pre.length : Int) b a l x.f0 x.f1 x.f2) (goT pre (x :: suf) && fin) := by
   intro b hb hc
   refine Ev.succ ?_
   simp only [spec_GoodTable.j1, hb, if_true, goT]
   rcases hc with hc | hc
   ·rw [hc, Bool.false_and, Bool.false_and]
    exact Ev.now _
   ·rw [hc, Bool.false_and, Bool.and_false, Bool.false_and]
    exact Ev.now _
  have good : okSeen x = true → later pre.getLast? x = true → Ev (fun k => spec_GoodTable.j1 k (pre.length : Int) l (l.length : Int) (pre.length : Int) false a l x.f0 x.f1 x.f2) (goT pre (x :: suf) && fin) := by
   intro hc hd
   refine Ev.succ ?_
   simp only [spec_GoodTable.j1, Bool.false_eq_true, if_false, if_pos (show (0 : Int) ≤ pre.length by omega), if_pos (show (pre.length : Int) ≤ l.length by omega), Option.bind_some, Int.toNat_natCast, goT, hc, hd, Bool.true_and]
   rw [show l.take pre.length = pre by rw [← h, List.take_left']; rfl, Bool.and_assoc]
   have := specGoodT_l1 l (l.length : Int) (pre.length : Int) a x _ (by rw [wrap_id (show (-9223372036854775808 : Int) ≤ pre.length + 1 by omega) (show ((pre.length : Int) + 1 ≤ 9223372036854775807) by omega)]; exact h') pre [] (by rw [List.nil_append]; omega)
   exact this
  cases hk : okSeen x with
  | false =>
   simp only [Bool.false_eq_true, if_false]
   exact bad true rfl (.inl hk)
  | true =>
   simp only [if_true]
   rcases nil_or_snoc pre with rfl | ⟨p, y, rfl⟩
   ·simp only [List.length_nil, Int.ofNat_zero, gt_iff_lt, Int.lt_irrefl, if_false] at good ⊢
    exact good hk rfl
   ·have hy : rd_T53 l (wrap64 (((p ++ [y]).length : Int) - 1)) = y := by
     rw [wrap_id (by omega) (by omega), len_one, show (p.length : Int) + 1 - 1 = p.length by omega, ← h, ← app_one]
     exact rdSeen_mid p y _
    have h0 : (0 : Int) ≤ wrap64 (((p ++ [y]).length : Int) - 1) ∧ wrap64 (((p ++ [y]).length : Int) - 1) < l.length := by
     rw [wrap_id (by omega) (by omega)]
     rw [len_one] at hlen ⊢
     omega
    simp only [if_pos (show (((p ++ [y]).length : Int)) > 0 by rw [len_one]; omega), if_pos h0.1, if_pos h0.2, hy]
    have hlast : (p ++ [y]).getLast? = some y := by simp
    by_cases ht : y.f2 < x.f2
    ·rw [decide_eq_true ht]
     exact bad true rfl (.inr (by rw [hlast]; simp [later, ht]))
    ·rw [decide_eq_false ht]
     exact good hk (by rw [hlast]; simp [later, ht])
theorem specGoodT_ev (a : Int) (l : List S53) (hl : l.length ≤ 1048576) : Ev (fun k => spec_GoodTable.f k a l) (goodT a l) := specGoodT_l0 a l hl l [] rfl
theorem ix_some (p : S53 → Bool) : ∀ (l : List S53) (i : Int), l.any p = true → i ≤ ixF53 p l i ∧ ixF53 p l i < i + l.length
 | [], _, h => by simp at h
 | x :: r, i, h => by
  rw [List.any_cons] at h
  rw [ixF53, List.length_cons]
  by_cases hx : p x = true
  ·rw [if_pos hx]
   omega
  ·rw [if_neg hx]
   rw [Bool.eq_false_iff.2 hx, Bool.false_or] at h
   have := ix_some p r (i + 1) h
   omega
theorem ix_app (p : S53 → Bool) : ∀ (pre suf : List S53) (i : Int), pre.any p = true → ixF53 p (pre ++ suf) i = ixF53 p pre i
 | [], _, _, h => by simp at h
 | x :: r, suf, i, h => by
  rw [List.any_cons] at h
  rw [List.cons_append, ixF53, ixF53]
  by_cases hx : p x = true
  ·rw [if_pos hx, if_pos hx]
  ·rw [if_neg hx, if_neg hx]
   rw [Bool.eq_false_iff.2 hx, Bool.false_or] at h
   exact ix_app p r suf (i + 1) h
theorem ix_skip (p : S53 → Bool) : ∀ (pre suf : List S53) (i : Int), pre.any p = false → ixF53 p (pre ++ suf) i = ixF53 p suf (i + pre.length)
 | [], _, _, _ => by simp
 | x :: r, suf, i, h => by
  rw [List.any_cons, Bool.or_eq_false_iff] at h
  rw [List.cons_append, ixF53, h.1, if_neg Bool.false_ne_true, ix_skip p r suf (i + 1) h.2, List.length_cons]
  congr 1
  omega
theorem ix_mid (pre suf : List S53) (x : S53) : ixF53 (fun y => y.f0 == x.f0) (pre ++ x :: suf) 0 < (pre.length : Int) ↔ (pre.any fun y => y.f0 == x.f0) = true := by
 cases h : pre.any fun y => y.f0 == x.f0 with
 | true =>
  rw [ix_app _ _ _ _ h]
  have := ix_some _ pre 0 h
  simp only [iff_true]
  omega
 | false =>
  rw [ix_skip _ _ _ _ h, ixF53, if_pos (by simp)]
  simp
theorem implGoodT_l0 (a : Int) (l : List S53) (hl : l.length ≤ 1048576) (suf : List S53) : ∀ (pre : List S53), pre ++ suf = l →
  Ev (fun k => impl_GoodTable.l0 k l (l.length : Int) pre.length a l) (goT pre suf) := by
 induction suf with
 | nil =>
  intro pre h
  rw [List.append_nil] at h
  subst h
  refine Ev.succ ?_
  simp only [impl_GoodTable.l0, Int.lt_irrefl, if_false, goT]
  exact Ev.now _
 | cons x suf ih =>
  intro pre h
  have h' := ih (pre ++ [x]) (by rw [← app_one]; exact h)
  rw [len_one] at h'
  refine Ev.succ ?_
  have hlen : (l.length : Int) = pre.length + suf.length + 1 := by rw [← h, len_mid]
  have hx : rd_T53 l (pre.length : Int) = x := by rw [← h]; exact rdSeen_mid pre x suf
  have hm := ix_mid pre suf x
  rw [h] at hm
  simp only [impl_GoodTable.l0]
  simp only [if_pos (show ((pre.length : Int) < l.length) by omega), if_pos (show (0 : Int) ≤ pre.length by omega), hx, implSeen3, impl_row.f, Option.bind_some, goT, wrap_id (show (-9223372036854775808 : Int) ≤ pre.length + 1 by omega) (show ((pre.length : Int) + 1 ≤ 9223372036854775807) by omega)]
  cases hk : okSeen x with
  | false =>
   simp only [Bool.false_eq_true, if_false, Bool.false_and]
   exact Ev.now _
  | true =>
   simp only [if_true, Bool.true_and]
   by_cases hd : (pre.any fun y => y.f0 == x.f0) = true
   ·simp only [if_pos (hm.2 hd), hd, Bool.not_true, Bool.false_and, Bool.and_false]
    exact Ev.now _
   ·simp only [if_neg (fun c => hd (hm.1 c)), Bool.eq_false_iff.2 hd, Bool.not_false, Bool.true_and]
    rcases nil_or_snoc pre with rfl | ⟨p, y, rfl⟩
    ·simp only [List.length_nil, Int.ofNat_zero, gt_iff_lt, Int.lt_irrefl, if_false] at h' ⊢
     exact h'
    ·have hy : rd_T53 l (wrap64 (((p ++ [y]).length : Int) - 1)) = y := by
      rw [wrap_id (by omega) (by omega), len_one, show (p.length : Int) + 1 - 1 = p.length by omega, ← h, ← app_one]
      exact rdSeen_mid p y _
     have h0 : (0 : Int) ≤ wrap64 (((p ++ [y]).length : Int) - 1) ∧ wrap64 (((p ++ [y]).length : Int) - 1) < l.length := by
      rw [wrap_id (by omega) (by omega)]
      rw [len_one] at hlen ⊢
      omega
     simp only [if_pos (show (((p ++ [y]).length : Int)) > 0 by rw [len_one]; omega), if_pos h0.1, if_pos h0.2, hy]
     have hlast : (p ++ [y]).getLast? = some y := by simp
     by_cases ht : y.f2 < x.f2
     ·simp only [if_pos ht, hlast, later, decide_eq_true ht, Bool.not_true, Bool.false_and]
      exact Ev.now _
     ·simp only [if_neg ht, hlast, later, decide_eq_false ht, Bool.not_false, Bool.true_and]
      exact h'
theorem implGoodT_ev (a : Int) (l : List S53) (hl : l.length ≤ 1048576) : Ev (fun k => impl_GoodTable.f k a l) (goodT a l) := by
 unfold impl_GoodTable.f goodT
 simp only [implIn3, Option.bind_some]
 by_cases h1 : 1 ≤ a ∧ a ≤ 8
 ·simp only [h1, and_self, decide_true, if_true, Bool.true_and]
  refine Ev.succ ?_
  by_cases h2 : (l.length : Int) > a
  ·simp only [impl_GoodTable.j0, decide_eq_true h2, if_true, decide_eq_false (show ¬ (l.length : Int) ≤ a by omega), Bool.and_false]
   exact Ev.now _
  ·simp only [impl_GoodTable.j0, decide_eq_false h2, Bool.false_eq_true, if_false, decide_eq_true (show (l.length : Int) ≤ a by omega), Bool.and_true]
   exact implGoodT_l0 a l hl l [] rfl
 ·simp only [h1, decide_false, Bool.false_eq_true, if_false, Bool.false_and, Bool.and_false]
  refine Ev.succ ?_
  simp only [impl_GoodTable.j0, if_true]
  exact Ev.now _
theorem szTable_is (a0 : Int) (l : List S51) (hl : l.length ≤ maxLen) (a : Int) (h0 : 0 ≤ a) (h1 : a ≤ 1048576) : laws_szTable.f a0 l a = some (if a - l.length < 0 then -1 else a - l.length) := by
 unfold laws_szTable.f
 rw [szSeenS_is l hl a h0 h1]
 simp only [Option.bind_some]
 by_cases h : a - (l.length : Int) < 0
 ·simp only [if_pos h, if_pos (show (-1 : Int) < 0 by omega)]
 ·simp only [if_neg h]
theorem toTable_ev (a0 : Int) (l : List S51) (hl : l.length ≤ 1048576) : Ev (fun k => laws_toTable.f k a0 l) (a0, l.map cvSeen) := by
 unfold laws_toTable.f
 exact Ev.bind (toSeenS_ev l hl) (Ev.now _)
theorem eqTable_ev (a : Int) (l : List S53) (hl : l.length ≤ 1099511627776) : Ev (fun k => laws_eqTable.f k a l a l) true := by
 unfold laws_eqTable.f
 simp only [if_true]
 refine Ev.bind (eqSeenS_ev l l hl) ?_
 simp only [decide_true, if_true]
 exact Ev.now _
theorem markTable_ev (a : Int) (l : List S53) (q : Int) (hl : l.length ≤ 1099511627776) (h0 : 0 ≤ q) (h1 : q ≤ 1099511627776) : Ev (fun k => laws_markTable.f k a l q) (q + 3 * l.length, marksSeen l.length q) := by
 unfold laws_markTable.f
 exact Ev.bind (markSeenS_ev l q hl h0 h1) (Ev.now _)
theorem heldTable_ev (a : Int) (n : Nat) (q : Int) (hl : n ≤ 1099511627776) (h0 : 0 ≤ q) (h1 : q ≤ 1099511627776) : Ev (fun k => laws_heldTable.f k a (marksSeen n q) q) (q + 3 * n) := by
 unfold laws_heldTable.f
 refine Ev.bind (heldSeenS_ev n q hl h0 h1) ?_
 simp only [if_neg (show ¬ (q + 3 * (n : Int)) < 0 by omega)]
 exact Ev.now _
end Go.Proofs.Ytcbofebikbbknaa.P

namespace Go.Proofs.Ytcbofebikbbknaa.P
open Go.RowKit Go.Proofs.YtcbofebikbbknaaW.PrintWords Go.Proofs.YtcbofebikbbknaaW.PrintLast
set_option linter.unusedVariables false
set_option linter.unusedSimpArgs false
theorem kept_l (p : S53 → Bool) (a : Int) (suf : List S53) : ∀ (pre out : List S53), ((pre ++ suf).length : Int) ≤ 1048576 → out.length ≤ pre.length →
  Ev (fun k => impl_Table_kept.l0 p k (pre ++ suf) ((pre ++ suf).length : Int) pre.length a out) (a, out ++ suf.filter p) := by
 induction suf with
 | nil =>
  intro pre out h ho
  refine Ev.succ ?_
  simp only [impl_Table_kept.l0, List.append_nil, Int.lt_irrefl, if_false, List.filter_nil]
  exact Ev.now _
 | cons x suf ih =>
  intro pre out h ho
  refine Ev.succ ?_
  rw [len_mid] at h ⊢
  have := fun o ho => ih (pre ++ [x]) o (by rw [← app_one, len_mid]; exact h) ho
  rw [← app_one, len_mid, len_one] at this
  simp only [impl_Table_kept.l0]
  simp only [if_pos (show ((pre.length : Int) < pre.length + suf.length + 1) by omega), if_pos (show (0 : Int) ≤ pre.length by omega), len_mid, rdSeen_mid, wrap_id (show (-9223372036854775808 : Int) ≤ pre.length + 1 by omega) (show ((pre.length : Int) + 1 ≤ 9223372036854775807) by omega), Option.bind_some, eta3]
  cases hp : p x with
  | true =>
   simp only [if_true, if_pos (show out.length < 5864062014805 by omega)]
   rw [List.filter_cons_of_pos hp, app_one out x (suf.filter p)]
   exact this (out ++ [x]) (by simp only [List.length_append, List.length_singleton]; omega)
  | false =>
   simp only [Bool.false_eq_true, if_false]
   rw [List.filter_cons_of_neg (by rw [hp]; exact Bool.false_ne_true)]
   exact this out (by rw [List.length_append]; omega)
theorem kept_ev (p : S53 → Bool) (a : Int) (l : List S53) (hl : l.length ≤ 1048576) : Ev (fun k => impl_Table_kept.f k a l p) (a, l.filter p) := by
 have := kept_l p a l [] [] (by rw [List.nil_append]; omega) (by simp)
 exact this
/-- a table with some rows kept -/
def keptIf (c : Bool) (p : S53 → Bool) (a : Int) (l : List S53) : Int × List S53 × Bool := if (goodT a l && c) = true then (a, l.filter p, true) else (0, [], false)
theorem keptIf_len (c : Bool) (p : S53 → Bool) (a : Int) (l : List S53) : (keptIf c p a l).2.1.length ≤ l.length := by
 unfold keptIf
 split
 ·exact List.length_filter_le ..
 ·simp
def dropC (b c : Int) : Bool := decide (0 ≤ b ∧ b ≤ 10000) && decide (0 ≤ c ∧ c ≤ 10000)
def dropP (b c : Int) (y : S53) : Bool := decide (wrap64 (b - c) ≤ y.f2)
theorem implDrop_ev (a : Int) (l : List S53) (b c : Int) (hl : l.length ≤ 1048576) : Ev (fun k => impl_DropOld.f k a l b c) (keptIf (dropC b c) (dropP b c) a l) := by
 unfold impl_DropOld.f keptIf
 refine Ev.bind (implGoodT_ev a l hl) ?_
 simp only [implIn3, Option.bind_some]
 cases hg : goodT a l with
 | false =>
  simp only [Bool.false_eq_true, if_false, Bool.false_and]
  exact Ev.now _
 | true =>
  simp only [if_true, Bool.true_and, dropC]
  by_cases h1 : 0 ≤ b ∧ b ≤ 10000
  ·simp only [h1, and_self, decide_true, if_true, Bool.true_and]
   by_cases h2 : 0 ≤ c ∧ c ≤ 10000
   ·simp only [h2, and_self, decide_true, if_true]
    refine Ev.bind (kept_ev _ a l hl) ?_
    exact Ev.now _
   ·simp only [h2, decide_false, Bool.false_eq_true, if_false]
    exact Ev.now _
  ·simp only [h1, decide_false, Bool.false_eq_true, if_false, Bool.false_and]
   exact Ev.now _
theorem specDrop_l (a b c : Int) (suf : List S53) : ∀ (pre out : List S53), ((pre ++ suf).length : Int) ≤ 1048576 → out.length ≤ pre.length →
  Ev (fun k => spec_DropOld.l0 k b c (pre ++ suf) ((pre ++ suf).length : Int) pre.length a out) (a, out ++ suf.filter (dropP b c), true) := by
 induction suf with
 | nil =>
  intro pre out h ho
  refine Ev.succ ?_
  simp only [spec_DropOld.l0, List.append_nil, Int.lt_irrefl, if_false, List.filter_nil]
  exact Ev.now _
 | cons x suf ih =>
  intro pre out h ho
  refine Ev.succ ?_
  rw [len_mid] at h ⊢
  have := fun o ho => ih (pre ++ [x]) o (by rw [← app_one, len_mid]; exact h) ho
  rw [← app_one, len_mid, len_one] at this
  simp only [spec_DropOld.l0]
  simp only [if_pos (show ((pre.length : Int) < pre.length + suf.length + 1) by omega), if_pos (show (0 : Int) ≤ pre.length by omega), len_mid, rdSeen_mid, wrap_id (show (-9223372036854775808 : Int) ≤ pre.length + 1 by omega) (show ((pre.length : Int) + 1 ≤ 9223372036854775807) by omega), eta3, ge_iff_le]
  by_cases hp : wrap64 (b - c) ≤ x.f2
  ·simp only [if_pos hp, if_pos (show out.length < 5864062014805 by omega)]
   rw [List.filter_cons_of_pos (by unfold dropP; exact decide_eq_true hp), app_one out x (suf.filter (dropP b c))]
   exact this (out ++ [x]) (by simp only [List.length_append, List.length_singleton]; omega)
  ·simp only [if_neg hp]
   rw [List.filter_cons_of_neg (by unfold dropP; rw [decide_eq_true_eq]; exact hp)]
   exact this out (by rw [List.length_append]; omega)
theorem specDrop_ev (a : Int) (l : List S53) (b c : Int) (hl : l.length ≤ 1048576) : Ev (fun k => spec_DropOld.f k a l b c) (keptIf (dropC b c) (dropP b c) a l) := by
 unfold spec_DropOld.f keptIf
 have bad : Ev (fun k => spec_DropOld.j0 k b c true a l) ((0 : Int), ([] : List S53), false) := by
  refine Ev.succ ?_
  simp only [spec_DropOld.j0, if_true]
  exact Ev.now _
 refine Ev.bind (specGoodT_ev a l hl) ?_
 simp only [specIn3, Option.bind_some]
 cases hg : goodT a l with
 | false =>
  simp only [Bool.false_eq_true, if_false, Bool.false_and]
  exact bad
 | true =>
  simp only [if_true, Bool.true_and, dropC]
  by_cases h1 : 0 ≤ b ∧ b ≤ 10000
  ·simp only [h1, and_self, decide_true, if_true, Bool.true_and]
   by_cases h2 : 0 ≤ c ∧ c ≤ 10000
   ·simp only [h2, and_self, decide_true, if_true, Bool.not_true]
    refine Ev.succ ?_
    simp only [spec_DropOld.j0, Bool.false_eq_true, if_false]
    have := specDrop_l a b c l [] [] (by rw [List.nil_append]; omega) (by simp)
    exact this
   ·simp only [h2, decide_false, Bool.false_eq_true, if_false, Bool.not_false]
    exact bad
  ·simp only [h1, decide_false, Bool.false_eq_true, if_false, Bool.false_and]
   exact bad
end Go.Proofs.Ytcbofebikbbknaa.P

namespace Go.Proofs.Ytcbofebikbbknaa.Pure
open Go.RowKit Go.Proofs.Ytcbofebikbbknaa.P Go.Proofs.YtcbofebikbbknaaW.PrintWords Go.Proofs.YtcbofebikbbknaaW.PrintLast
set_option linter.unusedVariables false
set_option linter.unusedSimpArgs false
theorem FnExactDropOld : laws_FnExactDropOld.Pure := by
 intro s b c ⟨_, hm, _⟩ _ _
 refine Ev.rounds ?_
 unfold laws_FnExactDropOld.f
 rw [szTable_is s.f0 s.f1 hm 1048576 (by omega) (by omega)]
 simp only [Option.bind_some]
 by_cases h : (1048576 : Int) - s.f1.length < 0
 ·simp only [if_pos h]
  exact Ev.now _
 ·have hl : s.f1.length ≤ 1048576 := by omega
  have hl2 : (s.f1.map cvSeen).length ≤ 1048576 := by simpa using hl
  have hr : (keptIf (dropC b c) (dropP b c) s.f0 (s.f1.map cvSeen)).2.1.length ≤ 1048576 := Nat.le_trans (keptIf_len ..) hl2
  simp only [if_neg h]
  refine Ev.bind (toTable_ev s.f0 s.f1 hl) ?_
  refine Ev.bind (specDrop_ev s.f0 _ b c hl2) ?_
  refine Ev.bind (toTable_ev s.f0 s.f1 hl) ?_
  refine Ev.bind (implDrop_ev s.f0 _ b c hl2) ?_
  have hi := implDrop_ev s.f0 _ b c hl2
  generalize keptIf (dropC b c) (dropP b c) s.f0 (s.f1.map cvSeen) = r at hr hi
  refine Ev.bind (eqTable_ev _ _ (by omega)) ?_
  simp only [if_true, bne_self_eq_false]
  refine Ev.succ ?_
  simp only [laws_FnExactDropOld.j0, Bool.false_eq_true, if_false]
  refine Ev.bind (toTable_ev s.f0 s.f1 hl) ?_
  refine Ev.bind (eqTable_ev _ _ (by omega)) ?_
  simp only [if_true]
  refine Ev.bind (markTable_ev _ _ 1 (by omega) (by omega) (by omega)) ?_
  simp only [if_neg (show ¬ (1 + 3 * ((s.f1.map cvSeen).length : Int)) < 0 by omega)]
  refine Ev.bind (eqTable_ev _ _ (by omega)) ?_
  simp only [if_true, bne_self_eq_false]
  refine Ev.succ ?_
  simp only [laws_FnExactDropOld.j1, Bool.false_eq_true, if_false]
  refine Ev.bind (markTable_ev _ _ 1 (by omega) (by omega) (by omega)) ?_
  refine Ev.bind (heldTable_ev _ _ 1 (by omega) (by omega) (by omega)) ?_
  simp only [if_neg (show ¬ (1 + 3 * (r.2.1.length : Int)) < 0 by omega), if_true]
  refine Ev.bind (toTable_ev s.f0 s.f1 hl) ?_
  refine Ev.bind hi ?_
  refine Ev.bind (eqTable_ev _ _ (by omega)) ?_
  simp only [if_true, bne_self_eq_false]
  refine Ev.succ ?_
  simp only [laws_FnExactDropOld.j2, Bool.false_eq_true, if_false]
  refine Ev.bind (heldTable_ev _ _ 1 (by omega) (by omega) (by omega)) ?_
  simp only [if_neg (show ¬ (1 + 3 * (r.2.1.length : Int)) < 0 by omega), if_true]
  exact Ev.now _
end Go.Proofs.Ytcbofebikbbknaa.Pure
