/- Functions, walks and plain lemmas that the law FnNames reaches, part 4. -/
import Derived.Test.YtljdenmmlkjapaaCFnNames3
import Derived.Below
import Derived.Deep.Draws
import Derived.Deep.AppendLies
import Derived.Maps.AppendAt
import Derived.OwnWalk
import Derived.Laws.BytesArg
import Derived.Laws.MakeOwn
import Derived.Laws.OwnMore
import Derived.Deep.OwnRows
import Derived.Tactics
import Derived.Lib.ConvBytes
import Derived.Laws.Slices
import Derived.WalkKit
import Derived.KernelRfl
import Derived.RowKit3
import Derived.Deep.LoopGhost
import Derived.Deep.QuietTactic
import Derived.BigQuiet
import Derived.WideLaws
import Derived.Deep.DeepCutAuto
import Derived.Deep.CutBlock
import Derived.Deep.RegionHeld3
import Derived.Laws.Rows
import Derived.Lib.AppendStr
import Derived.ArgAppend
import Derived.Laws.IdiomCopy
import Derived.OrdersHeld
import Derived.Laws.BitsLemmas
import Derived.RowKit
import Derived.WalkSpells
import Derived.Lib.SliceRun
import Derived.Shelf.Abstract
import Derived.ProofKit
import Derived.OpenShut
import Derived.ShutString
import Derived.ChangeOld
import Derived.SizedLaws
namespace Go.Proofs.Ytljdenmmlkjapaa.P
open Go.RowKit Go.Proofs.YtljdenmmlkjapaaW.PrintWords Go.Proofs.YtljdenmmlkjapaaW.PrintLast Go.Proofs.YtljdenmmlkjapaaW.PrintMore
attribute [local go_sem] max2_int min2_int max_two min_two max_three min_three max_four min_four   -- for this text's walks alone
set_option linter.unusedVariables false
set_option linter.unusedSimpArgs false
attribute [local go_sem high] eqA26
def laws_sameOwners.l0 : Nat → List (S26) → List (S26) → Int → Int → Option (Bool)
 | 0, _, _, _, _ => none
 | k + 1, x0, x1, x12, x13 => if x13 < x12 then (if 0 ≤ x13 then (if x13 < (x0.length : Int) then (if x13 < (x1.length : Int) then (if (!(((rd_T26 x0 x13).f0) == ((rd_T26 x1 x13).f0)) || (!(((rd_T26 x0 x13).f1) == ((rd_T26 x1 x13).f1)) || (!(((rd_T26 x0 x13).f2) == ((rd_T26 x1 x13).f2))))) = true then (some false) else (laws_sameOwners.l0 k x0 x1 x12 (wrap64 (x13 + 1)))) else (none)) else (none)) else (none)) else (some true)
def laws_sameOwners.f (k : Nat) (l0 : List (S26)) (l1 : List (S26)) : Option (Bool) := if (l0.length : Int) = (l1.length : Int) then (laws_sameOwners.l0 k l0 l1 (l0.length : Int) 0) else (some false)
set_option maxHeartbeats 8000000 in
set_option maxRecDepth 100000 in
theorem laws_sameOwners.calls (k : Nat) (A0 : Option Addr) (c0 : Nat) (l0 : List (S26)) (A1 : Option Addr) (c1 : Nat) (l1 : List (S26)) (r : Bool) (w : World) (hr0 : Kd.C k26 w A0 l0.length l0) (hc0 : l0.length ≤ c0) (hr1 : Kd.C k26 w A1 l1.length l1) (hc1 : l1.length ≤ c1) (h : laws_sameOwners.f k l0 l1 = some r) :
  Calls Try.prog 36 #[.slice A0 l0.length c0, .slice A1 l1.length c1] w fun e w' => e = .returned (.bool r) ∧ Drawn0 w w' := by
 have hu26 := Try.underlying26
 have HR0 := Aside0.mk hr0
 have HC0 := Aside0.mk hc0
 clear hr0 hc0
 have HR1 := Aside0.mk hr1
 have HC1 := Aside0.mk hc1
 clear hr1 hc1
 have H : (if (l0.length : Int) = (l1.length : Int) then (laws_sameOwners.l0 k l0 l1 (l0.length : Int) 0) else (some false)) = some r := h
 clear h
 by_cases c3 : (l0.length : Int) = (l1.length : Int)
 ·rw [if_pos c3] at H
  have c3b0 : ((l0.length : Int) == (l1.length : Int)) = true := beq_iff_eq.mpr c3
  have c3b1 : ((l0.length : Int) != (l1.length : Int)) = false := bne_eq_false_iff_eq.mpr c3
  have c3b2 : (l0.length == l1.length) = true := by first | simpa using c3 | (simp at c3 ⊢; omega)
  clear c3
  have H' := Aside0.mk H
  clear H
  go_enter Try.func36, Try.ntmps36
  go_wp2
  repeat (go_quiet (fail); try go_wp2)
  go_loopg [13] k (fun kq v13 w' => ∃ (x13_1 : Int), v13 = .int .i64 x13_1 ∧ Aside0 (laws_sameOwners.l0 kq l0 l1 (l0.length : Int) x13_1 = some r) ∧ Aside0 (kq ≤ k) ∧ Drawn0 w w')
  case atStart => exact ⟨(0), (by first | rfl | (simp; done) | (simp [*]; done)), H', ⟨Nat.le_refl _⟩, by repeat (first | exact Drawn0.refl _ | apply Drawn0.step)⟩
  case round =>
   clear H'
   try clear c1
   try clear p2
   try clear c3
   try clear c3b0
   try clear c3b1
   try clear c3b2
   obtain ⟨x13_1, rfl, HA, HK1, ⟨m1, rfl⟩⟩ := hrel
   cases gk with
   | zero => exact absurd HA.out (by simp [laws_sameOwners.l0])
   | succ k1 =>
    have H := HA.out
    clear HA
    simp only [laws_sameOwners.l0] at H
    by_cases c4 : x13_1 < (l0.length : Int)
    ·rw [if_pos c4] at H
     have c4b0 : decide (x13_1 < (l0.length : Int)) = true := decide_eq_true c4
     clear c4
     by_cases c5 : 0 ≤ x13_1
     ·rw [if_pos c5] at H
      have c5b0 : decide (0 ≤ x13_1) = true := decide_eq_true c5
      clear c5
      by_cases c6 : x13_1 < (l0.length : Int)
      ·rw [if_pos c6] at H
       have c6b0 : decide (x13_1 < (l0.length : Int)) = true := decide_eq_true c6
       clear c6
       by_cases c7 : x13_1 < (l1.length : Int)
       ·rw [if_pos c7] at H
        have c7b0 : decide (x13_1 < (l1.length : Int)) = true := decide_eq_true c7
        clear c7
        by_cases c8 : (!(((rd_T26 l0 x13_1).f0) == ((rd_T26 l1 x13_1).f0)) || (!(((rd_T26 l0 x13_1).f1) == ((rd_T26 l1 x13_1).f1)) || (!(((rd_T26 l0 x13_1).f2) == ((rd_T26 l1 x13_1).f2))))) = true
        ·rw [if_pos c8] at H
         have c8b0 : (!(((rd_T26 l0 x13_1).f0) == ((rd_T26 l1 x13_1).f0)) || (!(((rd_T26 l0 x13_1).f1) == ((rd_T26 l1 x13_1).f1)) || (!(((rd_T26 l0 x13_1).f2) == ((rd_T26 l1 x13_1).f2))))) = true := c8
         clear c8
         obtain rfl := Option.some.inj H
         have p501 : 0 ≤ (x13_1 : Int) := of_decide_eq_true (by first | (with_reducible assumption) | assumption)
         have q501 : x13_1 < (l0.length : Int) := of_decide_eq_true (by first | (with_reducible assumption) | assumption)
         obtain ⟨ad501, e501, hx501_0, hx501_1, hx501_2⟩ := at_T26 HR0.out x13_1 p501 q501
         cases e501
         replace p501 := eq_true p501
         replace q501 := eq_true q501
         have p502 : 0 ≤ (x13_1 : Int) := of_decide_eq_true (by first | (with_reducible assumption) | assumption)
         have q502 : x13_1 < (l1.length : Int) := of_decide_eq_true (by first | (with_reducible assumption) | assumption)
         obtain ⟨ad502, e502, hx502_0, hx502_1, hx502_2⟩ := at_T26 HR1.out x13_1 p502 q502
         cases e502
         replace p502 := eq_true p502
         replace q502 := eq_true q502
         go_wp2
         repeat (go_quiet (fail); try go_wp2)
         go_ret
         exact ⟨by first | rfl | (simp; done) | (simp [*]; done), by repeat (first | exact Drawn0.refl _ | apply Drawn0.step)⟩
        ·rw [if_neg c8] at H
         have c8b0 : (!(((rd_T26 l0 x13_1).f0) == ((rd_T26 l1 x13_1).f0)) || (!(((rd_T26 l0 x13_1).f1) == ((rd_T26 l1 x13_1).f1)) || (!(((rd_T26 l0 x13_1).f2) == ((rd_T26 l1 x13_1).f2))))) = false := by simpa using c8
         clear c8
         have H' := Aside0.mk H
         clear H
         have p501 : 0 ≤ (x13_1 : Int) := of_decide_eq_true (by first | (with_reducible assumption) | assumption)
         have q501 : x13_1 < (l0.length : Int) := of_decide_eq_true (by first | (with_reducible assumption) | assumption)
         obtain ⟨ad501, e501, hx501_0, hx501_1, hx501_2⟩ := at_T26 HR0.out x13_1 p501 q501
         cases e501
         replace p501 := eq_true p501
         replace q501 := eq_true q501
         have p502 : 0 ≤ (x13_1 : Int) := of_decide_eq_true (by first | (with_reducible assumption) | assumption)
         have q502 : x13_1 < (l1.length : Int) := of_decide_eq_true (by first | (with_reducible assumption) | assumption)
         obtain ⟨ad502, e502, hx502_0, hx502_1, hx502_2⟩ := at_T26 HR1.out x13_1 p502 q502
         cases e502
         replace p502 := eq_true p502
         replace q502 := eq_true q502
         go_wp2
         repeat (go_quiet (fail); try go_wp2)
         go_roundg k1
         case measure => have := HK1.out; omega
         case rel => exact ⟨(wrap64 (x13_1 + 1)), (by first | rfl | (simp; done) | (simp [*]; done)), H', ⟨by have := HK1.out; omega⟩, by repeat (first | exact Drawn0.refl _ | apply Drawn0.step)⟩
       ·rw [if_neg c7] at H
        exact absurd H (by simp)
      ·rw [if_neg c6] at H
       exact absurd H (by simp)
     ·rw [if_neg c5] at H
      exact absurd H (by simp)
    ·rw [if_neg c4] at H
     have c4b0 : decide (x13_1 < (l0.length : Int)) = false := decide_eq_false c4
     clear c4
     obtain rfl := Option.some.inj H
     go_wp2
     repeat (go_quiet (fail); try go_wp2)
     go_ret
     exact ⟨by first | rfl | (simp; done) | (simp [*]; done), by repeat (first | exact Drawn0.refl _ | apply Drawn0.step)⟩
 ·rw [if_neg c3] at H
  have c3b0 : ((l0.length : Int) == (l1.length : Int)) = false := beq_eq_false_iff_ne.mpr c3
  have c3b1 : ((l0.length : Int) != (l1.length : Int)) = true := bne_iff_ne.mpr c3
  have c3b2 : (l0.length == l1.length) = false := by first | simpa using c3 | (simp at c3 ⊢; omega)
  obtain rfl := Option.some.inj H
  go_enter Try.func36, Try.ntmps36
  go_wp2
  repeat (go_quiet (fail); try go_wp2)
  go_ret
  exact ⟨by first | rfl | (simp; done) | (simp [*]; done), by repeat (first | exact Drawn0.refl _ | apply Drawn0.step)⟩
def spec_DrawHasBetter.f (k : Nat) (l0 : List Int) : Option (Int × Int × Int × Int × Int × Int) := (spec_l1Cur_owners.f k l0 0 0).bind fun bt506 => (if (bt506.1.length : Int) < 2 then (some (1, 1, 0, 2, 1, 0)) else ((spec_l1Cur_pick.f l0 bt506.2.1 bt506.2.2 (bt506.1.length : Int)).bind fun bt511 => (if 0 ≤ bt511.1 then (if bt511.1 < (bt506.1.length : Int) then ((spec_l1Cur_pick.f l0 bt511.2.1 bt511.2.2 (bt506.1.length : Int)).bind fun bt515 => (if 0 ≤ bt515.1 then (if bt515.1 < (bt506.1.length : Int) then (some ((rd_T26 bt506.1 bt511.1).f0, (rd_T26 bt506.1 bt511.1).f1, (rd_T26 bt506.1 bt511.1).f2, (rd_T26 bt506.1 bt515.1).f0, (rd_T26 bt506.1 bt515.1).f1, (rd_T26 bt506.1 bt515.1).f2)) else (none)) else (none))) else (none)) else (none))))
def spec_DrawHasBetter.T5 : Bool × List (List Nat × List Nat) := (true, [([], []), ([], []), ([], []), ([2], [2]), ([1, 3], [1, 3]), ([0, 4], [0, 4]), ([5], [5]), ([], []), ([], []), ([], []), ([9], [9]), ([8, 10, 4], [8, 10]), ([7, 11], [7, 11]), ([12], [12]), ([6, 11, 0, 1, 2, 3, 4, 5, 6], [6]), ([13, 14, 0, 1, 2, 3, 4, 5, 6, 7, 8, 9, 10, 11, 12, 13, 14], [13])])
def spec_DrawHasBetter.B5 : List Nat := [0, 0, 0, 4, 14, 31, 63, 0, 0, 0, 512, 1822, 3998, 8094, 3967, 32767]
theorem spec_DrawHasBetter.tab5 : rtab .any (opsOf Try.f37 5) = spec_DrawHasBetter.T5 := by kernel_rfl
theorem spec_DrawHasBetter.bits5 : waitsOk spec_DrawHasBetter.T5.2 spec_DrawHasBetter.B5 = true := by kernel_rfl
set_option maxHeartbeats 8000000 in
set_option maxRecDepth 100000 in
theorem spec_DrawHasBetter.calls (k : Nat) (A0 : Option Addr) (c0 : Nat) (l0 : List Int) (r1 : Int) (r2 : Int) (r3 : Int) (r4 : Int) (r5 : Int) (r6 : Int) (w : World) (hr0 : Kd.C (Kd.int .u8) w A0 l0.length l0) (hc0 : l0.length ≤ c0) (h : spec_DrawHasBetter.f k l0 = some (r1, r2, r3, r4, r5, r6)) :
  Calls Try.prog 37 #[.slice A0 l0.length c0] w fun e w' => e = .returned (.tuple #[.agg #[.int .i64 r1, .int .i64 r2, .int .i64 r3], .agg #[.int .i64 r4, .int .i64 r5, .int .i64 r6]]) ∧ Below w.heap.size w w' := by
 have hu26 := Try.underlying26
 have hu61 := Try.underlying61
 have HR0 := Aside0.mk hr0
 have HC0 := Aside0.mk hc0
 clear hr0 hc0
 have HB := Aside0.mk (Below.refl w.heap.size w)
 have H : ((spec_l1Cur_owners.f k l0 0 0).bind fun bt506 => (if (bt506.1.length : Int) < 2 then (some (1, 1, 0, 2, 1, 0)) else ((spec_l1Cur_pick.f l0 bt506.2.1 bt506.2.2 (bt506.1.length : Int)).bind fun bt511 => (if 0 ≤ bt511.1 then (if bt511.1 < (bt506.1.length : Int) then ((spec_l1Cur_pick.f l0 bt511.2.1 bt511.2.2 (bt506.1.length : Int)).bind fun bt515 => (if 0 ≤ bt515.1 then (if bt515.1 < (bt506.1.length : Int) then (some ((rd_T26 bt506.1 bt511.1).f0, (rd_T26 bt506.1 bt511.1).f1, (rd_T26 bt506.1 bt511.1).f2, (rd_T26 bt506.1 bt515.1).f0, (rd_T26 bt506.1 bt515.1).f1, (rd_T26 bt506.1 bt515.1).f2)) else (none)) else (none))) else (none)) else (none))))) = some (r1, r2, r3, r4, r5, r6) := h
 clear h
 replace H := Option.bind_eq_some_iff.mp H
 obtain ⟨⟨t506, t509, t510⟩, A20, H⟩ := H
 replace H : (if (t506.length : Int) < 2 then (some (1, 1, 0, 2, 1, 0)) else ((spec_l1Cur_pick.f l0 t509 t510 (t506.length : Int)).bind fun bt511 => (if 0 ≤ bt511.1 then (if bt511.1 < (t506.length : Int) then ((spec_l1Cur_pick.f l0 bt511.2.1 bt511.2.2 (t506.length : Int)).bind fun bt515 => (if 0 ≤ bt515.1 then (if bt515.1 < (t506.length : Int) then (some ((rd_T26 t506 bt511.1).f0, (rd_T26 t506 bt511.1).f1, (rd_T26 t506 bt511.1).f2, (rd_T26 t506 bt515.1).f0, (rd_T26 t506 bt515.1).f1, (rd_T26 t506 bt515.1).f2)) else (none)) else (none))) else (none)) else (none)))) = some (r1, r2, r3, r4, r5, r6) := H
 have A2 := Aside0.mk A20
 clear A20
 by_cases c3 : (t506.length : Int) < 2
 ·rw [if_pos c3] at H
  have c3b0 : decide ((t506.length : Int) < 2) = true := decide_eq_true c3
  have c3b1 : decide (t506.length < 2) = true := decide_eq_true (by omega)
  clear c3
  simp only [Option.some.injEq, Prod.mk.injEq] at H
  obtain ⟨rfl, rfl, rfl, rfl, rfl, rfl⟩ := H
  go_enter Try.func37, Try.ntmps37
  go_wp2_with (first | ((with_reducible refine gate_dst (N := 2) rfl ?_); refine box_event ?hg (N := 2) ?hd (cs := #[.int .i64 0, .int .i64 0, .int .i64 0]) (t := 26) ?hr ?_; (case hd => rfl); (case hg => rfl); (case hr => first | (go_simp; done) | (go_simp; rfl)); intro gb503 hg w4 hbox hb; have n0_ := Aside0.mk (below_step (by repeat (first | (with_reducible first | exact HB.out | apply below_alloc | apply pw_below_drewN | apply below_drew1) | exact HB.out)) hb); have n1_ := Aside0.mk (hbox); have n2_ := Aside0.mk ((by rw [hg]; exact (below_size (by repeat (first | (with_reducible first | exact HB.out | apply below_alloc | apply pw_below_drewN | apply below_drew1) | exact HB.out))) : w.heap.size ≤ gb503)); have n3_ := Aside0.mk ((by rw [hg]; exact (below_size (by repeat (first | (with_reducible first | exact HB.out | apply below_alloc | apply pw_below_drewN | apply below_drew1) | exact HB.out))) : w.heap.size ≤ gb503)); clear HB; have HB := n0_; have BK503 := n1_; have GW503 := n2_; have GE503 := n3_; clear n0_ n1_ n2_ n3_; clear hb hbox hg) | ((with_reducible refine gate_dst (N := 3) rfl ?_); refine box_event ?hg (N := 3) ?hd (cs := #[.int .i64 0, .int .i64 0, .int .i64 0]) (t := 26) ?hr ?_; (case hd => rfl); (case hg => rfl); (case hr => first | (go_simp; done) | (go_simp; rfl)); intro gb504 hg w5 hbox hb; have n0_ := Aside0.mk (blk_below (g := gb503) (o := .cells #[.int .i64 0, .int .i64 0, .int .i64 0] 26 (0, 0)) (by (with_reducible repeat (first | refine blk_drewN ?_ _ | refine blk_drew ?_ | refine blk_alloc ?_ _)); exact BK503.out) hb); have n1_ := Aside0.mk (below_step (by repeat (first | (with_reducible first | exact HB.out | apply below_alloc | apply pw_below_drewN | apply below_drew1 | refine below_set ?_ GE503.out) | exact HB.out)) hb); have n2_ := Aside0.mk (hbox); have n3_ := Aside0.mk ((by rw [hg]; exact (below_size (by repeat (first | (with_reducible first | exact HB.out | apply below_alloc | apply pw_below_drewN | apply below_drew1 | refine below_set ?_ GE503.out) | exact HB.out))) : w.heap.size ≤ gb504)); have n4_ := Aside0.mk ((by rw [hg]; exact (below_size (by repeat (first | (with_reducible first | exact HB.out | apply below_alloc | apply pw_below_drewN | apply below_drew1 | refine below_set ?_ GE503.out) | exact HB.out))) : w.heap.size ≤ gb504)); have n5_ := Aside0.mk ((by rw [hg]; exact Nat.ne_of_lt (blk_lt (g := gb503) (o := .cells #[.int .i64 0, .int .i64 0, .int .i64 0] 26 (0, 0)) (by (with_reducible repeat (first | refine blk_drewN ?_ _ | refine blk_drew ?_ | refine blk_alloc ?_ _)); exact BK503.out)) : gb503 ≠ gb504)); have n6_ := Aside0.mk ((by rw [hg]; exact Nat.ne_of_gt (blk_lt (g := gb503) (o := .cells #[.int .i64 0, .int .i64 0, .int .i64 0] 26 (0, 0)) (by (with_reducible repeat (first | refine blk_drewN ?_ _ | refine blk_drew ?_ | refine blk_alloc ?_ _)); exact BK503.out)) : gb504 ≠ gb503)); clear BK503; clear HB; have BK503 := n0_; have HB := n1_; have BK504 := n2_; have GW504 := n3_; have GE504 := n4_; have NB503_504 := n5_; have NB504_503 := n6_; clear n0_ n1_ n2_ n3_ n4_ n5_ n6_; clear hb hbox hg) | ((with_reducible refine gate_dst (N := 8) rfl ?_); refine box_event ?hg (N := 8) ?hd (cs := #[.slice A0 l0.length c0, .int .i64 0, .int .u64 0]) (t := 61) ?hr ?_; (case hd => rfl); (case hg => rfl); (case hr => first | (go_simp; done) | (go_simp; rfl)); intro gb505 hg w6 hbox hb; have n0_ := Aside0.mk (blk_below (g := gb503) (o := .cells #[.int .i64 0, .int .i64 0, .int .i64 0] 26 (0, 0)) (by (with_reducible repeat (first | refine blk_drewN ?_ _ | refine blk_drew ?_ | refine blk_alloc ?_ _)); exact BK503.out) hb); have n1_ := Aside0.mk (blk_below (g := gb504) (o := .cells #[.int .i64 0, .int .i64 0, .int .i64 0] 26 (0, 0)) (by (with_reducible repeat (first | refine blk_drewN ?_ _ | refine blk_drew ?_ | refine blk_alloc ?_ _)); exact BK504.out) hb); have n2_ := Aside0.mk (below_step (by repeat (first | (with_reducible first | exact HB.out | apply below_alloc | apply pw_below_drewN | apply below_drew1 | refine below_set ?_ GE503.out | refine below_set ?_ GE504.out) | exact HB.out)) hb); have n3_ := Aside0.mk ((by rw [hg]; exact (below_size (by repeat (first | (with_reducible first | exact HB.out | apply below_alloc | apply pw_below_drewN | apply below_drew1 | refine below_set ?_ GE503.out | refine below_set ?_ GE504.out) | exact HB.out))) : w.heap.size ≤ gb505)); have n4_ := Aside0.mk ((by rw [hg]; exact (below_size (by repeat (first | (with_reducible first | exact HB.out | apply below_alloc | apply pw_below_drewN | apply below_drew1 | refine below_set ?_ GE503.out | refine below_set ?_ GE504.out) | exact HB.out))) : w.heap.size ≤ gb505)); have n5_ := Aside0.mk ((by rw [hg]; exact Nat.ne_of_lt (blk_lt (g := gb503) (o := .cells #[.int .i64 0, .int .i64 0, .int .i64 0] 26 (0, 0)) (by (with_reducible repeat (first | refine blk_drewN ?_ _ | refine blk_drew ?_ | refine blk_alloc ?_ _)); exact BK503.out)) : gb503 ≠ gb505)); have n6_ := Aside0.mk ((by rw [hg]; exact Nat.ne_of_gt (blk_lt (g := gb503) (o := .cells #[.int .i64 0, .int .i64 0, .int .i64 0] 26 (0, 0)) (by (with_reducible repeat (first | refine blk_drewN ?_ _ | refine blk_drew ?_ | refine blk_alloc ?_ _)); exact BK503.out)) : gb505 ≠ gb503)); have n7_ := Aside0.mk ((by rw [hg]; exact Nat.ne_of_lt (blk_lt (g := gb504) (o := .cells #[.int .i64 0, .int .i64 0, .int .i64 0] 26 (0, 0)) (by (with_reducible repeat (first | refine blk_drewN ?_ _ | refine blk_drew ?_ | refine blk_alloc ?_ _)); exact BK504.out)) : gb504 ≠ gb505)); have n8_ := Aside0.mk ((by rw [hg]; exact Nat.ne_of_gt (blk_lt (g := gb504) (o := .cells #[.int .i64 0, .int .i64 0, .int .i64 0] 26 (0, 0)) (by (with_reducible repeat (first | refine blk_drewN ?_ _ | refine blk_drew ?_ | refine blk_alloc ?_ _)); exact BK504.out)) : gb505 ≠ gb504)); have n9_ := Aside0.mk ((show IsS61 w _ gb505 l0 0 0 from ⟨_, _, hbox, (by rw [hg]; exact (below_size (by repeat (first | (with_reducible first | exact HB.out | apply below_alloc | apply pw_below_drewN | apply below_drew1 | refine below_set ?_ GE503.out | refine below_set ?_ GE504.out) | exact HB.out))) : w.heap.size ≤ gb505), HR0.out⟩)); clear BK503; clear BK504; clear HB; have BK503 := n0_; have BK504 := n1_; have HB := n2_; have GW505 := n3_; have GE505 := n4_; have NB503_505 := n5_; have NB505_503 := n6_; have NB504_505 := n7_; have NB505_504 := n8_; have HI505 := n9_; clear n0_ n1_ n2_ n3_ n4_ n5_ n6_ n7_ n8_ n9_; clear hb hbox hg) | ((with_reducible refine gate_callee (f := 55) rfl ?_); refine goesL_ (some 10) rfl rfl Try.func55 (by kernel_rfl) rfl #[.pointer (some ⟨gb505, 0, none⟩)] rfl (by (try simp only [List.map_toArray, List.map_cons, List.map_nil]); first | done | rfl | (simp only [List.length_drop, List.length_take]; rfl)) ?_; (with_reducible refine (spec_l1Cur_owners.calls k gb505 l0 0 0 t506 t509 t510 w _ ?side1 ?side2 A2.out).mono ?_); (case side1 => repeat (first | (with_reducible first | exact HI505.out | apply IsS61.alloc | apply IsS61.drewN | apply IsS61.drew | apply IsS61.set_1 | apply IsS61.set_2 | refine IsS61.far ?_ NB505_503.out _ | refine IsS61.far ?_ NB505_504.out _) | exact HI505.out)); (case side2 => repeat (first | (with_reducible first | exact HB.out | apply below_alloc | apply pw_below_drewN | apply below_drew1 | refine below_set ?_ (IsS61.ge HI505.out) | refine below_set ?_ GE503.out | refine below_set ?_ GE504.out) | exact HB.out)); rintro e w7 ⟨v507, rfl, ho0, hi, hb, hk⟩; refine ⟨_, rfl, ?_⟩; have n0_ := Aside0.mk (KeepBut.blk hk (g' := gb503) (o := .cells #[.int .i64 0, .int .i64 0, .int .i64 0] 26 (0, 0)) (by (with_reducible repeat (first | refine blk_drewN ?_ _ | refine blk_drew ?_ | refine blk_alloc ?_ _)); exact BK503.out) NB503_505.out (by simp)); have n1_ := Aside0.mk (KeepBut.blk hk (g' := gb504) (o := .cells #[.int .i64 0, .int .i64 0, .int .i64 0] 26 (0, 0)) (by (with_reducible repeat (first | refine blk_drewN ?_ _ | refine blk_drew ?_ | refine blk_alloc ?_ _)); exact BK504.out) NB504_505.out (by simp)); have n2_ := Aside0.mk (Kd.R_lower (Kd.R_newB (Kd.R_newB ho0 (g := gb503) (o := .cells #[.int .i64 0, .int .i64 0, .int .i64 0] 26 (0, 0)) (by (with_reducible repeat (first | refine blk_drewN ?_ _ | refine blk_drew ?_ | refine blk_alloc ?_ _)); exact BK503.out)) (g := gb504) (o := .cells #[.int .i64 0, .int .i64 0, .int .i64 0] 26 (0, 0)) (by (with_reducible repeat (first | refine blk_drewN ?_ _ | refine blk_drew ?_ | refine blk_alloc ?_ _)); exact BK504.out)) (below_size (by repeat (first | (with_reducible first | exact HB.out | apply below_alloc | apply pw_below_drewN | apply below_drew1 | refine below_set ?_ (IsS61.ge HI505.out) | refine below_set ?_ GE503.out | refine below_set ?_ GE504.out) | exact HB.out)))); have n3_ := Aside0.mk (hb); have n4_ := Aside0.mk (hi); clear BK503; clear BK504; clear HB; clear HI505; have BK503 := n0_; have BK504 := n1_; have HO508 := n2_; have HB := n3_; have HI505 := n4_; clear n0_ n1_ n2_ n3_ n4_; (try clear hb); (try clear hb2); (try clear hk); (try clear hi); (try clear ho0); obtain ⟨Ao8, co8, eo8⟩ := Kd.R_slice HO508.out; subst eo8; have hnb9 := NB503_504.out; have hnc9 := NB504_503.out; have hnb10 := NB503_505.out; have hnc10 := NB505_503.out; have hcz11_0 : w7.cell? ⟨gb503, 0, none⟩ = some (.int .i64 0) := (blk_cell BK503.out 0).trans rfl; have hcz11_1 : w7.cell? ⟨gb503, 1, none⟩ = some (.int .i64 0) := (blk_cell BK503.out 1).trans rfl; have hcz11_2 : w7.cell? ⟨gb503, 2, none⟩ = some (.int .i64 0) := (blk_cell BK503.out 2).trans rfl; have hfz11_0 := blk_frozen BK503.out 0; have hfz11_1 := blk_frozen BK503.out 1; have hfz11_2 := blk_frozen BK503.out 2; have hnb12 := NB504_505.out; have hnc12 := NB505_504.out; have hcz13_0 : w7.cell? ⟨gb504, 0, none⟩ = some (.int .i64 0) := (blk_cell BK504.out 0).trans rfl; have hcz13_1 : w7.cell? ⟨gb504, 1, none⟩ = some (.int .i64 0) := (blk_cell BK504.out 1).trans rfl; have hcz13_2 : w7.cell? ⟨gb504, 2, none⟩ = some (.int .i64 0) := (blk_cell BK504.out 2).trans rfl; have hfz13_0 := blk_frozen BK504.out 0; have hfz13_1 := blk_frozen BK504.out 1; have hfz13_2 := blk_frozen BK504.out 2))
  refine bodyPost_ret (results_cc rfl _ _ gb503 gb504 26 26 #[.int .i64 1, .int .i64 1, .int .i64 0] #[.int .i64 2, .int .i64 1, .int .i64 0] (0, 0) (0, 0) _ _ rfl (by (with_reducible repeat (first | refine blk_drewN ?_ _ | refine blk_drew ?_ | refine blk_alloc ?_ _)); refine blk_far ?_ NB503_504.out _; (with_reducible repeat (first | refine blk_drewN ?_ _ | refine blk_drew ?_ | refine blk_alloc ?_ _)); refine blk_far ?_ NB503_504.out _; (with_reducible repeat (first | refine blk_drewN ?_ _ | refine blk_drew ?_ | refine blk_alloc ?_ _)); refine blk_far ?_ NB503_504.out _; (with_reducible repeat (first | refine blk_drewN ?_ _ | refine blk_drew ?_ | refine blk_alloc ?_ _)); refine blk_put (cs := #[.int .i64 1, .int .i64 1, .int .i64 0]) ?_ 2 _ rfl; (with_reducible repeat (first | refine blk_drewN ?_ _ | refine blk_drew ?_ | refine blk_alloc ?_ _)); refine blk_put (cs := #[.int .i64 1, .int .i64 0, .int .i64 0]) ?_ 1 _ rfl; (with_reducible repeat (first | refine blk_drewN ?_ _ | refine blk_drew ?_ | refine blk_alloc ?_ _)); refine blk_put (cs := #[.int .i64 0, .int .i64 0, .int .i64 0]) ?_ 0 _ rfl; (with_reducible repeat (first | refine blk_drewN ?_ _ | refine blk_drew ?_ | refine blk_alloc ?_ _)); exact BK503.out) Try.underlying26 rfl (by kernel_rfl) rfl (by (with_reducible repeat (first | refine blk_drewN ?_ _ | refine blk_drew ?_ | refine blk_alloc ?_ _)); refine blk_put (cs := #[.int .i64 2, .int .i64 1, .int .i64 0]) ?_ 2 _ rfl; (with_reducible repeat (first | refine blk_drewN ?_ _ | refine blk_drew ?_ | refine blk_alloc ?_ _)); refine blk_put (cs := #[.int .i64 2, .int .i64 0, .int .i64 0]) ?_ 1 _ rfl; (with_reducible repeat (first | refine blk_drewN ?_ _ | refine blk_drew ?_ | refine blk_alloc ?_ _)); refine blk_put (cs := #[.int .i64 0, .int .i64 0, .int .i64 0]) ?_ 0 _ rfl; (with_reducible repeat (first | refine blk_drewN ?_ _ | refine blk_drew ?_ | refine blk_alloc ?_ _)); refine blk_far ?_ NB504_503.out _; (with_reducible repeat (first | refine blk_drewN ?_ _ | refine blk_drew ?_ | refine blk_alloc ?_ _)); refine blk_far ?_ NB504_503.out _; (with_reducible repeat (first | refine blk_drewN ?_ _ | refine blk_drew ?_ | refine blk_alloc ?_ _)); refine blk_far ?_ NB504_503.out _; (with_reducible repeat (first | refine blk_drewN ?_ _ | refine blk_drew ?_ | refine blk_alloc ?_ _)); exact BK504.out) Try.underlying26 rfl (by kernel_rfl)) rfl ?_
  exact ⟨by first | rfl | (simp [errW_none, errW_some] <;> rfl) | (simp [*, errW_none, errW_some] <;> rfl), by repeat (first | (with_reducible first | exact HB.out | apply below_alloc | apply pw_below_drewN | apply below_drew1 | refine below_set ?_ (IsS61.ge HI505.out) | refine below_set ?_ GE503.out | refine below_set ?_ GE504.out) | exact HB.out)⟩
 ·rw [if_neg c3] at H
  have c3b0 : decide ((t506.length : Int) < 2) = false := decide_eq_false c3
  have c3b1 : decide (t506.length < 2) = false := decide_eq_false (by omega)
  clear c3
  replace H := Option.bind_eq_some_iff.mp H
  obtain ⟨⟨t511, t512, t513⟩, A140, H⟩ := H
  replace H : (if 0 ≤ t511 then (if t511 < (t506.length : Int) then ((spec_l1Cur_pick.f l0 t512 t513 (t506.length : Int)).bind fun bt515 => (if 0 ≤ bt515.1 then (if bt515.1 < (t506.length : Int) then (some ((rd_T26 t506 t511).f0, (rd_T26 t506 t511).f1, (rd_T26 t506 t511).f2, (rd_T26 t506 bt515.1).f0, (rd_T26 t506 bt515.1).f1, (rd_T26 t506 bt515.1).f2)) else (none)) else (none))) else (none)) else (none)) = some (r1, r2, r3, r4, r5, r6) := H
  have A14 := Aside0.mk A140
  clear A140
  by_cases c15 : 0 ≤ t511
  ·rw [if_pos c15] at H
   have c15b0 : decide (0 ≤ t511) = true := decide_eq_true c15
   clear c15
   by_cases c16 : t511 < (t506.length : Int)
   ·rw [if_pos c16] at H
    have c16b0 : decide (t511 < (t506.length : Int)) = true := decide_eq_true c16
    clear c16
    replace H := Option.bind_eq_some_iff.mp H
    obtain ⟨⟨t515, t516, t517⟩, A170, H⟩ := H
    replace H : (if 0 ≤ t515 then (if t515 < (t506.length : Int) then (some ((rd_T26 t506 t511).f0, (rd_T26 t506 t511).f1, (rd_T26 t506 t511).f2, (rd_T26 t506 t515).f0, (rd_T26 t506 t515).f1, (rd_T26 t506 t515).f2)) else (none)) else (none)) = some (r1, r2, r3, r4, r5, r6) := H
    have A17 := Aside0.mk A170
    clear A170
    by_cases c18 : 0 ≤ t515
    ·rw [if_pos c18] at H
     have c18b0 : decide (0 ≤ t515) = true := decide_eq_true c18
     clear c18
     by_cases c19 : t515 < (t506.length : Int)
     ·rw [if_pos c19] at H
      have c19b0 : decide (t515 < (t506.length : Int)) = true := decide_eq_true c19
      clear c19
      simp only [Option.some.injEq, Prod.mk.injEq] at H
      obtain ⟨rfl, rfl, rfl, rfl, rfl, rfl⟩ := H
      go_enter Try.func37, Try.ntmps37
      try go_wp2_with (first | ((with_reducible refine gate_dst (N := 2) rfl ?_); refine box_event ?hg (N := 2) ?hd (cs := #[.int .i64 0, .int .i64 0, .int .i64 0]) (t := 26) ?hr ?_; (case hd => rfl); (case hg => rfl); (case hr => first | (go_simp; done) | (go_simp; rfl)); intro gb503 hg w20 hbox hb; have n0_ := Aside0.mk (below_step (by repeat (first | (with_reducible first | exact HB.out | apply below_alloc | apply pw_below_drewN | apply below_drew1) | exact HB.out)) hb); have n1_ := Aside0.mk (hbox); have n2_ := Aside0.mk ((by rw [hg]; exact (below_size (by repeat (first | (with_reducible first | exact HB.out | apply below_alloc | apply pw_below_drewN | apply below_drew1) | exact HB.out))) : w.heap.size ≤ gb503)); have n3_ := Aside0.mk ((by rw [hg]; exact (below_size (by repeat (first | (with_reducible first | exact HB.out | apply below_alloc | apply pw_below_drewN | apply below_drew1) | exact HB.out))) : w.heap.size ≤ gb503)); clear HB; have HB := n0_; have BK503 := n1_; have GW503 := n2_; have GE503 := n3_; clear n0_ n1_ n2_ n3_; clear hb hbox hg) | ((with_reducible refine gate_dst (N := 3) rfl ?_); refine box_event ?hg (N := 3) ?hd (cs := #[.int .i64 0, .int .i64 0, .int .i64 0]) (t := 26) ?hr ?_; (case hd => rfl); (case hg => rfl); (case hr => first | (go_simp; done) | (go_simp; rfl)); intro gb504 hg w21 hbox hb; have n0_ := Aside0.mk (blk_below (g := gb503) (o := .cells #[.int .i64 0, .int .i64 0, .int .i64 0] 26 (0, 0)) (by (with_reducible repeat (first | refine blk_drewN ?_ _ | refine blk_drew ?_ | refine blk_alloc ?_ _)); exact BK503.out) hb); have n1_ := Aside0.mk (below_step (by repeat (first | (with_reducible first | exact HB.out | apply below_alloc | apply pw_below_drewN | apply below_drew1 | refine below_set ?_ GE503.out) | exact HB.out)) hb); have n2_ := Aside0.mk (hbox); have n3_ := Aside0.mk ((by rw [hg]; exact (below_size (by repeat (first | (with_reducible first | exact HB.out | apply below_alloc | apply pw_below_drewN | apply below_drew1 | refine below_set ?_ GE503.out) | exact HB.out))) : w.heap.size ≤ gb504)); have n4_ := Aside0.mk ((by rw [hg]; exact (below_size (by repeat (first | (with_reducible first | exact HB.out | apply below_alloc | apply pw_below_drewN | apply below_drew1 | refine below_set ?_ GE503.out) | exact HB.out))) : w.heap.size ≤ gb504)); have n5_ := Aside0.mk ((by rw [hg]; exact Nat.ne_of_lt (blk_lt (g := gb503) (o := .cells #[.int .i64 0, .int .i64 0, .int .i64 0] 26 (0, 0)) (by (with_reducible repeat (first | refine blk_drewN ?_ _ | refine blk_drew ?_ | refine blk_alloc ?_ _)); exact BK503.out)) : gb503 ≠ gb504)); have n6_ := Aside0.mk ((by rw [hg]; exact Nat.ne_of_gt (blk_lt (g := gb503) (o := .cells #[.int .i64 0, .int .i64 0, .int .i64 0] 26 (0, 0)) (by (with_reducible repeat (first | refine blk_drewN ?_ _ | refine blk_drew ?_ | refine blk_alloc ?_ _)); exact BK503.out)) : gb504 ≠ gb503)); clear BK503; clear HB; have BK503 := n0_; have HB := n1_; have BK504 := n2_; have GW504 := n3_; have GE504 := n4_; have NB503_504 := n5_; have NB504_503 := n6_; clear n0_ n1_ n2_ n3_ n4_ n5_ n6_; clear hb hbox hg) | ((with_reducible refine gate_dst (N := 8) rfl ?_); refine box_event ?hg (N := 8) ?hd (cs := #[.slice A0 l0.length c0, .int .i64 0, .int .u64 0]) (t := 61) ?hr ?_; (case hd => rfl); (case hg => rfl); (case hr => first | (go_simp; done) | (go_simp; rfl)); intro gb505 hg w22 hbox hb; have n0_ := Aside0.mk (blk_below (g := gb503) (o := .cells #[.int .i64 0, .int .i64 0, .int .i64 0] 26 (0, 0)) (by (with_reducible repeat (first | refine blk_drewN ?_ _ | refine blk_drew ?_ | refine blk_alloc ?_ _)); exact BK503.out) hb); have n1_ := Aside0.mk (blk_below (g := gb504) (o := .cells #[.int .i64 0, .int .i64 0, .int .i64 0] 26 (0, 0)) (by (with_reducible repeat (first | refine blk_drewN ?_ _ | refine blk_drew ?_ | refine blk_alloc ?_ _)); exact BK504.out) hb); have n2_ := Aside0.mk (below_step (by repeat (first | (with_reducible first | exact HB.out | apply below_alloc | apply pw_below_drewN | apply below_drew1 | refine below_set ?_ GE503.out | refine below_set ?_ GE504.out) | exact HB.out)) hb); have n3_ := Aside0.mk ((by rw [hg]; exact (below_size (by repeat (first | (with_reducible first | exact HB.out | apply below_alloc | apply pw_below_drewN | apply below_drew1 | refine below_set ?_ GE503.out | refine below_set ?_ GE504.out) | exact HB.out))) : w.heap.size ≤ gb505)); have n4_ := Aside0.mk ((by rw [hg]; exact (below_size (by repeat (first | (with_reducible first | exact HB.out | apply below_alloc | apply pw_below_drewN | apply below_drew1 | refine below_set ?_ GE503.out | refine below_set ?_ GE504.out) | exact HB.out))) : w.heap.size ≤ gb505)); have n5_ := Aside0.mk ((by rw [hg]; exact Nat.ne_of_lt (blk_lt (g := gb503) (o := .cells #[.int .i64 0, .int .i64 0, .int .i64 0] 26 (0, 0)) (by (with_reducible repeat (first | refine blk_drewN ?_ _ | refine blk_drew ?_ | refine blk_alloc ?_ _)); exact BK503.out)) : gb503 ≠ gb505)); have n6_ := Aside0.mk ((by rw [hg]; exact Nat.ne_of_gt (blk_lt (g := gb503) (o := .cells #[.int .i64 0, .int .i64 0, .int .i64 0] 26 (0, 0)) (by (with_reducible repeat (first | refine blk_drewN ?_ _ | refine blk_drew ?_ | refine blk_alloc ?_ _)); exact BK503.out)) : gb505 ≠ gb503)); have n7_ := Aside0.mk ((by rw [hg]; exact Nat.ne_of_lt (blk_lt (g := gb504) (o := .cells #[.int .i64 0, .int .i64 0, .int .i64 0] 26 (0, 0)) (by (with_reducible repeat (first | refine blk_drewN ?_ _ | refine blk_drew ?_ | refine blk_alloc ?_ _)); exact BK504.out)) : gb504 ≠ gb505)); have n8_ := Aside0.mk ((by rw [hg]; exact Nat.ne_of_gt (blk_lt (g := gb504) (o := .cells #[.int .i64 0, .int .i64 0, .int .i64 0] 26 (0, 0)) (by (with_reducible repeat (first | refine blk_drewN ?_ _ | refine blk_drew ?_ | refine blk_alloc ?_ _)); exact BK504.out)) : gb505 ≠ gb504)); have n9_ := Aside0.mk ((show IsS61 w _ gb505 l0 0 0 from ⟨_, _, hbox, (by rw [hg]; exact (below_size (by repeat (first | (with_reducible first | exact HB.out | apply below_alloc | apply pw_below_drewN | apply below_drew1 | refine below_set ?_ GE503.out | refine below_set ?_ GE504.out) | exact HB.out))) : w.heap.size ≤ gb505), HR0.out⟩)); clear BK503; clear BK504; clear HB; have BK503 := n0_; have BK504 := n1_; have HB := n2_; have GW505 := n3_; have GE505 := n4_; have NB503_505 := n5_; have NB505_503 := n6_; have NB504_505 := n7_; have NB505_504 := n8_; have HI505 := n9_; clear n0_ n1_ n2_ n3_ n4_ n5_ n6_ n7_ n8_ n9_; clear hb hbox hg) | ((with_reducible refine gate_callee (f := 55) rfl ?_); refine goesL_ (some 10) rfl rfl Try.func55 (by kernel_rfl) rfl #[.pointer (some ⟨gb505, 0, none⟩)] rfl (by (try simp only [List.map_toArray, List.map_cons, List.map_nil]); first | done | rfl | (simp only [List.length_drop, List.length_take]; rfl)) ?_; (with_reducible refine (spec_l1Cur_owners.calls k gb505 l0 0 0 t506 t509 t510 w _ ?side1 ?side2 A2.out).mono ?_); (case side1 => repeat (first | (with_reducible first | exact HI505.out | apply IsS61.alloc | apply IsS61.drewN | apply IsS61.drew | apply IsS61.set_1 | apply IsS61.set_2 | refine IsS61.far ?_ NB505_503.out _ | refine IsS61.far ?_ NB505_504.out _) | exact HI505.out)); (case side2 => repeat (first | (with_reducible first | exact HB.out | apply below_alloc | apply pw_below_drewN | apply below_drew1 | refine below_set ?_ (IsS61.ge HI505.out) | refine below_set ?_ GE503.out | refine below_set ?_ GE504.out) | exact HB.out)); rintro e w23 ⟨v507, rfl, ho0, hi, hb, hk⟩; refine ⟨_, rfl, ?_⟩; have n0_ := Aside0.mk (KeepBut.blk hk (g' := gb503) (o := .cells #[.int .i64 0, .int .i64 0, .int .i64 0] 26 (0, 0)) (by (with_reducible repeat (first | refine blk_drewN ?_ _ | refine blk_drew ?_ | refine blk_alloc ?_ _)); exact BK503.out) NB503_505.out (by simp)); have n1_ := Aside0.mk (KeepBut.blk hk (g' := gb504) (o := .cells #[.int .i64 0, .int .i64 0, .int .i64 0] 26 (0, 0)) (by (with_reducible repeat (first | refine blk_drewN ?_ _ | refine blk_drew ?_ | refine blk_alloc ?_ _)); exact BK504.out) NB504_505.out (by simp)); have n2_ := Aside0.mk (Kd.R_lower (Kd.R_newB (Kd.R_newB ho0 (g := gb503) (o := .cells #[.int .i64 0, .int .i64 0, .int .i64 0] 26 (0, 0)) (by (with_reducible repeat (first | refine blk_drewN ?_ _ | refine blk_drew ?_ | refine blk_alloc ?_ _)); exact BK503.out)) (g := gb504) (o := .cells #[.int .i64 0, .int .i64 0, .int .i64 0] 26 (0, 0)) (by (with_reducible repeat (first | refine blk_drewN ?_ _ | refine blk_drew ?_ | refine blk_alloc ?_ _)); exact BK504.out)) (below_size (by repeat (first | (with_reducible first | exact HB.out | apply below_alloc | apply pw_below_drewN | apply below_drew1 | refine below_set ?_ (IsS61.ge HI505.out) | refine below_set ?_ GE503.out | refine below_set ?_ GE504.out) | exact HB.out)))); have n3_ := Aside0.mk (hb); have n4_ := Aside0.mk (hi); clear BK503; clear BK504; clear HB; clear HI505; have BK503 := n0_; have BK504 := n1_; have HO508 := n2_; have HB := n3_; have HI505 := n4_; clear n0_ n1_ n2_ n3_ n4_; (try clear hb); (try clear hb2); (try clear hk); (try clear hi); (try clear ho0); obtain ⟨Ao24, co24, eo24⟩ := Kd.R_slice HO508.out; subst eo24))
      have n0_ := Aside0.mk (Kd.R_drew HO508.out)
      have n1_ := Aside0.mk (blk_drew BK503.out)
      have n2_ := Aside0.mk (blk_drew BK504.out)
      have n3_ := Aside0.mk (IsS61.drew HI505.out)
      have n4_ := Aside0.mk (below_drew1 HB.out)
      clear HO508
      clear BK503
      clear BK504
      clear HI505
      clear HB
      have HO508 := n0_
      have BK503 := n1_
      have BK504 := n2_
      have HI505 := n3_
      have HB := n4_
      clear n0_ n1_ n2_ n3_ n4_
      have p514 : 0 ≤ (t511 : Int) := of_decide_eq_true (by first | (with_reducible assumption) | assumption)
      have q514 : t511 < (t506.length : Int) := of_decide_eq_true (by first | (with_reducible assumption) | assumption)
      obtain ⟨ad514, e514, hx514_0, hx514_1, hx514_2⟩ := at_T26 (Kd.R_reads' HO508.out).2.2 t511 p514 q514
      cases e514
      replace p514 := eq_true p514
      replace q514 := eq_true q514
      have p518 : 0 ≤ (t515 : Int) := of_decide_eq_true (by first | (with_reducible assumption) | assumption)
      have q518 : t515 < (t506.length : Int) := of_decide_eq_true (by first | (with_reducible assumption) | assumption)
      obtain ⟨ad518, e518, hx518_0, hx518_1, hx518_2⟩ := at_T26 (Kd.R_reads' HO508.out).2.2 t515 p518 q518
      obtain rfl : ad514 = ad518 := (by injection e518)
      replace p518 := eq_true p518
      replace q518 := eq_true q518
      refine start_ (n := 16) (S := fun w' => w'.cell? (ad514.add ((t511).toNat * 3)) = some (.int .i64 ((rd_T26 t506 t511).f0)) ∧ w'.cell? ⟨(ad514.add ((t511).toNat * 3)).block, (ad514.add ((t511).toNat * 3)).off + 1, none⟩ = some (.int .i64 ((rd_T26 t506 t511).f1)) ∧ w'.cell? ⟨(ad514.add ((t511).toNat * 3)).block, (ad514.add ((t511).toNat * 3)).off + 2, none⟩ = some (.int .i64 ((rd_T26 t506 t511).f2)) ∧ w'.cell? (ad514.add ((t515).toNat * 3)) = some (.int .i64 ((rd_T26 t506 t515).f0)) ∧ w'.cell? ⟨(ad514.add ((t515).toNat * 3)).block, (ad514.add ((t515).toNat * 3)).off + 1, none⟩ = some (.int .i64 ((rd_T26 t506 t515).f1)) ∧ w'.cell? ⟨(ad514.add ((t515).toNat * 3)).block, (ad514.add ((t515).toNat * 3)).off + 2, none⟩ = some (.int .i64 ((rd_T26 t506 t515).f2))) (ds := []) #[false, false, false, false, false, false, false, false, false, false, false, false, false, false, false, false] (by kernel_rfl) rfl rfl ⟨hx514_0, hx514_1, hx514_2, hx518_0, hx518_1, hx518_2⟩ (fun hHeld => ?_); refine with_tabW spec_DrawHasBetter.tab5 spec_DrawHasBetter.bits5 (fun HT_ HW_ => ?_)
      generalize w23.drew = w25 at HO508 BK503 BK504 HI505 HB hx514_0 hx514_1 hx514_2 hx518_0 hx518_1 hx518_2 hHeld ⊢
      refine pure_ (i := 0) (N := some 16) (v := ?_) (a' := ?_) #[true, false, false, false, false, false, false, false, false, false, false, false, false, false, false, false] rfl rfl (any_of HT_.out (by kernel_rfl)) (fun _ _ _ h => h) (Or.inl ⟨by rfl, ?_⟩) ?_ ?_
      rotate_left
      ·intro w'
       go_simp
       with_reducible rfl
      rotate_left
      ·simp only [Act.put, List.setIfInBounds_toArray, List.set_cons_zero, List.set_cons_succ, i64_w, i32_w]
       rfl
      refine pure_ (i := 1) (N := some 17) (v := ?_) (a' := ?_) #[true, true, false, false, false, false, false, false, false, false, false, false, false, false, false, false] rfl rfl (any_of HT_.out (by kernel_rfl)) (fun _ _ _ h => h) (Or.inl ⟨by rfl, ?_⟩) ?_ ?_
      rotate_left
      ·intro w'
       go_simp
       with_reducible rfl
      rotate_left
      ·simp only [Act.put, List.setIfInBounds_toArray, List.set_cons_zero, List.set_cons_succ, i64_w, i32_w]
       rfl
      refine pure_ (i := 2) (N := some 18) (v := ?_) (a' := ?_) #[true, true, true, false, false, false, false, false, false, false, false, false, false, false, false, false] rfl rfl (any_of HT_.out (by kernel_rfl)) (fun _ _ _ h => h) (Or.inl ⟨by rfl, ?_⟩) ?_ ?_
      rotate_left
      ·intro w'
       go_simp
       with_reducible rfl
      rotate_left
      ·simp only [Act.put, List.setIfInBounds_toArray, List.set_cons_zero, List.set_cons_succ, i64_w, i32_w]
       rfl
      refine pure_ (i := 3) (N := some 19) (v := ?_) (a' := ?_) #[true, true, true, true, false, false, false, false, false, false, false, false, false, false, false, false] rfl rfl (any_of HT_.out (by kernel_rfl)) (fun _ _ _ h => h) (Or.inl ⟨by rfl, ?_⟩) ?_ ?_
      rotate_left
      ·intro w'
       go_simp
       with_reducible rfl
      rotate_left
      ·simp only [Act.put, List.setIfInBounds_toArray, List.set_cons_zero, List.set_cons_succ, i64_w, i32_w]
       rfl
      refine pure_ (i := 7) (N := some 23) (v := ?_) (a' := ?_) #[true, true, true, true, false, false, false, true, false, false, false, false, false, false, false, false] rfl rfl (any_of HT_.out (by kernel_rfl)) (fun _ _ _ h => h) (Or.inl ⟨by rfl, ?_⟩) ?_ ?_
      rotate_left
      ·intro w'
       go_simp
       with_reducible rfl
      rotate_left
      ·simp only [Act.put, List.setIfInBounds_toArray, List.set_cons_zero, List.set_cons_succ, i64_w, i32_w]
       rfl
      refine pure_ (i := 8) (N := some 24) (v := ?_) (a' := ?_) #[true, true, true, true, false, false, false, true, true, false, false, false, false, false, false, false] rfl rfl (any_of HT_.out (by kernel_rfl)) (fun _ _ _ h => h) (Or.inl ⟨by rfl, ?_⟩) ?_ ?_
      rotate_left
      ·intro w'
       go_simp
       with_reducible rfl
      rotate_left
      ·simp only [Act.put, List.setIfInBounds_toArray, List.set_cons_zero, List.set_cons_succ, i64_w, i32_w]
       rfl
      refine pure_ (i := 9) (N := some 25) (v := ?_) (a' := ?_) #[true, true, true, true, false, false, false, true, true, true, false, false, false, false, false, false] rfl rfl (any_of HT_.out (by kernel_rfl)) (fun _ _ _ h => h) (Or.inl ⟨by rfl, ?_⟩) ?_ ?_
      rotate_left
      ·intro w'
       go_simp
       with_reducible rfl
      rotate_left
      ·simp only [Act.put, List.setIfInBounds_toArray, List.set_cons_zero, List.set_cons_succ, i64_w, i32_w]
       rfl
      refine pure_ (i := 10) (N := some 26) (v := ?_) (a' := ?_) #[true, true, true, true, false, false, false, true, true, true, true, false, false, false, false, false] rfl rfl (any_of HT_.out (by kernel_rfl)) (fun _ _ _ h => h) (Or.inl ⟨by rfl, ?_⟩) ?_ ?_
      rotate_left
      ·intro w'
       go_simp
       with_reducible rfl
      rotate_left
      ·simp only [Act.put, List.setIfInBounds_toArray, List.set_cons_zero, List.set_cons_succ, i64_w, i32_w]
       rfl
      refine one_ (i := 4) (N := some 20) #[true, true, true, true, true, false, false, true, true, true, true, false, false, false, false, false] rfl rfl (one_of HT_.out (by kernel_rfl)) (by decide) (fun K hK => ?_)
      refine goes_ Try.func56 (by kernel_rfl) rfl #[.pointer (some ⟨gb505, 0, none⟩), .int .i64 (t506.length : Int)] (by rfl) rfl rfl (by (try simp only [List.map_toArray, List.map_cons, List.map_nil]); first | done | rfl | (simp only [List.length_drop, List.length_take]; rfl)) ?_
      with_reducible refine (spec_l1Cur_pick.calls gb505 l0 t509 t510 (t506.length : Int) t511 t512 t513 w _ ?side1 ?side2 A14.out).mono ?_
      (case side1 => repeat (first | (with_reducible first | exact HI505.out | apply IsS61.alloc | apply IsS61.drewN | apply IsS61.drew | apply IsS61.set_1 | apply IsS61.set_2 | refine IsS61.far ?_ NB505_503.out _ | refine IsS61.far ?_ NB505_504.out _) | exact HI505.out))
      (case side2 => repeat (first | (with_reducible first | exact HB.out | apply below_alloc | apply pw_below_drewN | apply below_drew1 | refine below_set ?_ (IsS61.ge HI505.out) | refine below_set ?_ GE503.out | refine below_set ?_ GE504.out) | exact HB.out))
      rintro e w26 ⟨rfl, hi, hb, hk⟩
      have HS0_ := keep_cell hk (hHeld.1) (by first | (rw [add_block]; exact Kd.own_blk (IsS61.own_ne HI505.out HO508.out (by decide))) | (show (Addr.add _ _).block ≠ _; rw [add_block]; exact Kd.own_blk (IsS61.own_ne HI505.out HO508.out (by decide))) | exact Kd.own_blk (IsS61.own_ne HI505.out HO508.out (by decide)))
      have HS1_ := keep_cell hk (hHeld.2.1) (by first | (rw [add_block]; exact Kd.own_blk (IsS61.own_ne HI505.out HO508.out (by decide))) | (show (Addr.add _ _).block ≠ _; rw [add_block]; exact Kd.own_blk (IsS61.own_ne HI505.out HO508.out (by decide))) | exact Kd.own_blk (IsS61.own_ne HI505.out HO508.out (by decide)))
      have HS2_ := keep_cell hk (hHeld.2.2.1) (by first | (rw [add_block]; exact Kd.own_blk (IsS61.own_ne HI505.out HO508.out (by decide))) | (show (Addr.add _ _).block ≠ _; rw [add_block]; exact Kd.own_blk (IsS61.own_ne HI505.out HO508.out (by decide))) | exact Kd.own_blk (IsS61.own_ne HI505.out HO508.out (by decide)))
      have HS3_ := keep_cell hk (hHeld.2.2.2.1) (by first | (rw [add_block]; exact Kd.own_blk (IsS61.own_ne HI505.out HO508.out (by decide))) | (show (Addr.add _ _).block ≠ _; rw [add_block]; exact Kd.own_blk (IsS61.own_ne HI505.out HO508.out (by decide))) | exact Kd.own_blk (IsS61.own_ne HI505.out HO508.out (by decide)))
      have HS4_ := keep_cell hk (hHeld.2.2.2.2.1) (by first | (rw [add_block]; exact Kd.own_blk (IsS61.own_ne HI505.out HO508.out (by decide))) | (show (Addr.add _ _).block ≠ _; rw [add_block]; exact Kd.own_blk (IsS61.own_ne HI505.out HO508.out (by decide))) | exact Kd.own_blk (IsS61.own_ne HI505.out HO508.out (by decide)))
      have HS5_ := keep_cell hk (hHeld.2.2.2.2.2) (by first | (rw [add_block]; exact Kd.own_blk (IsS61.own_ne HI505.out HO508.out (by decide))) | (show (Addr.add _ _).block ≠ _; rw [add_block]; exact Kd.own_blk (IsS61.own_ne HI505.out HO508.out (by decide))) | exact Kd.own_blk (IsS61.own_ne HI505.out HO508.out (by decide)))
      refine ⟨_, rfl, ?_⟩
      have n0_ := Aside0.mk (KeepBut.blk hk (g' := gb503) (o := .cells #[.int .i64 0, .int .i64 0, .int .i64 0] 26 (0, 0)) (by (with_reducible repeat (first | refine blk_drewN ?_ _ | refine blk_drew ?_ | refine blk_alloc ?_ _)); exact BK503.out) NB503_505.out (by simp))
      have n1_ := Aside0.mk (KeepBut.blk hk (g' := gb504) (o := .cells #[.int .i64 0, .int .i64 0, .int .i64 0] 26 (0, 0)) (by (with_reducible repeat (first | refine blk_drewN ?_ _ | refine blk_drew ?_ | refine blk_alloc ?_ _)); exact BK504.out) NB504_505.out (by simp))
      have n2_ := Aside0.mk (Kd.R_mono (Kd.R_keep (IsS61.apart (show IsS61 w _ gb505 l0 t509 t510 from by repeat (first | (with_reducible first | exact HI505.out | apply IsS61.alloc | apply IsS61.drewN | apply IsS61.drew | apply IsS61.set_1 | apply IsS61.set_2 | refine IsS61.far ?_ NB505_503.out _ | refine IsS61.far ?_ NB505_504.out _) | exact HI505.out)) (by (with_reducible repeat (first | apply Kd.R_alloc | apply Kd.R_drewN | apply Kd.R_drew)); exact HO508.out) (by decide)) hk (fun _ h => h.2)) (fun _ h => h.1))
      have n3_ := Aside0.mk (hb)
      have n4_ := Aside0.mk (hi)
      clear BK503
      clear BK504
      clear HO508
      clear HB
      clear HI505
      have BK503 := n0_
      have BK504 := n1_
      have HO508 := n2_
      have HB := n3_
      have HI505 := n4_
      clear n0_ n1_ n2_ n3_ n4_
      (try clear hb)
      (try clear hb2)
      (try clear hk)
      (try clear hi)
      refine hK.out _ _ ⟨HS0_, HS1_, HS2_, HS3_, HS4_, HS5_⟩ (fun hHeld => ?_)
      clear hK K
      refine norm_ (a' := ?_) ?_ ?_
      rotate_left
      ·show Act.put _ (some 20) _ = _
       simp only [Act.put, List.setIfInBounds_toArray, List.set_cons_zero, List.set_cons_succ, i64_w, i32_w]
       rfl
      refine pure_ (i := 5) (N := some 21) (v := ?_) (a' := ?_) #[true, true, true, true, true, true, false, true, true, true, true, false, false, false, false, false] rfl rfl (any_of HT_.out (by kernel_rfl)) (fun _ _ _ h => h) (Or.inl ⟨by rfl, ?_⟩) ?_ ?_
      rotate_left
      ·intro w'
       go_simp
       with_reducible rfl
      rotate_left
      ·simp only [Act.put, List.setIfInBounds_toArray, List.set_cons_zero, List.set_cons_succ, i64_w, i32_w]
       rfl
      refine take_ (i := 6) (N := some 22) (v := ?_) (a' := ?_) #[true, true, true, true, true, true, true, true, true, true, true, false, false, false, false, false] rfl rfl (take_ofW HT_.out HW_.out (by kernel_rfl)) (fun _ _ _ h => h) (Or.inl ⟨by rfl, ?_⟩) hHeld ?_ ?_
      rotate_left
      ·rintro w' ⟨s0, s1, s2, s3, s4, s5⟩
       go_simp
       with_reducible rfl
      rotate_left
      ·simp only [Act.put, List.setIfInBounds_toArray, List.set_cons_zero, List.set_cons_succ, i64_w, i32_w]
       rfl
      refine one_ (i := 11) (N := some 27) #[true, true, true, true, true, true, true, true, true, true, true, true, false, false, false, false] rfl rfl (one_of HT_.out (by kernel_rfl)) (by decide) (fun K hK => ?_)
      refine goes_ Try.func56 (by kernel_rfl) rfl #[.pointer (some ⟨gb505, 0, none⟩), .int .i64 (t506.length : Int)] (by rfl) rfl rfl (by (try simp only [List.map_toArray, List.map_cons, List.map_nil]); first | done | rfl | (simp only [List.length_drop, List.length_take]; rfl)) ?_
      with_reducible refine (spec_l1Cur_pick.calls gb505 l0 t512 t513 (t506.length : Int) t515 t516 t517 w _ ?side1 ?side2 A17.out).mono ?_
      (case side1 => repeat (first | (with_reducible first | exact HI505.out | apply IsS61.alloc | apply IsS61.drewN | apply IsS61.drew | apply IsS61.set_1 | apply IsS61.set_2 | refine IsS61.far ?_ NB505_503.out _ | refine IsS61.far ?_ NB505_504.out _) | exact HI505.out))
      (case side2 => repeat (first | (with_reducible first | exact HB.out | apply below_alloc | apply pw_below_drewN | apply below_drew1 | refine below_set ?_ (IsS61.ge HI505.out) | refine below_set ?_ GE503.out | refine below_set ?_ GE504.out) | exact HB.out))
      rintro e w27 ⟨rfl, hi, hb, hk⟩
      have HS0_ := keep_cell hk (hHeld.1) (by first | (rw [add_block]; exact Kd.own_blk (IsS61.own_ne HI505.out HO508.out (by decide))) | (show (Addr.add _ _).block ≠ _; rw [add_block]; exact Kd.own_blk (IsS61.own_ne HI505.out HO508.out (by decide))) | exact Kd.own_blk (IsS61.own_ne HI505.out HO508.out (by decide)))
      have HS1_ := keep_cell hk (hHeld.2.1) (by first | (rw [add_block]; exact Kd.own_blk (IsS61.own_ne HI505.out HO508.out (by decide))) | (show (Addr.add _ _).block ≠ _; rw [add_block]; exact Kd.own_blk (IsS61.own_ne HI505.out HO508.out (by decide))) | exact Kd.own_blk (IsS61.own_ne HI505.out HO508.out (by decide)))
      have HS2_ := keep_cell hk (hHeld.2.2.1) (by first | (rw [add_block]; exact Kd.own_blk (IsS61.own_ne HI505.out HO508.out (by decide))) | (show (Addr.add _ _).block ≠ _; rw [add_block]; exact Kd.own_blk (IsS61.own_ne HI505.out HO508.out (by decide))) | exact Kd.own_blk (IsS61.own_ne HI505.out HO508.out (by decide)))
      have HS3_ := keep_cell hk (hHeld.2.2.2.1) (by first | (rw [add_block]; exact Kd.own_blk (IsS61.own_ne HI505.out HO508.out (by decide))) | (show (Addr.add _ _).block ≠ _; rw [add_block]; exact Kd.own_blk (IsS61.own_ne HI505.out HO508.out (by decide))) | exact Kd.own_blk (IsS61.own_ne HI505.out HO508.out (by decide)))
      have HS4_ := keep_cell hk (hHeld.2.2.2.2.1) (by first | (rw [add_block]; exact Kd.own_blk (IsS61.own_ne HI505.out HO508.out (by decide))) | (show (Addr.add _ _).block ≠ _; rw [add_block]; exact Kd.own_blk (IsS61.own_ne HI505.out HO508.out (by decide))) | exact Kd.own_blk (IsS61.own_ne HI505.out HO508.out (by decide)))
      have HS5_ := keep_cell hk (hHeld.2.2.2.2.2) (by first | (rw [add_block]; exact Kd.own_blk (IsS61.own_ne HI505.out HO508.out (by decide))) | (show (Addr.add _ _).block ≠ _; rw [add_block]; exact Kd.own_blk (IsS61.own_ne HI505.out HO508.out (by decide))) | exact Kd.own_blk (IsS61.own_ne HI505.out HO508.out (by decide)))
      refine ⟨_, rfl, ?_⟩
      have n0_ := Aside0.mk (KeepBut.blk hk (g' := gb503) (o := .cells #[.int .i64 0, .int .i64 0, .int .i64 0] 26 (0, 0)) (by (with_reducible repeat (first | refine blk_drewN ?_ _ | refine blk_drew ?_ | refine blk_alloc ?_ _)); exact BK503.out) NB503_505.out (by simp))
      have n1_ := Aside0.mk (KeepBut.blk hk (g' := gb504) (o := .cells #[.int .i64 0, .int .i64 0, .int .i64 0] 26 (0, 0)) (by (with_reducible repeat (first | refine blk_drewN ?_ _ | refine blk_drew ?_ | refine blk_alloc ?_ _)); exact BK504.out) NB504_505.out (by simp))
      have n2_ := Aside0.mk (Kd.R_mono (Kd.R_keep (IsS61.apart (show IsS61 w _ gb505 l0 t512 t513 from by repeat (first | (with_reducible first | exact HI505.out | apply IsS61.alloc | apply IsS61.drewN | apply IsS61.drew | apply IsS61.set_1 | apply IsS61.set_2 | refine IsS61.far ?_ NB505_503.out _ | refine IsS61.far ?_ NB505_504.out _) | exact HI505.out)) (by (with_reducible repeat (first | apply Kd.R_alloc | apply Kd.R_drewN | apply Kd.R_drew)); exact HO508.out) (by decide)) hk (fun _ h => h.2)) (fun _ h => h.1))
      have n3_ := Aside0.mk (hb)
      have n4_ := Aside0.mk (hi)
      clear BK503
      clear BK504
      clear HO508
      clear HB
      clear HI505
      have BK503 := n0_
      have BK504 := n1_
      have HO508 := n2_
      have HB := n3_
      have HI505 := n4_
      clear n0_ n1_ n2_ n3_ n4_
      (try clear hb)
      (try clear hb2)
      (try clear hk)
      (try clear hi)
      refine hK.out _ _ ⟨HS0_, HS1_, HS2_, HS3_, HS4_, HS5_⟩ (fun hHeld => ?_)
      clear hK K
      refine norm_ (a' := ?_) ?_ ?_
      rotate_left
      ·show Act.put _ (some 27) _ = _
       simp only [Act.put, List.setIfInBounds_toArray, List.set_cons_zero, List.set_cons_succ, i64_w, i32_w]
       rfl
      refine pure_ (i := 12) (N := some 28) (v := ?_) (a' := ?_) #[true, true, true, true, true, true, true, true, true, true, true, true, true, false, false, false] rfl rfl (any_of HT_.out (by kernel_rfl)) (fun _ _ _ h => h) (Or.inl ⟨by rfl, ?_⟩) ?_ ?_
      rotate_left
      ·intro w'
       go_simp
       with_reducible rfl
      rotate_left
      ·simp only [Act.put, List.setIfInBounds_toArray, List.set_cons_zero, List.set_cons_succ, i64_w, i32_w]
       rfl
      refine take_ (i := 13) (N := some 29) (v := ?_) (a' := ?_) #[true, true, true, true, true, true, true, true, true, true, true, true, true, true, false, false] rfl rfl (take_ofW HT_.out HW_.out (by kernel_rfl)) (fun _ _ _ h => h) (Or.inl ⟨by rfl, ?_⟩) hHeld ?_ ?_
      rotate_left
      ·rintro w' ⟨s0, s1, s2, s3, s4, s5⟩
       go_simp
       with_reducible rfl
      rotate_left
      ·simp only [Act.put, List.setIfInBounds_toArray, List.set_cons_zero, List.set_cons_succ, i64_w, i32_w]
       rfl
      refine one_ (i := 14) (N := none) #[true, true, true, true, true, true, true, true, true, true, true, true, true, true, true, false] rfl rfl (one_of HT_.out (by kernel_rfl)) (by decide) (fun K hK => ?_)
      have hs28 : w27.cell? ⟨gb503, 0, none⟩ = some (.int .i64 0) := (blk_cell BK503.out 0).trans rfl
      have hfs28 := blk_frozen BK503.out 0
      have hns28_1 := NB504_503.out
      have hms28_1 := NB503_504.out
      have hs29 : w27.cell? ⟨gb503, 1, none⟩ = some (.int .i64 0) := (blk_cell BK503.out 1).trans rfl
      have hfs29 := blk_frozen BK503.out 1
      have hns29_1 := NB504_503.out
      have hms29_1 := NB503_504.out
      have hs30 : w27.cell? ⟨gb503, 2, none⟩ = some (.int .i64 0) := (blk_cell BK503.out 2).trans rfl
      have hfs30 := blk_frozen BK503.out 2
      have hns30_1 := NB504_503.out
      have hms30_1 := NB503_504.out
      refine skip_ (w1 := ?_) (by rfl) rfl ?_ ?_
      rotate_left
      ·go_simp
       rfl
      refine hK.out _ _ ⟨((cell_far (p := ⟨gb503, _, none⟩) (by first | exact Kd.own_blk (Kd.R_away HO508.out (fun _ hk => hk.1.2)) | (rw [add_block]; exact Kd.own_blk (Kd.R_away HO508.out (fun _ hk => hk.1.2))) | (show (Addr.add _ _).block ≠ _; rw [add_block]; exact Kd.own_blk (Kd.R_away HO508.out (fun _ hk => hk.1.2))) | (dsimp only; exact Kd.own_blk (Kd.R_away HO508.out (fun _ hk => hk.1.2)))) _).trans (((cell_far (p := ⟨gb503, _, none⟩) (by first | exact Kd.own_blk (Kd.R_away HO508.out (fun _ hk => hk.1.2)) | (rw [add_block]; exact Kd.own_blk (Kd.R_away HO508.out (fun _ hk => hk.1.2))) | (show (Addr.add _ _).block ≠ _; rw [add_block]; exact Kd.own_blk (Kd.R_away HO508.out (fun _ hk => hk.1.2))) | (dsimp only; exact Kd.own_blk (Kd.R_away HO508.out (fun _ hk => hk.1.2)))) _).trans (((cell_far (p := ⟨gb503, _, none⟩) (by first | exact Kd.own_blk (Kd.R_away HO508.out (fun _ hk => hk.1.2)) | (rw [add_block]; exact Kd.own_blk (Kd.R_away HO508.out (fun _ hk => hk.1.2))) | (show (Addr.add _ _).block ≠ _; rw [add_block]; exact Kd.own_blk (Kd.R_away HO508.out (fun _ hk => hk.1.2))) | (dsimp only; exact Kd.own_blk (Kd.R_away HO508.out (fun _ hk => hk.1.2)))) _).trans (hHeld.1)))))), ((cell_far (p := ⟨gb503, _, none⟩) (by first | exact Kd.own_blk (Kd.R_away HO508.out (fun _ hk => hk.1.2)) | (rw [add_block]; exact Kd.own_blk (Kd.R_away HO508.out (fun _ hk => hk.1.2))) | (show (Addr.add _ _).block ≠ _; rw [add_block]; exact Kd.own_blk (Kd.R_away HO508.out (fun _ hk => hk.1.2))) | (dsimp only; exact Kd.own_blk (Kd.R_away HO508.out (fun _ hk => hk.1.2)))) _).trans (((cell_far (p := ⟨gb503, _, none⟩) (by first | exact Kd.own_blk (Kd.R_away HO508.out (fun _ hk => hk.1.2)) | (rw [add_block]; exact Kd.own_blk (Kd.R_away HO508.out (fun _ hk => hk.1.2))) | (show (Addr.add _ _).block ≠ _; rw [add_block]; exact Kd.own_blk (Kd.R_away HO508.out (fun _ hk => hk.1.2))) | (dsimp only; exact Kd.own_blk (Kd.R_away HO508.out (fun _ hk => hk.1.2)))) _).trans (((cell_far (p := ⟨gb503, _, none⟩) (by first | exact Kd.own_blk (Kd.R_away HO508.out (fun _ hk => hk.1.2)) | (rw [add_block]; exact Kd.own_blk (Kd.R_away HO508.out (fun _ hk => hk.1.2))) | (show (Addr.add _ _).block ≠ _; rw [add_block]; exact Kd.own_blk (Kd.R_away HO508.out (fun _ hk => hk.1.2))) | (dsimp only; exact Kd.own_blk (Kd.R_away HO508.out (fun _ hk => hk.1.2)))) _).trans (hHeld.2.1)))))), ((cell_far (p := ⟨gb503, _, none⟩) (by first | exact Kd.own_blk (Kd.R_away HO508.out (fun _ hk => hk.1.2)) | (rw [add_block]; exact Kd.own_blk (Kd.R_away HO508.out (fun _ hk => hk.1.2))) | (show (Addr.add _ _).block ≠ _; rw [add_block]; exact Kd.own_blk (Kd.R_away HO508.out (fun _ hk => hk.1.2))) | (dsimp only; exact Kd.own_blk (Kd.R_away HO508.out (fun _ hk => hk.1.2)))) _).trans (((cell_far (p := ⟨gb503, _, none⟩) (by first | exact Kd.own_blk (Kd.R_away HO508.out (fun _ hk => hk.1.2)) | (rw [add_block]; exact Kd.own_blk (Kd.R_away HO508.out (fun _ hk => hk.1.2))) | (show (Addr.add _ _).block ≠ _; rw [add_block]; exact Kd.own_blk (Kd.R_away HO508.out (fun _ hk => hk.1.2))) | (dsimp only; exact Kd.own_blk (Kd.R_away HO508.out (fun _ hk => hk.1.2)))) _).trans (((cell_far (p := ⟨gb503, _, none⟩) (by first | exact Kd.own_blk (Kd.R_away HO508.out (fun _ hk => hk.1.2)) | (rw [add_block]; exact Kd.own_blk (Kd.R_away HO508.out (fun _ hk => hk.1.2))) | (show (Addr.add _ _).block ≠ _; rw [add_block]; exact Kd.own_blk (Kd.R_away HO508.out (fun _ hk => hk.1.2))) | (dsimp only; exact Kd.own_blk (Kd.R_away HO508.out (fun _ hk => hk.1.2)))) _).trans (hHeld.2.2.1)))))), ((cell_far (p := ⟨gb503, _, none⟩) (by first | exact Kd.own_blk (Kd.R_away HO508.out (fun _ hk => hk.1.2)) | (rw [add_block]; exact Kd.own_blk (Kd.R_away HO508.out (fun _ hk => hk.1.2))) | (show (Addr.add _ _).block ≠ _; rw [add_block]; exact Kd.own_blk (Kd.R_away HO508.out (fun _ hk => hk.1.2))) | (dsimp only; exact Kd.own_blk (Kd.R_away HO508.out (fun _ hk => hk.1.2)))) _).trans (((cell_far (p := ⟨gb503, _, none⟩) (by first | exact Kd.own_blk (Kd.R_away HO508.out (fun _ hk => hk.1.2)) | (rw [add_block]; exact Kd.own_blk (Kd.R_away HO508.out (fun _ hk => hk.1.2))) | (show (Addr.add _ _).block ≠ _; rw [add_block]; exact Kd.own_blk (Kd.R_away HO508.out (fun _ hk => hk.1.2))) | (dsimp only; exact Kd.own_blk (Kd.R_away HO508.out (fun _ hk => hk.1.2)))) _).trans (((cell_far (p := ⟨gb503, _, none⟩) (by first | exact Kd.own_blk (Kd.R_away HO508.out (fun _ hk => hk.1.2)) | (rw [add_block]; exact Kd.own_blk (Kd.R_away HO508.out (fun _ hk => hk.1.2))) | (show (Addr.add _ _).block ≠ _; rw [add_block]; exact Kd.own_blk (Kd.R_away HO508.out (fun _ hk => hk.1.2))) | (dsimp only; exact Kd.own_blk (Kd.R_away HO508.out (fun _ hk => hk.1.2)))) _).trans (hHeld.2.2.2.1)))))), ((cell_far (p := ⟨gb503, _, none⟩) (by first | exact Kd.own_blk (Kd.R_away HO508.out (fun _ hk => hk.1.2)) | (rw [add_block]; exact Kd.own_blk (Kd.R_away HO508.out (fun _ hk => hk.1.2))) | (show (Addr.add _ _).block ≠ _; rw [add_block]; exact Kd.own_blk (Kd.R_away HO508.out (fun _ hk => hk.1.2))) | (dsimp only; exact Kd.own_blk (Kd.R_away HO508.out (fun _ hk => hk.1.2)))) _).trans (((cell_far (p := ⟨gb503, _, none⟩) (by first | exact Kd.own_blk (Kd.R_away HO508.out (fun _ hk => hk.1.2)) | (rw [add_block]; exact Kd.own_blk (Kd.R_away HO508.out (fun _ hk => hk.1.2))) | (show (Addr.add _ _).block ≠ _; rw [add_block]; exact Kd.own_blk (Kd.R_away HO508.out (fun _ hk => hk.1.2))) | (dsimp only; exact Kd.own_blk (Kd.R_away HO508.out (fun _ hk => hk.1.2)))) _).trans (((cell_far (p := ⟨gb503, _, none⟩) (by first | exact Kd.own_blk (Kd.R_away HO508.out (fun _ hk => hk.1.2)) | (rw [add_block]; exact Kd.own_blk (Kd.R_away HO508.out (fun _ hk => hk.1.2))) | (show (Addr.add _ _).block ≠ _; rw [add_block]; exact Kd.own_blk (Kd.R_away HO508.out (fun _ hk => hk.1.2))) | (dsimp only; exact Kd.own_blk (Kd.R_away HO508.out (fun _ hk => hk.1.2)))) _).trans (hHeld.2.2.2.2.1)))))), ((cell_far (p := ⟨gb503, _, none⟩) (by first | exact Kd.own_blk (Kd.R_away HO508.out (fun _ hk => hk.1.2)) | (rw [add_block]; exact Kd.own_blk (Kd.R_away HO508.out (fun _ hk => hk.1.2))) | (show (Addr.add _ _).block ≠ _; rw [add_block]; exact Kd.own_blk (Kd.R_away HO508.out (fun _ hk => hk.1.2))) | (dsimp only; exact Kd.own_blk (Kd.R_away HO508.out (fun _ hk => hk.1.2)))) _).trans (((cell_far (p := ⟨gb503, _, none⟩) (by first | exact Kd.own_blk (Kd.R_away HO508.out (fun _ hk => hk.1.2)) | (rw [add_block]; exact Kd.own_blk (Kd.R_away HO508.out (fun _ hk => hk.1.2))) | (show (Addr.add _ _).block ≠ _; rw [add_block]; exact Kd.own_blk (Kd.R_away HO508.out (fun _ hk => hk.1.2))) | (dsimp only; exact Kd.own_blk (Kd.R_away HO508.out (fun _ hk => hk.1.2)))) _).trans (((cell_far (p := ⟨gb503, _, none⟩) (by first | exact Kd.own_blk (Kd.R_away HO508.out (fun _ hk => hk.1.2)) | (rw [add_block]; exact Kd.own_blk (Kd.R_away HO508.out (fun _ hk => hk.1.2))) | (show (Addr.add _ _).block ≠ _; rw [add_block]; exact Kd.own_blk (Kd.R_away HO508.out (fun _ hk => hk.1.2))) | (dsimp only; exact Kd.own_blk (Kd.R_away HO508.out (fun _ hk => hk.1.2)))) _).trans (hHeld.2.2.2.2.2))))))⟩ (fun hHeld => ?_)
      clear hK K
      refine one_ (i := 15) (N := none) #[true, true, true, true, true, true, true, true, true, true, true, true, true, true, true, true] rfl rfl (one_of HT_.out (by kernel_rfl)) (by decide) (fun K hK => ?_)
      have hs31 : w27.cell? ⟨gb504, 0, none⟩ = some (.int .i64 0) := (blk_cell BK504.out 0).trans rfl
      have hfs31 := blk_frozen BK504.out 0
      have hns31_0 := NB503_504.out
      have hms31_0 := NB504_503.out
      have hs32 : w27.cell? ⟨gb504, 1, none⟩ = some (.int .i64 0) := (blk_cell BK504.out 1).trans rfl
      have hfs32 := blk_frozen BK504.out 1
      have hns32_0 := NB503_504.out
      have hms32_0 := NB504_503.out
      have hs33 : w27.cell? ⟨gb504, 2, none⟩ = some (.int .i64 0) := (blk_cell BK504.out 2).trans rfl
      have hfs33 := blk_frozen BK504.out 2
      have hns33_0 := NB503_504.out
      have hms33_0 := NB504_503.out
      refine skip_ (w1 := ?_) (by rfl) rfl ?_ ?_
      rotate_left
      ·go_simp
       rfl
      refine hK.out _ _ ⟨((cell_far (p := ⟨gb504, _, none⟩) (by first | exact Kd.own_blk (Kd.R_away HO508.out (fun _ hk => hk.2)) | (rw [add_block]; exact Kd.own_blk (Kd.R_away HO508.out (fun _ hk => hk.2))) | (show (Addr.add _ _).block ≠ _; rw [add_block]; exact Kd.own_blk (Kd.R_away HO508.out (fun _ hk => hk.2))) | (dsimp only; exact Kd.own_blk (Kd.R_away HO508.out (fun _ hk => hk.2)))) _).trans (((cell_far (p := ⟨gb504, _, none⟩) (by first | exact Kd.own_blk (Kd.R_away HO508.out (fun _ hk => hk.2)) | (rw [add_block]; exact Kd.own_blk (Kd.R_away HO508.out (fun _ hk => hk.2))) | (show (Addr.add _ _).block ≠ _; rw [add_block]; exact Kd.own_blk (Kd.R_away HO508.out (fun _ hk => hk.2))) | (dsimp only; exact Kd.own_blk (Kd.R_away HO508.out (fun _ hk => hk.2)))) _).trans (((cell_far (p := ⟨gb504, _, none⟩) (by first | exact Kd.own_blk (Kd.R_away HO508.out (fun _ hk => hk.2)) | (rw [add_block]; exact Kd.own_blk (Kd.R_away HO508.out (fun _ hk => hk.2))) | (show (Addr.add _ _).block ≠ _; rw [add_block]; exact Kd.own_blk (Kd.R_away HO508.out (fun _ hk => hk.2))) | (dsimp only; exact Kd.own_blk (Kd.R_away HO508.out (fun _ hk => hk.2)))) _).trans (hHeld.1)))))), ((cell_far (p := ⟨gb504, _, none⟩) (by first | exact Kd.own_blk (Kd.R_away HO508.out (fun _ hk => hk.2)) | (rw [add_block]; exact Kd.own_blk (Kd.R_away HO508.out (fun _ hk => hk.2))) | (show (Addr.add _ _).block ≠ _; rw [add_block]; exact Kd.own_blk (Kd.R_away HO508.out (fun _ hk => hk.2))) | (dsimp only; exact Kd.own_blk (Kd.R_away HO508.out (fun _ hk => hk.2)))) _).trans (((cell_far (p := ⟨gb504, _, none⟩) (by first | exact Kd.own_blk (Kd.R_away HO508.out (fun _ hk => hk.2)) | (rw [add_block]; exact Kd.own_blk (Kd.R_away HO508.out (fun _ hk => hk.2))) | (show (Addr.add _ _).block ≠ _; rw [add_block]; exact Kd.own_blk (Kd.R_away HO508.out (fun _ hk => hk.2))) | (dsimp only; exact Kd.own_blk (Kd.R_away HO508.out (fun _ hk => hk.2)))) _).trans (((cell_far (p := ⟨gb504, _, none⟩) (by first | exact Kd.own_blk (Kd.R_away HO508.out (fun _ hk => hk.2)) | (rw [add_block]; exact Kd.own_blk (Kd.R_away HO508.out (fun _ hk => hk.2))) | (show (Addr.add _ _).block ≠ _; rw [add_block]; exact Kd.own_blk (Kd.R_away HO508.out (fun _ hk => hk.2))) | (dsimp only; exact Kd.own_blk (Kd.R_away HO508.out (fun _ hk => hk.2)))) _).trans (hHeld.2.1)))))), ((cell_far (p := ⟨gb504, _, none⟩) (by first | exact Kd.own_blk (Kd.R_away HO508.out (fun _ hk => hk.2)) | (rw [add_block]; exact Kd.own_blk (Kd.R_away HO508.out (fun _ hk => hk.2))) | (show (Addr.add _ _).block ≠ _; rw [add_block]; exact Kd.own_blk (Kd.R_away HO508.out (fun _ hk => hk.2))) | (dsimp only; exact Kd.own_blk (Kd.R_away HO508.out (fun _ hk => hk.2)))) _).trans (((cell_far (p := ⟨gb504, _, none⟩) (by first | exact Kd.own_blk (Kd.R_away HO508.out (fun _ hk => hk.2)) | (rw [add_block]; exact Kd.own_blk (Kd.R_away HO508.out (fun _ hk => hk.2))) | (show (Addr.add _ _).block ≠ _; rw [add_block]; exact Kd.own_blk (Kd.R_away HO508.out (fun _ hk => hk.2))) | (dsimp only; exact Kd.own_blk (Kd.R_away HO508.out (fun _ hk => hk.2)))) _).trans (((cell_far (p := ⟨gb504, _, none⟩) (by first | exact Kd.own_blk (Kd.R_away HO508.out (fun _ hk => hk.2)) | (rw [add_block]; exact Kd.own_blk (Kd.R_away HO508.out (fun _ hk => hk.2))) | (show (Addr.add _ _).block ≠ _; rw [add_block]; exact Kd.own_blk (Kd.R_away HO508.out (fun _ hk => hk.2))) | (dsimp only; exact Kd.own_blk (Kd.R_away HO508.out (fun _ hk => hk.2)))) _).trans (hHeld.2.2.1)))))), ((cell_far (p := ⟨gb504, _, none⟩) (by first | exact Kd.own_blk (Kd.R_away HO508.out (fun _ hk => hk.2)) | (rw [add_block]; exact Kd.own_blk (Kd.R_away HO508.out (fun _ hk => hk.2))) | (show (Addr.add _ _).block ≠ _; rw [add_block]; exact Kd.own_blk (Kd.R_away HO508.out (fun _ hk => hk.2))) | (dsimp only; exact Kd.own_blk (Kd.R_away HO508.out (fun _ hk => hk.2)))) _).trans (((cell_far (p := ⟨gb504, _, none⟩) (by first | exact Kd.own_blk (Kd.R_away HO508.out (fun _ hk => hk.2)) | (rw [add_block]; exact Kd.own_blk (Kd.R_away HO508.out (fun _ hk => hk.2))) | (show (Addr.add _ _).block ≠ _; rw [add_block]; exact Kd.own_blk (Kd.R_away HO508.out (fun _ hk => hk.2))) | (dsimp only; exact Kd.own_blk (Kd.R_away HO508.out (fun _ hk => hk.2)))) _).trans (((cell_far (p := ⟨gb504, _, none⟩) (by first | exact Kd.own_blk (Kd.R_away HO508.out (fun _ hk => hk.2)) | (rw [add_block]; exact Kd.own_blk (Kd.R_away HO508.out (fun _ hk => hk.2))) | (show (Addr.add _ _).block ≠ _; rw [add_block]; exact Kd.own_blk (Kd.R_away HO508.out (fun _ hk => hk.2))) | (dsimp only; exact Kd.own_blk (Kd.R_away HO508.out (fun _ hk => hk.2)))) _).trans (hHeld.2.2.2.1)))))), ((cell_far (p := ⟨gb504, _, none⟩) (by first | exact Kd.own_blk (Kd.R_away HO508.out (fun _ hk => hk.2)) | (rw [add_block]; exact Kd.own_blk (Kd.R_away HO508.out (fun _ hk => hk.2))) | (show (Addr.add _ _).block ≠ _; rw [add_block]; exact Kd.own_blk (Kd.R_away HO508.out (fun _ hk => hk.2))) | (dsimp only; exact Kd.own_blk (Kd.R_away HO508.out (fun _ hk => hk.2)))) _).trans (((cell_far (p := ⟨gb504, _, none⟩) (by first | exact Kd.own_blk (Kd.R_away HO508.out (fun _ hk => hk.2)) | (rw [add_block]; exact Kd.own_blk (Kd.R_away HO508.out (fun _ hk => hk.2))) | (show (Addr.add _ _).block ≠ _; rw [add_block]; exact Kd.own_blk (Kd.R_away HO508.out (fun _ hk => hk.2))) | (dsimp only; exact Kd.own_blk (Kd.R_away HO508.out (fun _ hk => hk.2)))) _).trans (((cell_far (p := ⟨gb504, _, none⟩) (by first | exact Kd.own_blk (Kd.R_away HO508.out (fun _ hk => hk.2)) | (rw [add_block]; exact Kd.own_blk (Kd.R_away HO508.out (fun _ hk => hk.2))) | (show (Addr.add _ _).block ≠ _; rw [add_block]; exact Kd.own_blk (Kd.R_away HO508.out (fun _ hk => hk.2))) | (dsimp only; exact Kd.own_blk (Kd.R_away HO508.out (fun _ hk => hk.2)))) _).trans (hHeld.2.2.2.2.1)))))), ((cell_far (p := ⟨gb504, _, none⟩) (by first | exact Kd.own_blk (Kd.R_away HO508.out (fun _ hk => hk.2)) | (rw [add_block]; exact Kd.own_blk (Kd.R_away HO508.out (fun _ hk => hk.2))) | (show (Addr.add _ _).block ≠ _; rw [add_block]; exact Kd.own_blk (Kd.R_away HO508.out (fun _ hk => hk.2))) | (dsimp only; exact Kd.own_blk (Kd.R_away HO508.out (fun _ hk => hk.2)))) _).trans (((cell_far (p := ⟨gb504, _, none⟩) (by first | exact Kd.own_blk (Kd.R_away HO508.out (fun _ hk => hk.2)) | (rw [add_block]; exact Kd.own_blk (Kd.R_away HO508.out (fun _ hk => hk.2))) | (show (Addr.add _ _).block ≠ _; rw [add_block]; exact Kd.own_blk (Kd.R_away HO508.out (fun _ hk => hk.2))) | (dsimp only; exact Kd.own_blk (Kd.R_away HO508.out (fun _ hk => hk.2)))) _).trans (((cell_far (p := ⟨gb504, _, none⟩) (by first | exact Kd.own_blk (Kd.R_away HO508.out (fun _ hk => hk.2)) | (rw [add_block]; exact Kd.own_blk (Kd.R_away HO508.out (fun _ hk => hk.2))) | (show (Addr.add _ _).block ≠ _; rw [add_block]; exact Kd.own_blk (Kd.R_away HO508.out (fun _ hk => hk.2))) | (dsimp only; exact Kd.own_blk (Kd.R_away HO508.out (fun _ hk => hk.2)))) _).trans (hHeld.2.2.2.2.2))))))⟩ (fun hHeld => ?_)
      clear hK K
      refine done_ (done_of HT_.out (by kernel_rfl)) ?_
      try go_wp2
      refine bodyPost_ret (results_cc rfl _ _ gb503 gb504 26 26 #[.int .i64 ((rd_T26 t506 t511).f0), .int .i64 ((rd_T26 t506 t511).f1), .int .i64 ((rd_T26 t506 t511).f2)] #[.int .i64 ((rd_T26 t506 t515).f0), .int .i64 ((rd_T26 t506 t515).f1), .int .i64 ((rd_T26 t506 t515).f2)] (0, 0) (0, 0) _ _ rfl (by (with_reducible repeat (first | refine blk_drewN ?_ _ | refine blk_drew ?_ | refine blk_alloc ?_ _)); refine blk_far ?_ NB503_504.out _; (with_reducible repeat (first | refine blk_drewN ?_ _ | refine blk_drew ?_ | refine blk_alloc ?_ _)); refine blk_far ?_ NB503_504.out _; (with_reducible repeat (first | refine blk_drewN ?_ _ | refine blk_drew ?_ | refine blk_alloc ?_ _)); refine blk_far ?_ NB503_504.out _; (with_reducible repeat (first | refine blk_drewN ?_ _ | refine blk_drew ?_ | refine blk_alloc ?_ _)); refine blk_put (cs := #[.int .i64 ((rd_T26 t506 t511).f0), .int .i64 ((rd_T26 t506 t511).f1), .int .i64 0]) ?_ 2 _ rfl; (with_reducible repeat (first | refine blk_drewN ?_ _ | refine blk_drew ?_ | refine blk_alloc ?_ _)); refine blk_put (cs := #[.int .i64 ((rd_T26 t506 t511).f0), .int .i64 0, .int .i64 0]) ?_ 1 _ rfl; (with_reducible repeat (first | refine blk_drewN ?_ _ | refine blk_drew ?_ | refine blk_alloc ?_ _)); refine blk_put (cs := #[.int .i64 0, .int .i64 0, .int .i64 0]) ?_ 0 _ rfl; (with_reducible repeat (first | refine blk_drewN ?_ _ | refine blk_drew ?_ | refine blk_alloc ?_ _)); exact BK503.out) Try.underlying26 rfl (by kernel_rfl) rfl (by (with_reducible repeat (first | refine blk_drewN ?_ _ | refine blk_drew ?_ | refine blk_alloc ?_ _)); refine blk_put (cs := #[.int .i64 ((rd_T26 t506 t515).f0), .int .i64 ((rd_T26 t506 t515).f1), .int .i64 0]) ?_ 2 _ rfl; (with_reducible repeat (first | refine blk_drewN ?_ _ | refine blk_drew ?_ | refine blk_alloc ?_ _)); refine blk_put (cs := #[.int .i64 ((rd_T26 t506 t515).f0), .int .i64 0, .int .i64 0]) ?_ 1 _ rfl; (with_reducible repeat (first | refine blk_drewN ?_ _ | refine blk_drew ?_ | refine blk_alloc ?_ _)); refine blk_put (cs := #[.int .i64 0, .int .i64 0, .int .i64 0]) ?_ 0 _ rfl; (with_reducible repeat (first | refine blk_drewN ?_ _ | refine blk_drew ?_ | refine blk_alloc ?_ _)); refine blk_far ?_ NB504_503.out _; (with_reducible repeat (first | refine blk_drewN ?_ _ | refine blk_drew ?_ | refine blk_alloc ?_ _)); refine blk_far ?_ NB504_503.out _; (with_reducible repeat (first | refine blk_drewN ?_ _ | refine blk_drew ?_ | refine blk_alloc ?_ _)); refine blk_far ?_ NB504_503.out _; (with_reducible repeat (first | refine blk_drewN ?_ _ | refine blk_drew ?_ | refine blk_alloc ?_ _)); exact BK504.out) Try.underlying26 rfl (by kernel_rfl)) rfl ?_
      exact ⟨by first | rfl | (simp [errW_none, errW_some] <;> rfl) | (simp [*, errW_none, errW_some] <;> rfl), by repeat (first | (with_reducible first | exact HB.out | apply below_alloc | apply pw_below_drewN | apply below_drew1 | refine below_set ?_ (IsS61.ge HI505.out) | refine below_set ?_ GE503.out | refine below_set ?_ GE504.out) | exact HB.out)⟩
     ·rw [if_neg c19] at H
      exact absurd H (by simp)
    ·rw [if_neg c18] at H
     exact absurd H (by simp)
   ·rw [if_neg c16] at H
    exact absurd H (by simp)
  ·rw [if_neg c15] at H
   exact absurd H (by simp)
end Go.Proofs.Ytljdenmmlkjapaa.P

namespace Go.Proofs.Ytljdenmmlkjapaa.P
open Go.RowKit Go.Proofs.YtljdenmmlkjapaaW.PrintWords Go.Proofs.YtljdenmmlkjapaaW.PrintLast Go.Proofs.YtljdenmmlkjapaaW.PrintMore
attribute [local go_sem] max2_int min2_int max_two min_two max_three min_three max_four min_four   -- for this text's walks alone
set_option linter.unusedVariables false
set_option linter.unusedSimpArgs false
mutual
def laws_FnNames.j0 : Nat → List Int → List (S26) → List (S26) → Int → Bool → Bool → Option (Bool)
 | 0, _, _, _, _, _, _ => none
 | k + 1, x1, x5, x6, x7, x8, x68 => if x68 = true then (some false) else (if x8 = true then ((impl_ClashIn.f k x6).bind fun bt534 => (if bt534.2.2 = true then (laws_FnNames.j1 k x1 x5 x6 true) else ((impl_GoodOwners.f k x6).bind fun t537 => (if t537 = true then (laws_FnNames.j1 k x1 x5 x6 (decide (x7 ≥ (x6.length : Int)))) else (laws_FnNames.j1 k x1 x5 x6 true))))) else (laws_FnNames.j4 k x1))
def laws_FnNames.j4 : Nat → List Int → Option (Bool)
 | 0, _ => none
 | k + 1, x1 => (spec_DrawHasBetter.f k x1).bind fun bt546 => ((impl_HasBetter.f bt546.1 bt546.2.1 bt546.2.2.1 bt546.2.2.2.1 bt546.2.2.2.2.1 bt546.2.2.2.2.2).bind fun bt554 => ((spec_HasBetter.f bt546.1 bt546.2.1 bt546.2.2.1 bt546.2.2.2.1 bt546.2.2.2.2.1 bt546.2.2.2.2.2).bind fun bt556 => (if (bt554.2 != bt556.2) = true then (laws_FnNames.j5 k bt554.1 bt554.2 true bt546.1 bt546.2.1 bt546.2.2.1 bt546.2.2.2.1 bt546.2.2.2.2.1 bt546.2.2.2.2.2) else (laws_FnNames.j5 k bt554.1 bt554.2 (bt554.1 != bt556.1) bt546.1 bt546.2.1 bt546.2.2.1 bt546.2.2.2.1 bt546.2.2.2.2.1 bt546.2.2.2.2.2))))
def laws_FnNames.j5 : Nat → Bool → Bool → Bool → Int → Int → Int → Int → Int → Int → Option (Bool)
 | 0, _, _, _, _, _, _, _, _, _ => none
 | k + 1, x23, x24, x163, x553000, x553001, x553002, x554000, x554001, x554002 => if x163 = true then (some false) else (if x24 = true then ((impl_HasBetter.f x554000 x554001 x554002 x553000 x553001 x553002).bind fun bt558 => (if bt558.2 = true then (some (bt558.1 != x23)) else (some false))) else (some true))
def laws_FnNames.j1 : Nat → List Int → List (S26) → List (S26) → Bool → Option (Bool)
 | 0, _, _, _, _ => none
 | k + 1, x1, x5, x6, x87 => if x87 = true then (some false) else (laws_FnNames.l0 k x1 x5 x6 x5 (x5.length : Int) 0)
def laws_FnNames.l0 : Nat → List Int → List (S26) → List (S26) → List (S26) → Int → Int → Option (Bool)
 | 0, _, _, _, _, _, _ => none
 | k + 1, x1, x5, x6, x88, x89, x90 => if x90 < x89 then (if 0 ≤ x90 then (if x90 < (x88.length : Int) then ((impl_WhoHas.f k x5 ((rd_T26 x88 x90).f1)).bind fun bt540 => ((impl_NameOf.f k x6 bt540.1).bind fun bt542 => (if bt540.2 = true then (if bt542.2 = true then (laws_FnNames.j3 k x1 x5 x6 x90 x88 x89 x90 (bt542.1 != ((rd_T26 x88 x90).f1)) ((rd_T26 x88 x90).f0) ((rd_T26 x88 x90).f1) ((rd_T26 x88 x90).f2)) else (laws_FnNames.j3 k x1 x5 x6 x90 x88 x89 x90 true ((rd_T26 x88 x90).f0) ((rd_T26 x88 x90).f1) ((rd_T26 x88 x90).f2))) else (laws_FnNames.j3 k x1 x5 x6 x90 x88 x89 x90 true ((rd_T26 x88 x90).f0) ((rd_T26 x88 x90).f1) ((rd_T26 x88 x90).f2))))) else (none)) else (none)) else (laws_FnNames.j4 k x1)
def laws_FnNames.j3 : Nat → List Int → List (S26) → List (S26) → Int → List (S26) → Int → Int → Bool → Int → Int → Int → Option (Bool)
 | 0, _, _, _, _, _, _, _, _, _, _, _ => none
 | k + 1, x1, x5, x6, x15, x88, x89, x90, x119, x540000, x540001, x540002 => if x119 = true then (some false) else (if 0 ≤ x15 then (if x15 < (x6.length : Int) then (if ((rd_T26 x6 x15).f0) = x540000 then (if ((rd_T26 x6 x15).f2) = x540002 then (laws_FnNames.l0 k x1 x5 x6 x88 x89 (wrap64 (x90 + 1))) else (some false)) else (some false)) else (none)) else (none))
end
def laws_FnNames.f (k : Nat) (l0 : List Int) (l1 : List Int) : Option (Bool) := if (wrap64 ((l0.length : Int) + (l1.length : Int))) > 1048576 then (some true) else ((spec_DrawSettleNames.f k l0).bind fun t519 => ((impl_SettleNames.f k t519).bind fun bt522 => ((spec_SettleNames.f k t519).bind fun bt527 => (if (bt522.2.2 != bt527.2.2) = true then (laws_FnNames.j0 k l1 t519 bt522.1 bt522.2.1 bt522.2.2 true) else (if bt522.2.1 = bt527.2.1 then ((laws_sameOwners.f k bt522.1 bt527.1).bind fun t532 => (if t532 = true then ((impl_GoodOwners.f k t519).bind fun t533 => (laws_FnNames.j0 k l1 t519 bt522.1 bt522.2.1 bt522.2.2 (t533 != bt522.2.2))) else (laws_FnNames.j0 k l1 t519 bt522.1 bt522.2.1 bt522.2.2 true))) else (laws_FnNames.j0 k l1 t519 bt522.1 bt522.2.1 bt522.2.2 true))))))
set_option maxHeartbeats 8000000 in
set_option maxRecDepth 100000 in
theorem laws_FnNames.calls (k : Nat) (A0 : Option Addr) (c0 : Nat) (l0 : List Int) (A1 : Option Addr) (c1 : Nat) (l1 : List Int) (r : Bool) (w : World) (hr0 : Kd.C (Kd.int .u8) w A0 l0.length l0) (hc0 : l0.length ≤ c0) (hr1 : Kd.C (Kd.int .u8) w A1 l1.length l1) (hc1 : l1.length ≤ c1) (h : laws_FnNames.f k l0 l1 = some r) :
  Calls Try.prog 11 #[.slice A0 l0.length c0, .slice A1 l1.length c1] w fun e w' => e = .returned (.bool r) ∧ Below w.heap.size w w' := by
 have hu26 := Try.underlying26
 have HR0 := Aside0.mk hr0
 have HC0 := Aside0.mk hc0
 clear hr0 hc0
 have HR1 := Aside0.mk hr1
 have HC1 := Aside0.mk hc1
 clear hr1 hc1
 have HB := Aside0.mk (Below.refl w.heap.size w)
 have H : (if (wrap64 ((l0.length : Int) + (l1.length : Int))) > 1048576 then (some true) else ((spec_DrawSettleNames.f k l0).bind fun t519 => ((impl_SettleNames.f k t519).bind fun bt522 => ((spec_SettleNames.f k t519).bind fun bt527 => (if (bt522.2.2 != bt527.2.2) = true then (laws_FnNames.j0 k l1 t519 bt522.1 bt522.2.1 bt522.2.2 true) else (if bt522.2.1 = bt527.2.1 then ((laws_sameOwners.f k bt522.1 bt527.1).bind fun t532 => (if t532 = true then ((impl_GoodOwners.f k t519).bind fun t533 => (laws_FnNames.j0 k l1 t519 bt522.1 bt522.2.1 bt522.2.2 (t533 != bt522.2.2))) else (laws_FnNames.j0 k l1 t519 bt522.1 bt522.2.1 bt522.2.2 true))) else (laws_FnNames.j0 k l1 t519 bt522.1 bt522.2.1 bt522.2.2 true))))))) = some r := h
 clear h
 by_cases c3 : (wrap64 ((l0.length : Int) + (l1.length : Int))) > 1048576
 ·rw [if_pos c3] at H
  have c3b0 : decide (1048576 < (wrap64 ((l0.length : Int) + (l1.length : Int)))) = true := decide_eq_true c3
  clear c3
  obtain rfl := Option.some.inj H
  go_enter Try.func11, Try.ntmps11
  go_wp2
  repeat (go_quiet (fail); try go_wp2)
  go_ret
  exact ⟨by first | rfl | (simp [errW_none, errW_some] <;> rfl) | (simp [*, errW_none, errW_some] <;> rfl), by repeat (first | (with_reducible first | exact HB.out | apply below_alloc | apply pw_below_drewN | apply below_drew1) | exact HB.out)⟩
 ·rw [if_neg c3] at H
  have c3b0 : decide (1048576 < (wrap64 ((l0.length : Int) + (l1.length : Int)))) = false := decide_eq_false c3
  clear c3
  replace H := Option.bind_eq_some_iff.mp H
  obtain ⟨t519, A40, H⟩ := H
  replace H : ((impl_SettleNames.f k t519).bind fun bt522 => ((spec_SettleNames.f k t519).bind fun bt527 => (if (bt522.2.2 != bt527.2.2) = true then (laws_FnNames.j0 k l1 t519 bt522.1 bt522.2.1 bt522.2.2 true) else (if bt522.2.1 = bt527.2.1 then ((laws_sameOwners.f k bt522.1 bt527.1).bind fun t532 => (if t532 = true then ((impl_GoodOwners.f k t519).bind fun t533 => (laws_FnNames.j0 k l1 t519 bt522.1 bt522.2.1 bt522.2.2 (t533 != bt522.2.2))) else (laws_FnNames.j0 k l1 t519 bt522.1 bt522.2.1 bt522.2.2 true))) else (laws_FnNames.j0 k l1 t519 bt522.1 bt522.2.1 bt522.2.2 true))))) = some r := H
  have A4 := Aside0.mk A40
  clear A40
  replace H := Option.bind_eq_some_iff.mp H
  obtain ⟨⟨t522, t523, t524⟩, A50, H⟩ := H
  replace H : ((spec_SettleNames.f k t519).bind fun bt527 => (if (t524 != bt527.2.2) = true then (laws_FnNames.j0 k l1 t519 t522 t523 t524 true) else (if t523 = bt527.2.1 then ((laws_sameOwners.f k t522 bt527.1).bind fun t532 => (if t532 = true then ((impl_GoodOwners.f k t519).bind fun t533 => (laws_FnNames.j0 k l1 t519 t522 t523 t524 (t533 != t524))) else (laws_FnNames.j0 k l1 t519 t522 t523 t524 true))) else (laws_FnNames.j0 k l1 t519 t522 t523 t524 true)))) = some r := H
  have A5 := Aside0.mk A50
  clear A50
  replace H := Option.bind_eq_some_iff.mp H
  obtain ⟨⟨t527, t528, t529⟩, A60, H⟩ := H
  replace H : (if (t524 != t529) = true then (laws_FnNames.j0 k l1 t519 t522 t523 t524 true) else (if t523 = t528 then ((laws_sameOwners.f k t522 t527).bind fun t532 => (if t532 = true then ((impl_GoodOwners.f k t519).bind fun t533 => (laws_FnNames.j0 k l1 t519 t522 t523 t524 (t533 != t524))) else (laws_FnNames.j0 k l1 t519 t522 t523 t524 true))) else (laws_FnNames.j0 k l1 t519 t522 t523 t524 true))) = some r := H
  have A6 := Aside0.mk A60
  clear A60
  have HC7 := Aside0.mk H
  clear H
  go_enter Try.func11, Try.ntmps11
  go_upto_region 6 with (first | (go_at_call 35; (with_reducible refine (spec_DrawSettleNames.calls k _ _ l0 t519 _ ?side1 ?side2 A4.out).mono ?_); (case side1 => repeat (first | exact HR0.out | (with_reducible refine Kd.C_alloc ?_ _) | (with_reducible refine Kd.C_drewN ?_ _) | (with_reducible refine Kd.C_drew ?_))); (case side2 => exact HC0.out); rintro e w8 ⟨v520, rfl, ho0, hb⟩; have n0_ := Aside0.mk (Kd.R_lower ho0 (below_size (by repeat (first | (with_reducible first | exact HB.out | apply below_alloc | apply pw_below_drewN | apply below_drew1) | exact HB.out)))); have n1_ := Aside0.mk (below_step (by repeat (first | (with_reducible first | exact HB.out | apply below_alloc | apply pw_below_drewN | apply below_drew1) | exact HB.out)) hb); clear HB; have HO521 := n0_; have HB := n1_; clear n0_ n1_; (try clear hb); (try clear hb2); (try clear hk); (try clear hi); (try clear ho0); obtain ⟨Ao9, co9, eo9⟩ := Kd.R_slice HO521.out; subst eo9) | (go_at_call 34; (with_reducible refine (impl_SettleNames.calls k _ _ t519 t522 t523 t524 _ ?side1 ?side2 A5.out).mono ?_); (case side1 => repeat (first | exact (Kd.R_reads' HO521.out).2.2 | (with_reducible refine Kd.C_alloc ?_ _) | (with_reducible refine Kd.C_drewN ?_ _) | (with_reducible refine Kd.C_drew ?_))); (case side2 => exact (Kd.R_reads' HO521.out).2.1); rintro e w10 ⟨v525, rfl, ho0, hb⟩; have n0_ := Aside0.mk (Kd.R_elder' (by (with_reducible repeat (first | apply Kd.R_alloc | apply Kd.R_drewN | apply Kd.R_drew)); exact HO521.out) (Kd.R_base ho0) hb); have n1_ := Aside0.mk (Kd.R_lower (Kd.R_new' ho0 (Kd.R_lt (by (with_reducible repeat (first | apply Kd.R_alloc | apply Kd.R_drewN | apply Kd.R_drew)); exact HO521.out))) (below_size (by repeat (first | (with_reducible first | exact HB.out | apply below_alloc | apply pw_below_drewN | apply below_drew1) | exact HB.out)))); have n2_ := Aside0.mk (below_step (by repeat (first | (with_reducible first | exact HB.out | apply below_alloc | apply pw_below_drewN | apply below_drew1) | exact HB.out)) hb); clear HO521; clear HB; have HO521 := n0_; have HO526 := n1_; have HB := n2_; clear n0_ n1_ n2_; (try clear hb); (try clear hb2); (try clear hk); (try clear hi); (try clear ho0)) | (go_at_call 33; (with_reducible refine (spec_SettleNames.calls k _ _ t519 t527 t528 t529 _ ?side1 ?side2 A6.out).mono ?_); (case side1 => repeat (first | exact (Kd.R_reads' HO521.out).2.2 | (with_reducible refine Kd.C_alloc ?_ _) | (with_reducible refine Kd.C_drewN ?_ _) | (with_reducible refine Kd.C_drew ?_))); (case side2 => exact (Kd.R_reads' HO521.out).2.1); rintro e w11 ⟨v530, rfl, ho0, hb⟩; have n0_ := Aside0.mk (Kd.R_elder' (by (with_reducible repeat (first | apply Kd.R_alloc | apply Kd.R_drewN | apply Kd.R_drew)); exact HO521.out) (Kd.R_base ho0) hb); have n1_ := Aside0.mk (Kd.R_elder' (by (with_reducible repeat (first | apply Kd.R_alloc | apply Kd.R_drewN | apply Kd.R_drew)); exact HO526.out) (Kd.R_base ho0) hb); have n2_ := Aside0.mk (Kd.R_lower (Kd.R_new' (Kd.R_new' ho0 (Kd.R_lt (by (with_reducible repeat (first | apply Kd.R_alloc | apply Kd.R_drewN | apply Kd.R_drew)); exact HO521.out))) (Kd.R_lt (by (with_reducible repeat (first | apply Kd.R_alloc | apply Kd.R_drewN | apply Kd.R_drew)); exact HO526.out))) (below_size (by repeat (first | (with_reducible first | exact HB.out | apply below_alloc | apply pw_below_drewN | apply below_drew1) | exact HB.out)))); have n3_ := Aside0.mk (below_step (by repeat (first | (with_reducible first | exact HB.out | apply below_alloc | apply pw_below_drewN | apply below_drew1) | exact HB.out)) hb); clear HO521; clear HO526; clear HB; have HO521 := n0_; have HO526 := n1_; have HO531 := n2_; have HB := n3_; clear n0_ n1_ n2_ n3_; (try clear hb); (try clear hb2); (try clear hk); (try clear hi); (try clear ho0)))
  repeat (go_quiet (first | (go_at_call 35; (with_reducible refine (spec_DrawSettleNames.calls k _ _ l0 t519 _ ?side1 ?side2 A4.out).mono ?_); (case side1 => repeat (first | exact HR0.out | (with_reducible refine Kd.C_alloc ?_ _) | (with_reducible refine Kd.C_drewN ?_ _) | (with_reducible refine Kd.C_drew ?_))); (case side2 => exact HC0.out); rintro e w8 ⟨v520, rfl, ho0, hb⟩; have n0_ := Aside0.mk (Kd.R_lower ho0 (below_size (by repeat (first | (with_reducible first | exact HB.out | apply below_alloc | apply pw_below_drewN | apply below_drew1) | exact HB.out)))); have n1_ := Aside0.mk (below_step (by repeat (first | (with_reducible first | exact HB.out | apply below_alloc | apply pw_below_drewN | apply below_drew1) | exact HB.out)) hb); clear HB; have HO521 := n0_; have HB := n1_; clear n0_ n1_; (try clear hb); (try clear hb2); (try clear hk); (try clear hi); (try clear ho0); obtain ⟨Ao9, co9, eo9⟩ := Kd.R_slice HO521.out; subst eo9) | (go_at_call 34; (with_reducible refine (impl_SettleNames.calls k _ _ t519 t522 t523 t524 _ ?side1 ?side2 A5.out).mono ?_); (case side1 => repeat (first | exact (Kd.R_reads' HO521.out).2.2 | (with_reducible refine Kd.C_alloc ?_ _) | (with_reducible refine Kd.C_drewN ?_ _) | (with_reducible refine Kd.C_drew ?_))); (case side2 => exact (Kd.R_reads' HO521.out).2.1); rintro e w10 ⟨v525, rfl, ho0, hb⟩; have n0_ := Aside0.mk (Kd.R_elder' (by (with_reducible repeat (first | apply Kd.R_alloc | apply Kd.R_drewN | apply Kd.R_drew)); exact HO521.out) (Kd.R_base ho0) hb); have n1_ := Aside0.mk (Kd.R_lower (Kd.R_new' ho0 (Kd.R_lt (by (with_reducible repeat (first | apply Kd.R_alloc | apply Kd.R_drewN | apply Kd.R_drew)); exact HO521.out))) (below_size (by repeat (first | (with_reducible first | exact HB.out | apply below_alloc | apply pw_below_drewN | apply below_drew1) | exact HB.out)))); have n2_ := Aside0.mk (below_step (by repeat (first | (with_reducible first | exact HB.out | apply below_alloc | apply pw_below_drewN | apply below_drew1) | exact HB.out)) hb); clear HO521; clear HB; have HO521 := n0_; have HO526 := n1_; have HB := n2_; clear n0_ n1_ n2_; (try clear hb); (try clear hb2); (try clear hk); (try clear hi); (try clear ho0)) | (go_at_call 33; (with_reducible refine (spec_SettleNames.calls k _ _ t519 t527 t528 t529 _ ?side1 ?side2 A6.out).mono ?_); (case side1 => repeat (first | exact (Kd.R_reads' HO521.out).2.2 | (with_reducible refine Kd.C_alloc ?_ _) | (with_reducible refine Kd.C_drewN ?_ _) | (with_reducible refine Kd.C_drew ?_))); (case side2 => exact (Kd.R_reads' HO521.out).2.1); rintro e w11 ⟨v530, rfl, ho0, hb⟩; have n0_ := Aside0.mk (Kd.R_elder' (by (with_reducible repeat (first | apply Kd.R_alloc | apply Kd.R_drewN | apply Kd.R_drew)); exact HO521.out) (Kd.R_base ho0) hb); have n1_ := Aside0.mk (Kd.R_elder' (by (with_reducible repeat (first | apply Kd.R_alloc | apply Kd.R_drewN | apply Kd.R_drew)); exact HO526.out) (Kd.R_base ho0) hb); have n2_ := Aside0.mk (Kd.R_lower (Kd.R_new' (Kd.R_new' ho0 (Kd.R_lt (by (with_reducible repeat (first | apply Kd.R_alloc | apply Kd.R_drewN | apply Kd.R_drew)); exact HO521.out))) (Kd.R_lt (by (with_reducible repeat (first | apply Kd.R_alloc | apply Kd.R_drewN | apply Kd.R_drew)); exact HO526.out))) (below_size (by repeat (first | (with_reducible first | exact HB.out | apply below_alloc | apply pw_below_drewN | apply below_drew1) | exact HB.out)))); have n3_ := Aside0.mk (below_step (by repeat (first | (with_reducible first | exact HB.out | apply below_alloc | apply pw_below_drewN | apply below_drew1) | exact HB.out)) hb); clear HO521; clear HO526; clear HB; have HO521 := n0_; have HO526 := n1_; have HO531 := n2_; have HB := n3_; clear n0_ n1_ n2_ n3_; (try clear hb); (try clear hb2); (try clear hk); (try clear hi); (try clear ho0))); go_upto_region 6 with (first | (go_at_call 35; (with_reducible refine (spec_DrawSettleNames.calls k _ _ l0 t519 _ ?side1 ?side2 A4.out).mono ?_); (case side1 => repeat (first | exact HR0.out | (with_reducible refine Kd.C_alloc ?_ _) | (with_reducible refine Kd.C_drewN ?_ _) | (with_reducible refine Kd.C_drew ?_))); (case side2 => exact HC0.out); rintro e w8 ⟨v520, rfl, ho0, hb⟩; have n0_ := Aside0.mk (Kd.R_lower ho0 (below_size (by repeat (first | (with_reducible first | exact HB.out | apply below_alloc | apply pw_below_drewN | apply below_drew1) | exact HB.out)))); have n1_ := Aside0.mk (below_step (by repeat (first | (with_reducible first | exact HB.out | apply below_alloc | apply pw_below_drewN | apply below_drew1) | exact HB.out)) hb); clear HB; have HO521 := n0_; have HB := n1_; clear n0_ n1_; (try clear hb); (try clear hb2); (try clear hk); (try clear hi); (try clear ho0); obtain ⟨Ao9, co9, eo9⟩ := Kd.R_slice HO521.out; subst eo9) | (go_at_call 34; (with_reducible refine (impl_SettleNames.calls k _ _ t519 t522 t523 t524 _ ?side1 ?side2 A5.out).mono ?_); (case side1 => repeat (first | exact (Kd.R_reads' HO521.out).2.2 | (with_reducible refine Kd.C_alloc ?_ _) | (with_reducible refine Kd.C_drewN ?_ _) | (with_reducible refine Kd.C_drew ?_))); (case side2 => exact (Kd.R_reads' HO521.out).2.1); rintro e w10 ⟨v525, rfl, ho0, hb⟩; have n0_ := Aside0.mk (Kd.R_elder' (by (with_reducible repeat (first | apply Kd.R_alloc | apply Kd.R_drewN | apply Kd.R_drew)); exact HO521.out) (Kd.R_base ho0) hb); have n1_ := Aside0.mk (Kd.R_lower (Kd.R_new' ho0 (Kd.R_lt (by (with_reducible repeat (first | apply Kd.R_alloc | apply Kd.R_drewN | apply Kd.R_drew)); exact HO521.out))) (below_size (by repeat (first | (with_reducible first | exact HB.out | apply below_alloc | apply pw_below_drewN | apply below_drew1) | exact HB.out)))); have n2_ := Aside0.mk (below_step (by repeat (first | (with_reducible first | exact HB.out | apply below_alloc | apply pw_below_drewN | apply below_drew1) | exact HB.out)) hb); clear HO521; clear HB; have HO521 := n0_; have HO526 := n1_; have HB := n2_; clear n0_ n1_ n2_; (try clear hb); (try clear hb2); (try clear hk); (try clear hi); (try clear ho0)) | (go_at_call 33; (with_reducible refine (spec_SettleNames.calls k _ _ t519 t527 t528 t529 _ ?side1 ?side2 A6.out).mono ?_); (case side1 => repeat (first | exact (Kd.R_reads' HO521.out).2.2 | (with_reducible refine Kd.C_alloc ?_ _) | (with_reducible refine Kd.C_drewN ?_ _) | (with_reducible refine Kd.C_drew ?_))); (case side2 => exact (Kd.R_reads' HO521.out).2.1); rintro e w11 ⟨v530, rfl, ho0, hb⟩; have n0_ := Aside0.mk (Kd.R_elder' (by (with_reducible repeat (first | apply Kd.R_alloc | apply Kd.R_drewN | apply Kd.R_drew)); exact HO521.out) (Kd.R_base ho0) hb); have n1_ := Aside0.mk (Kd.R_elder' (by (with_reducible repeat (first | apply Kd.R_alloc | apply Kd.R_drewN | apply Kd.R_drew)); exact HO526.out) (Kd.R_base ho0) hb); have n2_ := Aside0.mk (Kd.R_lower (Kd.R_new' (Kd.R_new' ho0 (Kd.R_lt (by (with_reducible repeat (first | apply Kd.R_alloc | apply Kd.R_drewN | apply Kd.R_drew)); exact HO521.out))) (Kd.R_lt (by (with_reducible repeat (first | apply Kd.R_alloc | apply Kd.R_drewN | apply Kd.R_drew)); exact HO526.out))) (below_size (by repeat (first | (with_reducible first | exact HB.out | apply below_alloc | apply pw_below_drewN | apply below_drew1) | exact HB.out)))); have n3_ := Aside0.mk (below_step (by repeat (first | (with_reducible first | exact HB.out | apply below_alloc | apply pw_below_drewN | apply below_drew1) | exact HB.out)) hb); clear HO521; clear HO526; clear HB; have HO521 := n0_; have HO526 := n1_; have HO531 := n2_; have HB := n3_; clear n0_ n1_ n2_ n3_; (try clear hb); (try clear hb2); (try clear hk); (try clear hi); (try clear ho0))))
  (try simp only [Act.put, List.setIfInBounds_toArray, List.set_cons_zero, List.set_cons_succ])
  go_cut [68] (fun v68 wc => ∃ (kq : Nat) (x68_6 : Bool), v68 = .bool x68_6 ∧ Aside0 (laws_FnNames.j0 kq l1 t519 t522 t523 t524 x68_6 = some r) ∧ Aside0 (kq ≤ k) ∧ Aside0 (Kd.R k26 26 wc w.heap.size (fun k_ => some k_ ≠ (v525 : Value).ownBlock) (.slice Ao9 t519.length co9) t519) ∧ Aside0 (Kd.R k26 26 wc w.heap.size (fun k_ => some k_ ≠ ((.slice Ao9 t519.length co9) : Value).ownBlock) v525 t522) ∧ Aside0 (Below w.heap.size w wc))
  case first =>
   have H := HC7.out
   clear HC7
   by_cases c12 : (t524 != t529) = true
   ·rw [if_pos c12] at H
    have c12b0 : (t524 != t529) = true := c12
    (try (have c12b1 : decide (t524 = t529) = false := by simpa using c12))
    (try (have c12b2 : (t524 == t529) = false := by simpa using c12))
    (try (have c12b3 : ¬ (t524 = t529) := by simpa using c12))
    clear c12
    (first | rw [c12b0] | (simp only [i64_w, i32_w]; rw [c12b0]) | skip)
    have H' := Aside0.mk H
    clear H
    go_wp2
    repeat (go_quiet (fail); try go_wp2)
    go_meet
    case rel => exact ⟨_, (true), (by first | rfl | (simp; done) | (simp [*]; done)), H', ⟨by first | omega | exact Nat.le_refl _⟩, ⟨by (with_reducible repeat (first | apply Kd.R_alloc | apply Kd.R_drewN | apply Kd.R_drew)); exact Kd.R_mono HO521.out (fun _ hk => hk.1.2)⟩, ⟨by (with_reducible repeat (first | apply Kd.R_alloc | apply Kd.R_drewN | apply Kd.R_drew)); exact Kd.R_mono HO526.out (fun _ hk => hk.1.2)⟩, ⟨by repeat (first | (with_reducible first | exact HB.out | apply below_alloc | apply pw_below_drewN | apply below_drew1) | exact HB.out)⟩⟩
   ·rw [if_neg c12] at H
    have c12b0 : (t524 != t529) = false := by simpa using c12
    (try (have c12b1 : decide (t524 = t529) = true := by simpa using c12))
    (try (have c12b2 : (t524 == t529) = true := by simpa using c12))
    clear c12
    (first | rw [c12b0] | (simp only [i64_w, i32_w]; rw [c12b0]) | skip)
    by_cases c13 : t523 = t528
    ·rw [if_pos c13] at H
     have c13b0 : (t523 == t528) = true := beq_iff_eq.mpr c13
     have c13b1 : (t523 != t528) = false := bne_eq_false_iff_eq.mpr c13
     clear c13
     replace H := Option.bind_eq_some_iff.mp H
     obtain ⟨t532, A140, H⟩ := H
     replace H : (if t532 = true then ((impl_GoodOwners.f k t519).bind fun t533 => (laws_FnNames.j0 k l1 t519 t522 t523 t524 (t533 != t524))) else (laws_FnNames.j0 k l1 t519 t522 t523 t524 true)) = some r := H
     have A14 := Aside0.mk A140
     clear A140
     by_cases c15 : t532 = true
     ·subst c15
      have H1 : ((impl_GoodOwners.f k t519).bind fun t533 => (laws_FnNames.j0 k l1 t519 t522 t523 t524 (t533 != t524))) = some r := by rw [if_pos rfl] at H; exact H
      clear H
      have H := H1
      clear H1
      replace H := Option.bind_eq_some_iff.mp H
      obtain ⟨t533, A160, H⟩ := H
      replace H : (laws_FnNames.j0 k l1 t519 t522 t523 t524 (t533 != t524)) = some r := H
      have A16 := Aside0.mk A160
      clear A160
      have H' := Aside0.mk H
      clear H
      obtain ⟨Ao17, co17, eo17⟩ := Kd.R_slice HO526.out
      subst eo17
      obtain ⟨Ao18, co18, eo18⟩ := Kd.R_slice HO531.out
      subst eo18
      go_wp2_with (first | (go_at_call 36; (with_reducible refine (laws_sameOwners.calls k _ _ t522 _ _ t527 true _ ?side1 ?side2 ?side3 ?side4 A14.out).mono ?_); (case side1 => repeat (first | exact (Kd.R_reads' HO526.out).2.2 | (with_reducible refine Kd.C_alloc ?_ _) | (with_reducible refine Kd.C_drewN ?_ _) | (with_reducible refine Kd.C_drew ?_))); (case side2 => exact (Kd.R_reads' HO526.out).2.1); (case side3 => repeat (first | exact (Kd.R_reads' HO531.out).2.2 | (with_reducible refine Kd.C_alloc ?_ _) | (with_reducible refine Kd.C_drewN ?_ _) | (with_reducible refine Kd.C_drew ?_))); (case side4 => exact (Kd.R_reads' HO531.out).2.1); rintro e w' ⟨rfl, ⟨nd, rfl⟩⟩; (try first | exact ⟨rfl, _, World.drewN_drewN _ _ _⟩ | exact ⟨rfl, _, Eq.trans (World.drewN_drewN _ _ _) (congrArg (World.drewN _) (Nat.add_assoc _ _ _))⟩)) | (go_at_call 19; (with_reducible refine (impl_GoodOwners.calls k _ _ t519 t533 _ ?side1 ?side2 A16.out).mono ?_); (case side1 => repeat (first | exact (Kd.R_reads' HO521.out).2.2 | (with_reducible refine Kd.C_alloc ?_ _) | (with_reducible refine Kd.C_drewN ?_ _) | (with_reducible refine Kd.C_drew ?_))); (case side2 => exact (Kd.R_reads' HO521.out).2.1); rintro e w19 ⟨rfl, hb⟩; have n0_ := Aside0.mk (Kd.R_below (by (with_reducible repeat (first | apply Kd.R_alloc | apply Kd.R_drewN | apply Kd.R_drew)); exact HO521.out) hb); have n1_ := Aside0.mk (Kd.R_below (by (with_reducible repeat (first | apply Kd.R_alloc | apply Kd.R_drewN | apply Kd.R_drew)); exact HO526.out) hb); have n2_ := Aside0.mk (Kd.R_below (by (with_reducible repeat (first | apply Kd.R_alloc | apply Kd.R_drewN | apply Kd.R_drew)); exact HO531.out) hb); have n3_ := Aside0.mk (below_step (by repeat (first | (with_reducible first | exact HB.out | apply below_alloc | apply pw_below_drewN | apply below_drew1) | exact HB.out)) hb); clear HO521; clear HO526; clear HO531; clear HB; have HO521 := n0_; have HO526 := n1_; have HO531 := n2_; have HB := n3_; clear n0_ n1_ n2_ n3_; (try clear hb); (try clear hb2); (try clear hk); (try clear hi)))
      repeat (go_quiet (first | (go_at_call 36; (with_reducible refine (laws_sameOwners.calls k _ _ t522 _ _ t527 true _ ?side1 ?side2 ?side3 ?side4 A14.out).mono ?_); (case side1 => repeat (first | exact (Kd.R_reads' HO526.out).2.2 | (with_reducible refine Kd.C_alloc ?_ _) | (with_reducible refine Kd.C_drewN ?_ _) | (with_reducible refine Kd.C_drew ?_))); (case side2 => exact (Kd.R_reads' HO526.out).2.1); (case side3 => repeat (first | exact (Kd.R_reads' HO531.out).2.2 | (with_reducible refine Kd.C_alloc ?_ _) | (with_reducible refine Kd.C_drewN ?_ _) | (with_reducible refine Kd.C_drew ?_))); (case side4 => exact (Kd.R_reads' HO531.out).2.1); rintro e w' ⟨rfl, ⟨nd, rfl⟩⟩; (try first | exact ⟨rfl, _, World.drewN_drewN _ _ _⟩ | exact ⟨rfl, _, Eq.trans (World.drewN_drewN _ _ _) (congrArg (World.drewN _) (Nat.add_assoc _ _ _))⟩)) | (go_at_call 19; (with_reducible refine (impl_GoodOwners.calls k _ _ t519 t533 _ ?side1 ?side2 A16.out).mono ?_); (case side1 => repeat (first | exact (Kd.R_reads' HO521.out).2.2 | (with_reducible refine Kd.C_alloc ?_ _) | (with_reducible refine Kd.C_drewN ?_ _) | (with_reducible refine Kd.C_drew ?_))); (case side2 => exact (Kd.R_reads' HO521.out).2.1); rintro e w19 ⟨rfl, hb⟩; have n0_ := Aside0.mk (Kd.R_below (by (with_reducible repeat (first | apply Kd.R_alloc | apply Kd.R_drewN | apply Kd.R_drew)); exact HO521.out) hb); have n1_ := Aside0.mk (Kd.R_below (by (with_reducible repeat (first | apply Kd.R_alloc | apply Kd.R_drewN | apply Kd.R_drew)); exact HO526.out) hb); have n2_ := Aside0.mk (Kd.R_below (by (with_reducible repeat (first | apply Kd.R_alloc | apply Kd.R_drewN | apply Kd.R_drew)); exact HO531.out) hb); have n3_ := Aside0.mk (below_step (by repeat (first | (with_reducible first | exact HB.out | apply below_alloc | apply pw_below_drewN | apply below_drew1) | exact HB.out)) hb); clear HO521; clear HO526; clear HO531; clear HB; have HO521 := n0_; have HO526 := n1_; have HO531 := n2_; have HB := n3_; clear n0_ n1_ n2_ n3_; (try clear hb); (try clear hb2); (try clear hk); (try clear hi))); try go_wp2_with (first | (go_at_call 36; (with_reducible refine (laws_sameOwners.calls k _ _ t522 _ _ t527 true _ ?side1 ?side2 ?side3 ?side4 A14.out).mono ?_); (case side1 => repeat (first | exact (Kd.R_reads' HO526.out).2.2 | (with_reducible refine Kd.C_alloc ?_ _) | (with_reducible refine Kd.C_drewN ?_ _) | (with_reducible refine Kd.C_drew ?_))); (case side2 => exact (Kd.R_reads' HO526.out).2.1); (case side3 => repeat (first | exact (Kd.R_reads' HO531.out).2.2 | (with_reducible refine Kd.C_alloc ?_ _) | (with_reducible refine Kd.C_drewN ?_ _) | (with_reducible refine Kd.C_drew ?_))); (case side4 => exact (Kd.R_reads' HO531.out).2.1); rintro e w' ⟨rfl, ⟨nd, rfl⟩⟩; (try first | exact ⟨rfl, _, World.drewN_drewN _ _ _⟩ | exact ⟨rfl, _, Eq.trans (World.drewN_drewN _ _ _) (congrArg (World.drewN _) (Nat.add_assoc _ _ _))⟩)) | (go_at_call 19; (with_reducible refine (impl_GoodOwners.calls k _ _ t519 t533 _ ?side1 ?side2 A16.out).mono ?_); (case side1 => repeat (first | exact (Kd.R_reads' HO521.out).2.2 | (with_reducible refine Kd.C_alloc ?_ _) | (with_reducible refine Kd.C_drewN ?_ _) | (with_reducible refine Kd.C_drew ?_))); (case side2 => exact (Kd.R_reads' HO521.out).2.1); rintro e w19 ⟨rfl, hb⟩; have n0_ := Aside0.mk (Kd.R_below (by (with_reducible repeat (first | apply Kd.R_alloc | apply Kd.R_drewN | apply Kd.R_drew)); exact HO521.out) hb); have n1_ := Aside0.mk (Kd.R_below (by (with_reducible repeat (first | apply Kd.R_alloc | apply Kd.R_drewN | apply Kd.R_drew)); exact HO526.out) hb); have n2_ := Aside0.mk (Kd.R_below (by (with_reducible repeat (first | apply Kd.R_alloc | apply Kd.R_drewN | apply Kd.R_drew)); exact HO531.out) hb); have n3_ := Aside0.mk (below_step (by repeat (first | (with_reducible first | exact HB.out | apply below_alloc | apply pw_below_drewN | apply below_drew1) | exact HB.out)) hb); clear HO521; clear HO526; clear HO531; clear HB; have HO521 := n0_; have HO526 := n1_; have HO531 := n2_; have HB := n3_; clear n0_ n1_ n2_ n3_; (try clear hb); (try clear hb2); (try clear hk); (try clear hi))))
      go_meet
      case rel => exact ⟨_, ((t533 != t524)), (by first | rfl | (simp; done) | (simp [*]; done)), H', ⟨by first | omega | exact Nat.le_refl _⟩, ⟨by (with_reducible repeat (first | apply Kd.R_alloc | apply Kd.R_drewN | apply Kd.R_drew)); exact Kd.R_mono HO521.out (fun _ hk => hk.1.2)⟩, ⟨by (with_reducible repeat (first | apply Kd.R_alloc | apply Kd.R_drewN | apply Kd.R_drew)); exact Kd.R_mono HO526.out (fun _ hk => hk.1.2)⟩, ⟨by repeat (first | (with_reducible first | exact HB.out | apply below_alloc | apply pw_below_drewN | apply below_drew1) | exact HB.out)⟩⟩
     ·replace c15 := Bool.eq_false_iff.mpr c15
      subst c15
      have H1 : (laws_FnNames.j0 k l1 t519 t522 t523 t524 true) = some r := by rw [if_neg (show ¬ (false = true) by decide)] at H; exact H
      clear H
      have H := H1
      clear H1
      have H' := Aside0.mk H
      clear H
      obtain ⟨Ao20, co20, eo20⟩ := Kd.R_slice HO526.out
      subst eo20
      obtain ⟨Ao21, co21, eo21⟩ := Kd.R_slice HO531.out
      subst eo21
      go_wp2_with (first | (go_at_call 36; (with_reducible refine (laws_sameOwners.calls k _ _ t522 _ _ t527 false _ ?side1 ?side2 ?side3 ?side4 A14.out).mono ?_); (case side1 => repeat (first | exact (Kd.R_reads' HO526.out).2.2 | (with_reducible refine Kd.C_alloc ?_ _) | (with_reducible refine Kd.C_drewN ?_ _) | (with_reducible refine Kd.C_drew ?_))); (case side2 => exact (Kd.R_reads' HO526.out).2.1); (case side3 => repeat (first | exact (Kd.R_reads' HO531.out).2.2 | (with_reducible refine Kd.C_alloc ?_ _) | (with_reducible refine Kd.C_drewN ?_ _) | (with_reducible refine Kd.C_drew ?_))); (case side4 => exact (Kd.R_reads' HO531.out).2.1); rintro e w' ⟨rfl, ⟨nd, rfl⟩⟩; (try first | exact ⟨rfl, _, World.drewN_drewN _ _ _⟩ | exact ⟨rfl, _, Eq.trans (World.drewN_drewN _ _ _) (congrArg (World.drewN _) (Nat.add_assoc _ _ _))⟩)))
      repeat (go_quiet (first | (go_at_call 36; (with_reducible refine (laws_sameOwners.calls k _ _ t522 _ _ t527 false _ ?side1 ?side2 ?side3 ?side4 A14.out).mono ?_); (case side1 => repeat (first | exact (Kd.R_reads' HO526.out).2.2 | (with_reducible refine Kd.C_alloc ?_ _) | (with_reducible refine Kd.C_drewN ?_ _) | (with_reducible refine Kd.C_drew ?_))); (case side2 => exact (Kd.R_reads' HO526.out).2.1); (case side3 => repeat (first | exact (Kd.R_reads' HO531.out).2.2 | (with_reducible refine Kd.C_alloc ?_ _) | (with_reducible refine Kd.C_drewN ?_ _) | (with_reducible refine Kd.C_drew ?_))); (case side4 => exact (Kd.R_reads' HO531.out).2.1); rintro e w' ⟨rfl, ⟨nd, rfl⟩⟩; (try first | exact ⟨rfl, _, World.drewN_drewN _ _ _⟩ | exact ⟨rfl, _, Eq.trans (World.drewN_drewN _ _ _) (congrArg (World.drewN _) (Nat.add_assoc _ _ _))⟩))); try go_wp2_with (first | (go_at_call 36; (with_reducible refine (laws_sameOwners.calls k _ _ t522 _ _ t527 false _ ?side1 ?side2 ?side3 ?side4 A14.out).mono ?_); (case side1 => repeat (first | exact (Kd.R_reads' HO526.out).2.2 | (with_reducible refine Kd.C_alloc ?_ _) | (with_reducible refine Kd.C_drewN ?_ _) | (with_reducible refine Kd.C_drew ?_))); (case side2 => exact (Kd.R_reads' HO526.out).2.1); (case side3 => repeat (first | exact (Kd.R_reads' HO531.out).2.2 | (with_reducible refine Kd.C_alloc ?_ _) | (with_reducible refine Kd.C_drewN ?_ _) | (with_reducible refine Kd.C_drew ?_))); (case side4 => exact (Kd.R_reads' HO531.out).2.1); rintro e w' ⟨rfl, ⟨nd, rfl⟩⟩; (try first | exact ⟨rfl, _, World.drewN_drewN _ _ _⟩ | exact ⟨rfl, _, Eq.trans (World.drewN_drewN _ _ _) (congrArg (World.drewN _) (Nat.add_assoc _ _ _))⟩))))
      go_meet
      case rel => exact ⟨_, (true), (by first | rfl | (simp; done) | (simp [*]; done)), H', ⟨by first | omega | exact Nat.le_refl _⟩, ⟨by (with_reducible repeat (first | apply Kd.R_alloc | apply Kd.R_drewN | apply Kd.R_drew)); exact Kd.R_mono HO521.out (fun _ hk => hk.1.2)⟩, ⟨by (with_reducible repeat (first | apply Kd.R_alloc | apply Kd.R_drewN | apply Kd.R_drew)); exact Kd.R_mono HO526.out (fun _ hk => hk.1.2)⟩, ⟨by repeat (first | (with_reducible first | exact HB.out | apply below_alloc | apply pw_below_drewN | apply below_drew1) | exact HB.out)⟩⟩
    ·rw [if_neg c13] at H
     have c13b0 : (t523 == t528) = false := beq_eq_false_iff_ne.mpr c13
     have c13b1 : (t523 != t528) = true := bne_iff_ne.mpr c13
     have H' := Aside0.mk H
     clear H
     go_wp2
     repeat (go_quiet (fail); try go_wp2)
     go_meet
     case rel => exact ⟨_, (true), (by first | rfl | (simp; done) | (simp [*]; done)), H', ⟨by first | omega | exact Nat.le_refl _⟩, ⟨by (with_reducible repeat (first | apply Kd.R_alloc | apply Kd.R_drewN | apply Kd.R_drew)); exact Kd.R_mono HO521.out (fun _ hk => hk.1.2)⟩, ⟨by (with_reducible repeat (first | apply Kd.R_alloc | apply Kd.R_drewN | apply Kd.R_drew)); exact Kd.R_mono HO526.out (fun _ hk => hk.1.2)⟩, ⟨by repeat (first | (with_reducible first | exact HB.out | apply below_alloc | apply pw_below_drewN | apply below_drew1) | exact HB.out)⟩⟩
  case rest =>
   clear HC7
   try clear c1
   try clear p2
   try clear c3
   try clear c3b0
   try clear p6
   try clear c11
   try clear c12
   try clear c12b0
   try clear c12b1
   try clear c12b2
   try clear c13
   try clear c13b0
   try clear c13b1
   try clear c15
   obtain ⟨kq, x68_6, rfl, HA, HJ6, HO_5, HO_6, HB⟩ := hcut
   cases kq with
   | zero => exact absurd HA.out (by simp [laws_FnNames.j0])
   | succ kj6 =>
    have H := HA.out
    clear HA
    simp only [laws_FnNames.j0] at H
    by_cases c22 : x68_6 = true
    ·subst c22
     have H1 : (some false) = some r := by rw [if_pos rfl] at H; exact H
     clear H
     have H := H1
     clear H1
     obtain rfl := Option.some.inj H
     go_wp2
     repeat (go_quiet (fail); try go_wp2)
     go_ret
     exact ⟨by first | rfl | (simp [errW_none, errW_some] <;> rfl) | (simp [*, errW_none, errW_some] <;> rfl), by repeat (first | (with_reducible first | exact HB.out | apply below_alloc | apply pw_below_drewN | apply below_drew1) | exact HB.out)⟩
    ·replace c22 := Bool.eq_false_iff.mpr c22
     subst c22
     have H1 : (if t524 = true then ((impl_ClashIn.f kj6 t522).bind fun bt534 => (if bt534.2.2 = true then (laws_FnNames.j1 kj6 l1 t519 t522 true) else ((impl_GoodOwners.f kj6 t522).bind fun t537 => (if t537 = true then (laws_FnNames.j1 kj6 l1 t519 t522 (decide (t523 ≥ (t522.length : Int)))) else (laws_FnNames.j1 kj6 l1 t519 t522 true))))) else (laws_FnNames.j4 kj6 l1)) = some r := by rw [if_neg (show ¬ (false = true) by decide)] at H; exact H
     clear H
     have H := H1
     clear H1
     have HC23 := Aside0.mk H
     clear H
     go_upto_if 69 with (fail)
     repeat (go_quiet (fail); go_upto_if 69 with (fail))
     go_cut [] (fun wc => ∃ (kq : Nat), Aside0 (laws_FnNames.j4 kq l1 = some r) ∧ Aside0 (kq ≤ kj6) ∧ Aside0 (Below w.heap.size w wc))
     case first =>
      have H := HC23.out
      clear HC23
      by_cases c24 : t524 = true
      ·subst c24
       have H1 : ((impl_ClashIn.f kj6 t522).bind fun bt534 => (if bt534.2.2 = true then (laws_FnNames.j1 kj6 l1 t519 t522 true) else ((impl_GoodOwners.f kj6 t522).bind fun t537 => (if t537 = true then (laws_FnNames.j1 kj6 l1 t519 t522 (decide (t523 ≥ (t522.length : Int)))) else (laws_FnNames.j1 kj6 l1 t519 t522 true))))) = some r := by rw [if_pos rfl] at H; exact H
       clear H
       have H := H1
       clear H1
       replace H := Option.bind_eq_some_iff.mp H
       obtain ⟨⟨t534, t535, t536⟩, A250, H⟩ := H
       replace H : (if t536 = true then (laws_FnNames.j1 kj6 l1 t519 t522 true) else ((impl_GoodOwners.f kj6 t522).bind fun t537 => (if t537 = true then (laws_FnNames.j1 kj6 l1 t519 t522 (decide (t523 ≥ (t522.length : Int)))) else (laws_FnNames.j1 kj6 l1 t519 t522 true)))) = some r := H
       have A25 := Aside0.mk A250
       clear A250
       have HC26 := Aside0.mk H
       clear H
       obtain ⟨Ao27, co27, eo27⟩ := Kd.R_slice HO_6.out
       subst eo27
       go_upto_region 10 with (first | (go_at_call 26; (with_reducible refine (impl_ClashIn.calls kj6 _ _ t522 t534 t535 t536 _ ?side1 ?side2 A25.out).mono ?_); (case side1 => repeat (first | exact (Kd.R_reads' HO_6.out).2.2 | (with_reducible refine Kd.C_alloc ?_ _) | (with_reducible refine Kd.C_drewN ?_ _) | (with_reducible refine Kd.C_drew ?_))); (case side2 => exact (Kd.R_reads' HO_6.out).2.1); rintro e w28 ⟨rfl, hb⟩; have n0_ := Aside0.mk (Kd.R_below (by (with_reducible repeat (first | apply Kd.R_alloc | apply Kd.R_drewN | apply Kd.R_drew)); exact HO_5.out) hb); have n1_ := Aside0.mk (Kd.R_below (by (with_reducible repeat (first | apply Kd.R_alloc | apply Kd.R_drewN | apply Kd.R_drew)); exact HO_6.out) hb); have n2_ := Aside0.mk (below_step (by repeat (first | (with_reducible first | exact HB.out | apply below_alloc | apply pw_below_drewN | apply below_drew1) | exact HB.out)) hb); clear HO_5; clear HO_6; clear HB; have HO_5 := n0_; have HO_6 := n1_; have HB := n2_; clear n0_ n1_ n2_; (try clear hb); (try clear hb2); (try clear hk); (try clear hi)))
       repeat (go_quiet (first | (go_at_call 26; (with_reducible refine (impl_ClashIn.calls kj6 _ _ t522 t534 t535 t536 _ ?side1 ?side2 A25.out).mono ?_); (case side1 => repeat (first | exact (Kd.R_reads' HO_6.out).2.2 | (with_reducible refine Kd.C_alloc ?_ _) | (with_reducible refine Kd.C_drewN ?_ _) | (with_reducible refine Kd.C_drew ?_))); (case side2 => exact (Kd.R_reads' HO_6.out).2.1); rintro e w28 ⟨rfl, hb⟩; have n0_ := Aside0.mk (Kd.R_below (by (with_reducible repeat (first | apply Kd.R_alloc | apply Kd.R_drewN | apply Kd.R_drew)); exact HO_5.out) hb); have n1_ := Aside0.mk (Kd.R_below (by (with_reducible repeat (first | apply Kd.R_alloc | apply Kd.R_drewN | apply Kd.R_drew)); exact HO_6.out) hb); have n2_ := Aside0.mk (below_step (by repeat (first | (with_reducible first | exact HB.out | apply below_alloc | apply pw_below_drewN | apply below_drew1) | exact HB.out)) hb); clear HO_5; clear HO_6; clear HB; have HO_5 := n0_; have HO_6 := n1_; have HB := n2_; clear n0_ n1_ n2_; (try clear hb); (try clear hb2); (try clear hk); (try clear hi))); go_upto_region 10 with (first | (go_at_call 26; (with_reducible refine (impl_ClashIn.calls kj6 _ _ t522 t534 t535 t536 _ ?side1 ?side2 A25.out).mono ?_); (case side1 => repeat (first | exact (Kd.R_reads' HO_6.out).2.2 | (with_reducible refine Kd.C_alloc ?_ _) | (with_reducible refine Kd.C_drewN ?_ _) | (with_reducible refine Kd.C_drew ?_))); (case side2 => exact (Kd.R_reads' HO_6.out).2.1); rintro e w28 ⟨rfl, hb⟩; have n0_ := Aside0.mk (Kd.R_below (by (with_reducible repeat (first | apply Kd.R_alloc | apply Kd.R_drewN | apply Kd.R_drew)); exact HO_5.out) hb); have n1_ := Aside0.mk (Kd.R_below (by (with_reducible repeat (first | apply Kd.R_alloc | apply Kd.R_drewN | apply Kd.R_drew)); exact HO_6.out) hb); have n2_ := Aside0.mk (below_step (by repeat (first | (with_reducible first | exact HB.out | apply below_alloc | apply pw_below_drewN | apply below_drew1) | exact HB.out)) hb); clear HO_5; clear HO_6; clear HB; have HO_5 := n0_; have HO_6 := n1_; have HB := n2_; clear n0_ n1_ n2_; (try clear hb); (try clear hb2); (try clear hk); (try clear hi))))
       (try simp only [Act.put, List.setIfInBounds_toArray, List.set_cons_zero, List.set_cons_succ])
       go_cut [87] (fun v87 wc => ∃ (kq : Nat) (x87_25 : Bool), v87 = .bool x87_25 ∧ Aside0 (laws_FnNames.j1 kq l1 t519 t522 x87_25 = some r) ∧ Aside0 (kq ≤ kj6) ∧ Aside0 (Kd.R k26 26 wc w.heap.size (fun k_ => some k_ ≠ ((.slice Ao27 t522.length co27) : Value).ownBlock) (.slice Ao9 t519.length co9) t519) ∧ Aside0 (Kd.R k26 26 wc w.heap.size (fun k_ => some k_ ≠ ((.slice Ao9 t519.length co9) : Value).ownBlock) (.slice Ao27 t522.length co27) t522) ∧ Aside0 (Below w.heap.size w wc))
       case first =>
        have H := HC26.out
        clear HC26
        by_cases c29 : t536 = true
        ·subst c29
         have H1 : (laws_FnNames.j1 kj6 l1 t519 t522 true) = some r := by rw [if_pos rfl] at H; exact H
         clear H
         have H := H1
         clear H1
         have H' := Aside0.mk H
         clear H
         go_wp2
         repeat (go_quiet (fail); try go_wp2)
         go_meet
         case rel => exact ⟨_, (true), (by first | rfl | (simp; done) | (simp [*]; done)), H', ⟨by have := HJ6.out; first | omega | exact Nat.le_refl _⟩, ⟨by (with_reducible repeat (first | apply Kd.R_alloc | apply Kd.R_drewN | apply Kd.R_drew)); exact HO_5.out⟩, ⟨by (with_reducible repeat (first | apply Kd.R_alloc | apply Kd.R_drewN | apply Kd.R_drew)); exact HO_6.out⟩, ⟨by repeat (first | (with_reducible first | exact HB.out | apply below_alloc | apply pw_below_drewN | apply below_drew1) | exact HB.out)⟩⟩
        ·replace c29 := Bool.eq_false_iff.mpr c29
         subst c29
         have H1 : ((impl_GoodOwners.f kj6 t522).bind fun t537 => (if t537 = true then (laws_FnNames.j1 kj6 l1 t519 t522 (decide (t523 ≥ (t522.length : Int)))) else (laws_FnNames.j1 kj6 l1 t519 t522 true))) = some r := by rw [if_neg (show ¬ (false = true) by decide)] at H; exact H
         clear H
         have H := H1
         clear H1
         replace H := Option.bind_eq_some_iff.mp H
         obtain ⟨t537, A300, H⟩ := H
         replace H : (if t537 = true then (laws_FnNames.j1 kj6 l1 t519 t522 (decide (t523 ≥ (t522.length : Int)))) else (laws_FnNames.j1 kj6 l1 t519 t522 true)) = some r := H
         have A30 := Aside0.mk A300
         clear A300
         by_cases c31 : t537 = true
         ·subst c31
          have H1 : (laws_FnNames.j1 kj6 l1 t519 t522 (decide (t523 ≥ (t522.length : Int)))) = some r := by rw [if_pos rfl] at H; exact H
          clear H
          have H := H1
          clear H1
          have H' := Aside0.mk H
          clear H
          go_wp2_with (first | (go_at_call 19; (with_reducible refine (impl_GoodOwners.calls kj6 _ _ t522 true _ ?side1 ?side2 A30.out).mono ?_); (case side1 => repeat (first | exact (Kd.R_reads' HO_6.out).2.2 | (with_reducible refine Kd.C_alloc ?_ _) | (with_reducible refine Kd.C_drewN ?_ _) | (with_reducible refine Kd.C_drew ?_))); (case side2 => exact (Kd.R_reads' HO_6.out).2.1); rintro e w32 ⟨rfl, hb⟩; have n0_ := Aside0.mk (Kd.R_below (by (with_reducible repeat (first | apply Kd.R_alloc | apply Kd.R_drewN | apply Kd.R_drew)); exact HO_5.out) hb); have n1_ := Aside0.mk (Kd.R_below (by (with_reducible repeat (first | apply Kd.R_alloc | apply Kd.R_drewN | apply Kd.R_drew)); exact HO_6.out) hb); have n2_ := Aside0.mk (below_step (by repeat (first | (with_reducible first | exact HB.out | apply below_alloc | apply pw_below_drewN | apply below_drew1) | exact HB.out)) hb); clear HO_5; clear HO_6; clear HB; have HO_5 := n0_; have HO_6 := n1_; have HB := n2_; clear n0_ n1_ n2_; (try clear hb); (try clear hb2); (try clear hk); (try clear hi)))
          repeat (go_quiet (first | (go_at_call 19; (with_reducible refine (impl_GoodOwners.calls kj6 _ _ t522 true _ ?side1 ?side2 A30.out).mono ?_); (case side1 => repeat (first | exact (Kd.R_reads' HO_6.out).2.2 | (with_reducible refine Kd.C_alloc ?_ _) | (with_reducible refine Kd.C_drewN ?_ _) | (with_reducible refine Kd.C_drew ?_))); (case side2 => exact (Kd.R_reads' HO_6.out).2.1); rintro e w32 ⟨rfl, hb⟩; have n0_ := Aside0.mk (Kd.R_below (by (with_reducible repeat (first | apply Kd.R_alloc | apply Kd.R_drewN | apply Kd.R_drew)); exact HO_5.out) hb); have n1_ := Aside0.mk (Kd.R_below (by (with_reducible repeat (first | apply Kd.R_alloc | apply Kd.R_drewN | apply Kd.R_drew)); exact HO_6.out) hb); have n2_ := Aside0.mk (below_step (by repeat (first | (with_reducible first | exact HB.out | apply below_alloc | apply pw_below_drewN | apply below_drew1) | exact HB.out)) hb); clear HO_5; clear HO_6; clear HB; have HO_5 := n0_; have HO_6 := n1_; have HB := n2_; clear n0_ n1_ n2_; (try clear hb); (try clear hb2); (try clear hk); (try clear hi))); try go_wp2_with (first | (go_at_call 19; (with_reducible refine (impl_GoodOwners.calls kj6 _ _ t522 true _ ?side1 ?side2 A30.out).mono ?_); (case side1 => repeat (first | exact (Kd.R_reads' HO_6.out).2.2 | (with_reducible refine Kd.C_alloc ?_ _) | (with_reducible refine Kd.C_drewN ?_ _) | (with_reducible refine Kd.C_drew ?_))); (case side2 => exact (Kd.R_reads' HO_6.out).2.1); rintro e w32 ⟨rfl, hb⟩; have n0_ := Aside0.mk (Kd.R_below (by (with_reducible repeat (first | apply Kd.R_alloc | apply Kd.R_drewN | apply Kd.R_drew)); exact HO_5.out) hb); have n1_ := Aside0.mk (Kd.R_below (by (with_reducible repeat (first | apply Kd.R_alloc | apply Kd.R_drewN | apply Kd.R_drew)); exact HO_6.out) hb); have n2_ := Aside0.mk (below_step (by repeat (first | (with_reducible first | exact HB.out | apply below_alloc | apply pw_below_drewN | apply below_drew1) | exact HB.out)) hb); clear HO_5; clear HO_6; clear HB; have HO_5 := n0_; have HO_6 := n1_; have HB := n2_; clear n0_ n1_ n2_; (try clear hb); (try clear hb2); (try clear hk); (try clear hi))))
          go_meet
          case rel => exact ⟨_, (decide (t523 ≥ (t522.length : Int))), (by first | rfl | (simp; done) | (simp [*]; done)), H', ⟨by have := HJ6.out; first | omega | exact Nat.le_refl _⟩, ⟨by (with_reducible repeat (first | apply Kd.R_alloc | apply Kd.R_drewN | apply Kd.R_drew)); exact HO_5.out⟩, ⟨by (with_reducible repeat (first | apply Kd.R_alloc | apply Kd.R_drewN | apply Kd.R_drew)); exact HO_6.out⟩, ⟨by repeat (first | (with_reducible first | exact HB.out | apply below_alloc | apply pw_below_drewN | apply below_drew1) | exact HB.out)⟩⟩
         ·replace c31 := Bool.eq_false_iff.mpr c31
          subst c31
          have H1 : (laws_FnNames.j1 kj6 l1 t519 t522 true) = some r := by rw [if_neg (show ¬ (false = true) by decide)] at H; exact H
          clear H
          have H := H1
          clear H1
          have H' := Aside0.mk H
          clear H
          go_wp2_with (first | (go_at_call 19; (with_reducible refine (impl_GoodOwners.calls kj6 _ _ t522 false _ ?side1 ?side2 A30.out).mono ?_); (case side1 => repeat (first | exact (Kd.R_reads' HO_6.out).2.2 | (with_reducible refine Kd.C_alloc ?_ _) | (with_reducible refine Kd.C_drewN ?_ _) | (with_reducible refine Kd.C_drew ?_))); (case side2 => exact (Kd.R_reads' HO_6.out).2.1); rintro e w33 ⟨rfl, hb⟩; have n0_ := Aside0.mk (Kd.R_below (by (with_reducible repeat (first | apply Kd.R_alloc | apply Kd.R_drewN | apply Kd.R_drew)); exact HO_5.out) hb); have n1_ := Aside0.mk (Kd.R_below (by (with_reducible repeat (first | apply Kd.R_alloc | apply Kd.R_drewN | apply Kd.R_drew)); exact HO_6.out) hb); have n2_ := Aside0.mk (below_step (by repeat (first | (with_reducible first | exact HB.out | apply below_alloc | apply pw_below_drewN | apply below_drew1) | exact HB.out)) hb); clear HO_5; clear HO_6; clear HB; have HO_5 := n0_; have HO_6 := n1_; have HB := n2_; clear n0_ n1_ n2_; (try clear hb); (try clear hb2); (try clear hk); (try clear hi)))
          repeat (go_quiet (first | (go_at_call 19; (with_reducible refine (impl_GoodOwners.calls kj6 _ _ t522 false _ ?side1 ?side2 A30.out).mono ?_); (case side1 => repeat (first | exact (Kd.R_reads' HO_6.out).2.2 | (with_reducible refine Kd.C_alloc ?_ _) | (with_reducible refine Kd.C_drewN ?_ _) | (with_reducible refine Kd.C_drew ?_))); (case side2 => exact (Kd.R_reads' HO_6.out).2.1); rintro e w33 ⟨rfl, hb⟩; have n0_ := Aside0.mk (Kd.R_below (by (with_reducible repeat (first | apply Kd.R_alloc | apply Kd.R_drewN | apply Kd.R_drew)); exact HO_5.out) hb); have n1_ := Aside0.mk (Kd.R_below (by (with_reducible repeat (first | apply Kd.R_alloc | apply Kd.R_drewN | apply Kd.R_drew)); exact HO_6.out) hb); have n2_ := Aside0.mk (below_step (by repeat (first | (with_reducible first | exact HB.out | apply below_alloc | apply pw_below_drewN | apply below_drew1) | exact HB.out)) hb); clear HO_5; clear HO_6; clear HB; have HO_5 := n0_; have HO_6 := n1_; have HB := n2_; clear n0_ n1_ n2_; (try clear hb); (try clear hb2); (try clear hk); (try clear hi))); try go_wp2_with (first | (go_at_call 19; (with_reducible refine (impl_GoodOwners.calls kj6 _ _ t522 false _ ?side1 ?side2 A30.out).mono ?_); (case side1 => repeat (first | exact (Kd.R_reads' HO_6.out).2.2 | (with_reducible refine Kd.C_alloc ?_ _) | (with_reducible refine Kd.C_drewN ?_ _) | (with_reducible refine Kd.C_drew ?_))); (case side2 => exact (Kd.R_reads' HO_6.out).2.1); rintro e w33 ⟨rfl, hb⟩; have n0_ := Aside0.mk (Kd.R_below (by (with_reducible repeat (first | apply Kd.R_alloc | apply Kd.R_drewN | apply Kd.R_drew)); exact HO_5.out) hb); have n1_ := Aside0.mk (Kd.R_below (by (with_reducible repeat (first | apply Kd.R_alloc | apply Kd.R_drewN | apply Kd.R_drew)); exact HO_6.out) hb); have n2_ := Aside0.mk (below_step (by repeat (first | (with_reducible first | exact HB.out | apply below_alloc | apply pw_below_drewN | apply below_drew1) | exact HB.out)) hb); clear HO_5; clear HO_6; clear HB; have HO_5 := n0_; have HO_6 := n1_; have HB := n2_; clear n0_ n1_ n2_; (try clear hb); (try clear hb2); (try clear hk); (try clear hi))))
          go_meet
          case rel => exact ⟨_, (true), (by first | rfl | (simp; done) | (simp [*]; done)), H', ⟨by have := HJ6.out; first | omega | exact Nat.le_refl _⟩, ⟨by (with_reducible repeat (first | apply Kd.R_alloc | apply Kd.R_drewN | apply Kd.R_drew)); exact HO_5.out⟩, ⟨by (with_reducible repeat (first | apply Kd.R_alloc | apply Kd.R_drewN | apply Kd.R_drew)); exact HO_6.out⟩, ⟨by repeat (first | (with_reducible first | exact HB.out | apply below_alloc | apply pw_below_drewN | apply below_drew1) | exact HB.out)⟩⟩
       case rest =>
        clear HC26
        try clear c1
        try clear c2
        try clear p2
        try clear c3
        try clear c3b0
        try clear p6
        try clear c11
        try clear c12
        try clear c12b0
        try clear c12b1
        try clear c12b2
        try clear c13
        try clear c13b0
        try clear c13b1
        try clear c15
        try clear c22
        try clear c24
        try clear c29
        try clear c31
        try clear p2
        try clear p6
        obtain ⟨kq, x87_25, rfl, HA, HJ25, HO_5, HO_6, HB⟩ := hcut
        cases kq with
        | zero => exact absurd HA.out (by simp [laws_FnNames.j1])
        | succ kj25 =>
         have H := HA.out
         clear HA
         simp only [laws_FnNames.j1] at H
         by_cases c34 : x87_25 = true
         ·subst c34
          have H1 : (some false) = some r := by rw [if_pos rfl] at H; exact H
          clear H
          have H := H1
          clear H1
          obtain rfl := Option.some.inj H
          go_wp2
          repeat (go_quiet (fail); try go_wp2)
          go_ret
          exact ⟨by first | rfl | (simp [errW_none, errW_some] <;> rfl) | (simp [*, errW_none, errW_some] <;> rfl), by repeat (first | (with_reducible first | exact HB.out | apply below_alloc | apply pw_below_drewN | apply below_drew1) | exact HB.out)⟩
         ·replace c34 := Bool.eq_false_iff.mpr c34
          subst c34
          have H1 : (laws_FnNames.l0 kj25 l1 t519 t522 t519 (t519.length : Int) 0) = some r := by rw [if_neg (show ¬ (false = true) by decide)] at H; exact H
          clear H
          have H := H1
          clear H1
          have H' := Aside0.mk H
          clear H
          go_wp2
          repeat (go_quiet (fail); try go_wp2)
          go_loopg [90] kj25 (fun kq v90 w' => ∃ (x90_3 : Int), v90 = .int .i64 x90_3 ∧ Aside0 (laws_FnNames.l0 kq l1 t519 t522 t519 (t519.length : Int) x90_3 = some r) ∧ Aside0 (kq ≤ kj25) ∧ Aside0 (Kd.R k26 26 w' w.heap.size (fun k_ => some k_ ≠ ((.slice Ao27 t522.length co27) : Value).ownBlock) (.slice Ao9 t519.length co9) t519) ∧ Aside0 (Kd.R k26 26 w' w.heap.size (fun k_ => some k_ ≠ ((.slice Ao9 t519.length co9) : Value).ownBlock ∧ some k_ ≠ ((.slice Ao9 t519.length co9) : Value).ownBlock) (.slice Ao27 t522.length co27) t522) ∧ Aside0 (Kd.R k26 26 w' w.heap.size (fun k_ => some k_ ≠ ((.slice Ao27 t522.length co27) : Value).ownBlock) (.slice Ao9 t519.length co9) t519) ∧ Aside0 (Below w.heap.size w w'))
          case atStart => exact ⟨(0), (by first | rfl | (simp; done) | (simp [*]; done)), H', ⟨Nat.le_refl _⟩, ⟨by (with_reducible repeat (first | apply Kd.R_alloc | apply Kd.R_drewN | apply Kd.R_drew)); exact HO_5.out⟩, ⟨by (with_reducible repeat (first | apply Kd.R_alloc | apply Kd.R_drewN | apply Kd.R_drew)); exact Kd.R_mono HO_6.out (fun _ hk => ⟨hk, hk⟩)⟩, ⟨by (with_reducible repeat (first | apply Kd.R_alloc | apply Kd.R_drewN | apply Kd.R_drew)); exact HO_5.out⟩, ⟨by repeat (first | (with_reducible first | exact HB.out | apply below_alloc | apply pw_below_drewN | apply below_drew1) | exact HB.out)⟩⟩
          case round =>
           clear H'
           try clear c1
           try clear c2
           try clear p2
           try clear c3
           try clear c3b0
           try clear p6
           try clear c11
           try clear c12
           try clear c12b0
           try clear c12b1
           try clear c12b2
           try clear c13
           try clear c13b0
           try clear c13b1
           try clear c15
           try clear c22
           try clear c24
           try clear c29
           try clear c31
           try clear c34
           try clear p2
           try clear p6
           obtain ⟨x90_3, rfl, HA, HK3, HO_5, HO_6, HO_88, HB⟩ := hrel
           cases gk with
           | zero => exact absurd HA.out (by simp [laws_FnNames.l0])
           | succ k3 =>
            have H := HA.out
            clear HA
            simp only [laws_FnNames.l0] at H
            by_cases c35 : x90_3 < (t519.length : Int)
            ·rw [if_pos c35] at H
             have c35b0 : decide (x90_3 < (t519.length : Int)) = true := decide_eq_true c35
             clear c35
             by_cases c36 : 0 ≤ x90_3
             ·rw [if_pos c36] at H
              have c36b0 : decide (0 ≤ x90_3) = true := decide_eq_true c36
              clear c36
              by_cases c37 : x90_3 < (t519.length : Int)
              ·rw [if_pos c37] at H
               have c37b0 : decide (x90_3 < (t519.length : Int)) = true := decide_eq_true c37
               clear c37
               replace H := Option.bind_eq_some_iff.mp H
               obtain ⟨⟨t540, t541⟩, A380, H⟩ := H
               replace H : ((impl_NameOf.f k3 t522 t540).bind fun bt542 => (if t541 = true then (if bt542.2 = true then (laws_FnNames.j3 k3 l1 t519 t522 x90_3 t519 (t519.length : Int) x90_3 (bt542.1 != ((rd_T26 t519 x90_3).f1)) ((rd_T26 t519 x90_3).f0) ((rd_T26 t519 x90_3).f1) ((rd_T26 t519 x90_3).f2)) else (laws_FnNames.j3 k3 l1 t519 t522 x90_3 t519 (t519.length : Int) x90_3 true ((rd_T26 t519 x90_3).f0) ((rd_T26 t519 x90_3).f1) ((rd_T26 t519 x90_3).f2))) else (laws_FnNames.j3 k3 l1 t519 t522 x90_3 t519 (t519.length : Int) x90_3 true ((rd_T26 t519 x90_3).f0) ((rd_T26 t519 x90_3).f1) ((rd_T26 t519 x90_3).f2)))) = some r := H
               have A38 := Aside0.mk A380
               clear A380
               replace H := Option.bind_eq_some_iff.mp H
               obtain ⟨⟨t542, t543⟩, A390, H⟩ := H
               replace H : (if t541 = true then (if t543 = true then (laws_FnNames.j3 k3 l1 t519 t522 x90_3 t519 (t519.length : Int) x90_3 (t542 != ((rd_T26 t519 x90_3).f1)) ((rd_T26 t519 x90_3).f0) ((rd_T26 t519 x90_3).f1) ((rd_T26 t519 x90_3).f2)) else (laws_FnNames.j3 k3 l1 t519 t522 x90_3 t519 (t519.length : Int) x90_3 true ((rd_T26 t519 x90_3).f0) ((rd_T26 t519 x90_3).f1) ((rd_T26 t519 x90_3).f2))) else (laws_FnNames.j3 k3 l1 t519 t522 x90_3 t519 (t519.length : Int) x90_3 true ((rd_T26 t519 x90_3).f0) ((rd_T26 t519 x90_3).f1) ((rd_T26 t519 x90_3).f2))) = some r := H
               have A39 := Aside0.mk A390
               clear A390
               have HC40 := Aside0.mk H
               clear H
               have p538 : 0 ≤ (x90_3 : Int) := of_decide_eq_true (by first | (with_reducible assumption) | assumption)
               have q538 : x90_3 < (t519.length : Int) := of_decide_eq_true (by first | (with_reducible assumption) | assumption)
               obtain ⟨ad538, e538, hx538_0, hx538_1, hx538_2⟩ := at_T26 (Kd.R_reads' HO_88.out).2.2 x90_3 p538 q538
               cases e538
               replace p538 := eq_true p538
               replace q538 := eq_true q538
               go_upto_region 17 with (first | ((with_reducible refine gate_dst (N := 16) rfl ?_); (try (refine gate_guard (by rfl) ?_; dsimp only)); refine box_event ?hg (N := 16) ?hd (cs := #[.int .i64 0, .int .i64 0, .int .i64 0]) (t := 26) ?hr ?_; (case hd => rfl); (case hg => rfl); (case hr => first | (go_simp; done) | (go_simp; rfl)); intro gb539 hg w41 hbox hb; have n0_ := Aside0.mk (Kd.R_below (Kd.R_elderB (by (with_reducible repeat (first | apply Kd.R_alloc | apply Kd.R_drewN | apply Kd.R_drew)); exact HO_5.out) gb539 (Nat.le_of_eq hg.symm)) hb); have n1_ := Aside0.mk (Kd.R_below (Kd.R_elderB (by (with_reducible repeat (first | apply Kd.R_alloc | apply Kd.R_drewN | apply Kd.R_drew)); exact HO_6.out) gb539 (Nat.le_of_eq hg.symm)) hb); have n2_ := Aside0.mk (Kd.R_below (Kd.R_elderB (by (with_reducible repeat (first | apply Kd.R_alloc | apply Kd.R_drewN | apply Kd.R_drew)); exact HO_88.out) gb539 (Nat.le_of_eq hg.symm)) hb); have n3_ := Aside0.mk (below_step (by repeat (first | (with_reducible first | exact HB.out | apply below_alloc | apply pw_below_drewN | apply below_drew1) | exact HB.out)) hb); have n4_ := Aside0.mk (hbox); have n5_ := Aside0.mk ((by rw [hg]; exact (below_size (by repeat (first | (with_reducible first | exact HB.out | apply below_alloc | apply pw_below_drewN | apply below_drew1) | exact HB.out))) : w.heap.size ≤ gb539)); have n6_ := Aside0.mk ((by rw [hg]; exact (below_size (by repeat (first | (with_reducible first | exact HB.out | apply below_alloc | apply pw_below_drewN | apply below_drew1) | exact HB.out))) : w.heap.size ≤ gb539)); clear HO_5; clear HO_6; clear HO_88; clear HB; have HO_5 := n0_; have HO_6 := n1_; have HO_88 := n2_; have HB := n3_; have BK539 := n4_; have GW539 := n5_; have GE539 := n6_; clear n0_ n1_ n2_ n3_ n4_ n5_ n6_; clear hb hbox hg; have hcz42_0 : w41.cell? ⟨gb539, 0, none⟩ = some (.int .i64 0) := (blk_cell BK539.out 0).trans rfl; have hcz42_1 : w41.cell? ⟨gb539, 1, none⟩ = some (.int .i64 0) := (blk_cell BK539.out 1).trans rfl; have hcz42_2 : w41.cell? ⟨gb539, 2, none⟩ = some (.int .i64 0) := (blk_cell BK539.out 2).trans rfl; have hfz42_0 := blk_frozen BK539.out 0; have hfz42_1 := blk_frozen BK539.out 1; have hfz42_2 := blk_frozen BK539.out 2) | (go_at_call 24; (with_reducible refine (impl_WhoHas.calls k3 _ _ t519 ((rd_T26 t519 x90_3).f1) t540 t541 _ ?side1 ?side2 A38.out).mono ?_); (case side1 => refine (Kd.R_reads' (e := 26) (base := w.heap.size) (ok := fun k_ => (some k_ ≠ (.slice Ao27 t522.length co27 : Value).ownBlock ∧ k_ ≠ gb539)) (n := t519.length) (c := co9) ?_).2.2; exact (by (with_reducible repeat (first | apply Kd.R_alloc | apply Kd.R_drewN | apply Kd.R_drew)); exact (Kd.R_mono (Kd.R_far (p := ⟨gb539, 2, none⟩) (Kd.R_far (p := ⟨gb539, 1, none⟩) (Kd.R_far (p := ⟨gb539, 0, none⟩) (Kd.R_mono HO_5.out (fun k_ hk => (⟨hk, hk.2⟩ : _ ∧ k_ ≠ gb539))) (fun _ hk => hk.2) (.int .i64 ((rd_T26 t519 x90_3).f0))) (fun _ hk => hk.2) (.int .i64 ((rd_T26 t519 x90_3).f1))) (fun _ hk => hk.2) (.int .i64 ((rd_T26 t519 x90_3).f2))) (fun _ h_ => h_.1)))); (case side2 => exact (Kd.R_reads' HO_5.out).2.1); rintro e w43 ⟨rfl, hb⟩; have n0_ := Aside0.mk (Kd.R_below (by (with_reducible repeat (first | apply Kd.R_alloc | apply Kd.R_drewN | apply Kd.R_drew)); exact (Kd.R_mono (Kd.R_far (p := ⟨gb539, 2, none⟩) (Kd.R_far (p := ⟨gb539, 1, none⟩) (Kd.R_far (p := ⟨gb539, 0, none⟩) (Kd.R_mono HO_5.out (fun k_ hk => (⟨hk, hk.2⟩ : _ ∧ k_ ≠ gb539))) (fun _ hk => hk.2) (.int .i64 ((rd_T26 t519 x90_3).f0))) (fun _ hk => hk.2) (.int .i64 ((rd_T26 t519 x90_3).f1))) (fun _ hk => hk.2) (.int .i64 ((rd_T26 t519 x90_3).f2))) (fun _ h_ => h_.1))) hb); have n1_ := Aside0.mk (Kd.R_below (by (with_reducible repeat (first | apply Kd.R_alloc | apply Kd.R_drewN | apply Kd.R_drew)); exact (Kd.R_mono (Kd.R_far (p := ⟨gb539, 2, none⟩) (Kd.R_far (p := ⟨gb539, 1, none⟩) (Kd.R_far (p := ⟨gb539, 0, none⟩) (Kd.R_mono HO_6.out (fun k_ hk => (⟨hk, hk.2⟩ : _ ∧ k_ ≠ gb539))) (fun _ hk => hk.2) (.int .i64 ((rd_T26 t519 x90_3).f0))) (fun _ hk => hk.2) (.int .i64 ((rd_T26 t519 x90_3).f1))) (fun _ hk => hk.2) (.int .i64 ((rd_T26 t519 x90_3).f2))) (fun _ h_ => h_.1))) hb); have n2_ := Aside0.mk (Kd.R_below (by (with_reducible repeat (first | apply Kd.R_alloc | apply Kd.R_drewN | apply Kd.R_drew)); exact (Kd.R_mono (Kd.R_far (p := ⟨gb539, 2, none⟩) (Kd.R_far (p := ⟨gb539, 1, none⟩) (Kd.R_far (p := ⟨gb539, 0, none⟩) (Kd.R_mono HO_88.out (fun k_ hk => (⟨hk, hk.2⟩ : _ ∧ k_ ≠ gb539))) (fun _ hk => hk.2) (.int .i64 ((rd_T26 t519 x90_3).f0))) (fun _ hk => hk.2) (.int .i64 ((rd_T26 t519 x90_3).f1))) (fun _ hk => hk.2) (.int .i64 ((rd_T26 t519 x90_3).f2))) (fun _ h_ => h_.1))) hb); have n3_ := Aside0.mk (blk_below (g := gb539) (o := .cells #[.int .i64 ((rd_T26 t519 x90_3).f0), .int .i64 ((rd_T26 t519 x90_3).f1), .int .i64 ((rd_T26 t519 x90_3).f2)] 26 (0, 0)) (by (with_reducible repeat (first | refine blk_drewN ?_ _ | refine blk_drew ?_ | refine blk_alloc ?_ _)); refine blk_put (cs := #[.int .i64 ((rd_T26 t519 x90_3).f0), .int .i64 ((rd_T26 t519 x90_3).f1), .int .i64 0]) ?_ 2 _ rfl; (with_reducible repeat (first | refine blk_drewN ?_ _ | refine blk_drew ?_ | refine blk_alloc ?_ _)); refine blk_put (cs := #[.int .i64 ((rd_T26 t519 x90_3).f0), .int .i64 0, .int .i64 0]) ?_ 1 _ rfl; (with_reducible repeat (first | refine blk_drewN ?_ _ | refine blk_drew ?_ | refine blk_alloc ?_ _)); refine blk_put (cs := #[.int .i64 0, .int .i64 0, .int .i64 0]) ?_ 0 _ rfl; (with_reducible repeat (first | refine blk_drewN ?_ _ | refine blk_drew ?_ | refine blk_alloc ?_ _)); exact BK539.out) hb); have n4_ := Aside0.mk (below_step (by repeat (first | (with_reducible first | exact HB.out | apply below_alloc | apply pw_below_drewN | apply below_drew1 | refine below_set ?_ GE539.out) | exact HB.out)) hb); clear HO_5; clear HO_6; clear HO_88; clear BK539; clear HB; have HO_5 := n0_; have HO_6 := n1_; have HO_88 := n2_; have BK539 := n3_; have HB := n4_; clear n0_ n1_ n2_ n3_ n4_; (try clear hb); (try clear hb2); (try clear hk); (try clear hi)) | (go_at_call 22; (with_reducible refine (impl_NameOf.calls k3 _ _ t522 t540 t542 t543 _ ?side1 ?side2 A39.out).mono ?_); (case side1 => repeat (first | exact (Kd.R_reads' HO_6.out).2.2 | (with_reducible refine Kd.C_alloc ?_ _) | (with_reducible refine Kd.C_drewN ?_ _) | (with_reducible refine Kd.C_drew ?_))); (case side2 => exact (Kd.R_reads' HO_6.out).2.1); rintro e w44 ⟨rfl, hb⟩; have n0_ := Aside0.mk (Kd.R_below (by (with_reducible repeat (first | apply Kd.R_alloc | apply Kd.R_drewN | apply Kd.R_drew)); exact HO_5.out) hb); have n1_ := Aside0.mk (Kd.R_below (by (with_reducible repeat (first | apply Kd.R_alloc | apply Kd.R_drewN | apply Kd.R_drew)); exact HO_6.out) hb); have n2_ := Aside0.mk (Kd.R_below (by (with_reducible repeat (first | apply Kd.R_alloc | apply Kd.R_drewN | apply Kd.R_drew)); exact HO_88.out) hb); have n3_ := Aside0.mk (blk_below (g := gb539) (o := .cells #[.int .i64 ((rd_T26 t519 x90_3).f0), .int .i64 ((rd_T26 t519 x90_3).f1), .int .i64 ((rd_T26 t519 x90_3).f2)] 26 (0, 0)) (by (with_reducible repeat (first | refine blk_drewN ?_ _ | refine blk_drew ?_ | refine blk_alloc ?_ _)); exact BK539.out) hb); have n4_ := Aside0.mk (below_step (by repeat (first | (with_reducible first | exact HB.out | apply below_alloc | apply pw_below_drewN | apply below_drew1 | refine below_set ?_ GE539.out) | exact HB.out)) hb); clear HO_5; clear HO_6; clear HO_88; clear BK539; clear HB; have HO_5 := n0_; have HO_6 := n1_; have HO_88 := n2_; have BK539 := n3_; have HB := n4_; clear n0_ n1_ n2_ n3_ n4_; (try clear hb); (try clear hb2); (try clear hk); (try clear hi)))
               repeat (go_quiet (first | ((with_reducible refine gate_dst (N := 16) rfl ?_); (try (refine gate_guard (by rfl) ?_; dsimp only)); refine box_event ?hg (N := 16) ?hd (cs := #[.int .i64 0, .int .i64 0, .int .i64 0]) (t := 26) ?hr ?_; (case hd => rfl); (case hg => rfl); (case hr => first | (go_simp; done) | (go_simp; rfl)); intro gb539 hg w41 hbox hb; have n0_ := Aside0.mk (Kd.R_below (Kd.R_elderB (by (with_reducible repeat (first | apply Kd.R_alloc | apply Kd.R_drewN | apply Kd.R_drew)); exact HO_5.out) gb539 (Nat.le_of_eq hg.symm)) hb); have n1_ := Aside0.mk (Kd.R_below (Kd.R_elderB (by (with_reducible repeat (first | apply Kd.R_alloc | apply Kd.R_drewN | apply Kd.R_drew)); exact HO_6.out) gb539 (Nat.le_of_eq hg.symm)) hb); have n2_ := Aside0.mk (Kd.R_below (Kd.R_elderB (by (with_reducible repeat (first | apply Kd.R_alloc | apply Kd.R_drewN | apply Kd.R_drew)); exact HO_88.out) gb539 (Nat.le_of_eq hg.symm)) hb); have n3_ := Aside0.mk (below_step (by repeat (first | (with_reducible first | exact HB.out | apply below_alloc | apply pw_below_drewN | apply below_drew1) | exact HB.out)) hb); have n4_ := Aside0.mk (hbox); have n5_ := Aside0.mk ((by rw [hg]; exact (below_size (by repeat (first | (with_reducible first | exact HB.out | apply below_alloc | apply pw_below_drewN | apply below_drew1) | exact HB.out))) : w.heap.size ≤ gb539)); have n6_ := Aside0.mk ((by rw [hg]; exact (below_size (by repeat (first | (with_reducible first | exact HB.out | apply below_alloc | apply pw_below_drewN | apply below_drew1) | exact HB.out))) : w.heap.size ≤ gb539)); clear HO_5; clear HO_6; clear HO_88; clear HB; have HO_5 := n0_; have HO_6 := n1_; have HO_88 := n2_; have HB := n3_; have BK539 := n4_; have GW539 := n5_; have GE539 := n6_; clear n0_ n1_ n2_ n3_ n4_ n5_ n6_; clear hb hbox hg; have hcz42_0 : w41.cell? ⟨gb539, 0, none⟩ = some (.int .i64 0) := (blk_cell BK539.out 0).trans rfl; have hcz42_1 : w41.cell? ⟨gb539, 1, none⟩ = some (.int .i64 0) := (blk_cell BK539.out 1).trans rfl; have hcz42_2 : w41.cell? ⟨gb539, 2, none⟩ = some (.int .i64 0) := (blk_cell BK539.out 2).trans rfl; have hfz42_0 := blk_frozen BK539.out 0; have hfz42_1 := blk_frozen BK539.out 1; have hfz42_2 := blk_frozen BK539.out 2) | (go_at_call 24; (with_reducible refine (impl_WhoHas.calls k3 _ _ t519 ((rd_T26 t519 x90_3).f1) t540 t541 _ ?side1 ?side2 A38.out).mono ?_); (case side1 => refine (Kd.R_reads' (e := 26) (base := w.heap.size) (ok := fun k_ => (some k_ ≠ (.slice Ao27 t522.length co27 : Value).ownBlock ∧ k_ ≠ gb539)) (n := t519.length) (c := co9) ?_).2.2; exact (by (with_reducible repeat (first | apply Kd.R_alloc | apply Kd.R_drewN | apply Kd.R_drew)); exact (Kd.R_mono (Kd.R_far (p := ⟨gb539, 2, none⟩) (Kd.R_far (p := ⟨gb539, 1, none⟩) (Kd.R_far (p := ⟨gb539, 0, none⟩) (Kd.R_mono HO_5.out (fun k_ hk => (⟨hk, hk.2⟩ : _ ∧ k_ ≠ gb539))) (fun _ hk => hk.2) (.int .i64 ((rd_T26 t519 x90_3).f0))) (fun _ hk => hk.2) (.int .i64 ((rd_T26 t519 x90_3).f1))) (fun _ hk => hk.2) (.int .i64 ((rd_T26 t519 x90_3).f2))) (fun _ h_ => h_.1)))); (case side2 => exact (Kd.R_reads' HO_5.out).2.1); rintro e w43 ⟨rfl, hb⟩; have n0_ := Aside0.mk (Kd.R_below (by (with_reducible repeat (first | apply Kd.R_alloc | apply Kd.R_drewN | apply Kd.R_drew)); exact (Kd.R_mono (Kd.R_far (p := ⟨gb539, 2, none⟩) (Kd.R_far (p := ⟨gb539, 1, none⟩) (Kd.R_far (p := ⟨gb539, 0, none⟩) (Kd.R_mono HO_5.out (fun k_ hk => (⟨hk, hk.2⟩ : _ ∧ k_ ≠ gb539))) (fun _ hk => hk.2) (.int .i64 ((rd_T26 t519 x90_3).f0))) (fun _ hk => hk.2) (.int .i64 ((rd_T26 t519 x90_3).f1))) (fun _ hk => hk.2) (.int .i64 ((rd_T26 t519 x90_3).f2))) (fun _ h_ => h_.1))) hb); have n1_ := Aside0.mk (Kd.R_below (by (with_reducible repeat (first | apply Kd.R_alloc | apply Kd.R_drewN | apply Kd.R_drew)); exact (Kd.R_mono (Kd.R_far (p := ⟨gb539, 2, none⟩) (Kd.R_far (p := ⟨gb539, 1, none⟩) (Kd.R_far (p := ⟨gb539, 0, none⟩) (Kd.R_mono HO_6.out (fun k_ hk => (⟨hk, hk.2⟩ : _ ∧ k_ ≠ gb539))) (fun _ hk => hk.2) (.int .i64 ((rd_T26 t519 x90_3).f0))) (fun _ hk => hk.2) (.int .i64 ((rd_T26 t519 x90_3).f1))) (fun _ hk => hk.2) (.int .i64 ((rd_T26 t519 x90_3).f2))) (fun _ h_ => h_.1))) hb); have n2_ := Aside0.mk (Kd.R_below (by (with_reducible repeat (first | apply Kd.R_alloc | apply Kd.R_drewN | apply Kd.R_drew)); exact (Kd.R_mono (Kd.R_far (p := ⟨gb539, 2, none⟩) (Kd.R_far (p := ⟨gb539, 1, none⟩) (Kd.R_far (p := ⟨gb539, 0, none⟩) (Kd.R_mono HO_88.out (fun k_ hk => (⟨hk, hk.2⟩ : _ ∧ k_ ≠ gb539))) (fun _ hk => hk.2) (.int .i64 ((rd_T26 t519 x90_3).f0))) (fun _ hk => hk.2) (.int .i64 ((rd_T26 t519 x90_3).f1))) (fun _ hk => hk.2) (.int .i64 ((rd_T26 t519 x90_3).f2))) (fun _ h_ => h_.1))) hb); have n3_ := Aside0.mk (blk_below (g := gb539) (o := .cells #[.int .i64 ((rd_T26 t519 x90_3).f0), .int .i64 ((rd_T26 t519 x90_3).f1), .int .i64 ((rd_T26 t519 x90_3).f2)] 26 (0, 0)) (by (with_reducible repeat (first | refine blk_drewN ?_ _ | refine blk_drew ?_ | refine blk_alloc ?_ _)); refine blk_put (cs := #[.int .i64 ((rd_T26 t519 x90_3).f0), .int .i64 ((rd_T26 t519 x90_3).f1), .int .i64 0]) ?_ 2 _ rfl; (with_reducible repeat (first | refine blk_drewN ?_ _ | refine blk_drew ?_ | refine blk_alloc ?_ _)); refine blk_put (cs := #[.int .i64 ((rd_T26 t519 x90_3).f0), .int .i64 0, .int .i64 0]) ?_ 1 _ rfl; (with_reducible repeat (first | refine blk_drewN ?_ _ | refine blk_drew ?_ | refine blk_alloc ?_ _)); refine blk_put (cs := #[.int .i64 0, .int .i64 0, .int .i64 0]) ?_ 0 _ rfl; (with_reducible repeat (first | refine blk_drewN ?_ _ | refine blk_drew ?_ | refine blk_alloc ?_ _)); exact BK539.out) hb); have n4_ := Aside0.mk (below_step (by repeat (first | (with_reducible first | exact HB.out | apply below_alloc | apply pw_below_drewN | apply below_drew1 | refine below_set ?_ GE539.out) | exact HB.out)) hb); clear HO_5; clear HO_6; clear HO_88; clear BK539; clear HB; have HO_5 := n0_; have HO_6 := n1_; have HO_88 := n2_; have BK539 := n3_; have HB := n4_; clear n0_ n1_ n2_ n3_ n4_; (try clear hb); (try clear hb2); (try clear hk); (try clear hi)) | (go_at_call 22; (with_reducible refine (impl_NameOf.calls k3 _ _ t522 t540 t542 t543 _ ?side1 ?side2 A39.out).mono ?_); (case side1 => repeat (first | exact (Kd.R_reads' HO_6.out).2.2 | (with_reducible refine Kd.C_alloc ?_ _) | (with_reducible refine Kd.C_drewN ?_ _) | (with_reducible refine Kd.C_drew ?_))); (case side2 => exact (Kd.R_reads' HO_6.out).2.1); rintro e w44 ⟨rfl, hb⟩; have n0_ := Aside0.mk (Kd.R_below (by (with_reducible repeat (first | apply Kd.R_alloc | apply Kd.R_drewN | apply Kd.R_drew)); exact HO_5.out) hb); have n1_ := Aside0.mk (Kd.R_below (by (with_reducible repeat (first | apply Kd.R_alloc | apply Kd.R_drewN | apply Kd.R_drew)); exact HO_6.out) hb); have n2_ := Aside0.mk (Kd.R_below (by (with_reducible repeat (first | apply Kd.R_alloc | apply Kd.R_drewN | apply Kd.R_drew)); exact HO_88.out) hb); have n3_ := Aside0.mk (blk_below (g := gb539) (o := .cells #[.int .i64 ((rd_T26 t519 x90_3).f0), .int .i64 ((rd_T26 t519 x90_3).f1), .int .i64 ((rd_T26 t519 x90_3).f2)] 26 (0, 0)) (by (with_reducible repeat (first | refine blk_drewN ?_ _ | refine blk_drew ?_ | refine blk_alloc ?_ _)); exact BK539.out) hb); have n4_ := Aside0.mk (below_step (by repeat (first | (with_reducible first | exact HB.out | apply below_alloc | apply pw_below_drewN | apply below_drew1 | refine below_set ?_ GE539.out) | exact HB.out)) hb); clear HO_5; clear HO_6; clear HO_88; clear BK539; clear HB; have HO_5 := n0_; have HO_6 := n1_; have HO_88 := n2_; have BK539 := n3_; have HB := n4_; clear n0_ n1_ n2_ n3_ n4_; (try clear hb); (try clear hb2); (try clear hk); (try clear hi))); go_upto_region 17 with (first | ((with_reducible refine gate_dst (N := 16) rfl ?_); (try (refine gate_guard (by rfl) ?_; dsimp only)); refine box_event ?hg (N := 16) ?hd (cs := #[.int .i64 0, .int .i64 0, .int .i64 0]) (t := 26) ?hr ?_; (case hd => rfl); (case hg => rfl); (case hr => first | (go_simp; done) | (go_simp; rfl)); intro gb539 hg w41 hbox hb; have n0_ := Aside0.mk (Kd.R_below (Kd.R_elderB (by (with_reducible repeat (first | apply Kd.R_alloc | apply Kd.R_drewN | apply Kd.R_drew)); exact HO_5.out) gb539 (Nat.le_of_eq hg.symm)) hb); have n1_ := Aside0.mk (Kd.R_below (Kd.R_elderB (by (with_reducible repeat (first | apply Kd.R_alloc | apply Kd.R_drewN | apply Kd.R_drew)); exact HO_6.out) gb539 (Nat.le_of_eq hg.symm)) hb); have n2_ := Aside0.mk (Kd.R_below (Kd.R_elderB (by (with_reducible repeat (first | apply Kd.R_alloc | apply Kd.R_drewN | apply Kd.R_drew)); exact HO_88.out) gb539 (Nat.le_of_eq hg.symm)) hb); have n3_ := Aside0.mk (below_step (by repeat (first | (with_reducible first | exact HB.out | apply below_alloc | apply pw_below_drewN | apply below_drew1) | exact HB.out)) hb); have n4_ := Aside0.mk (hbox); have n5_ := Aside0.mk ((by rw [hg]; exact (below_size (by repeat (first | (with_reducible first | exact HB.out | apply below_alloc | apply pw_below_drewN | apply below_drew1) | exact HB.out))) : w.heap.size ≤ gb539)); have n6_ := Aside0.mk ((by rw [hg]; exact (below_size (by repeat (first | (with_reducible first | exact HB.out | apply below_alloc | apply pw_below_drewN | apply below_drew1) | exact HB.out))) : w.heap.size ≤ gb539)); clear HO_5; clear HO_6; clear HO_88; clear HB; have HO_5 := n0_; have HO_6 := n1_; have HO_88 := n2_; have HB := n3_; have BK539 := n4_; have GW539 := n5_; have GE539 := n6_; clear n0_ n1_ n2_ n3_ n4_ n5_ n6_; clear hb hbox hg; have hcz42_0 : w41.cell? ⟨gb539, 0, none⟩ = some (.int .i64 0) := (blk_cell BK539.out 0).trans rfl; have hcz42_1 : w41.cell? ⟨gb539, 1, none⟩ = some (.int .i64 0) := (blk_cell BK539.out 1).trans rfl; have hcz42_2 : w41.cell? ⟨gb539, 2, none⟩ = some (.int .i64 0) := (blk_cell BK539.out 2).trans rfl; have hfz42_0 := blk_frozen BK539.out 0; have hfz42_1 := blk_frozen BK539.out 1; have hfz42_2 := blk_frozen BK539.out 2) | (go_at_call 24; (with_reducible refine (impl_WhoHas.calls k3 _ _ t519 ((rd_T26 t519 x90_3).f1) t540 t541 _ ?side1 ?side2 A38.out).mono ?_); (case side1 => refine (Kd.R_reads' (e := 26) (base := w.heap.size) (ok := fun k_ => (some k_ ≠ (.slice Ao27 t522.length co27 : Value).ownBlock ∧ k_ ≠ gb539)) (n := t519.length) (c := co9) ?_).2.2; exact (by (with_reducible repeat (first | apply Kd.R_alloc | apply Kd.R_drewN | apply Kd.R_drew)); exact (Kd.R_mono (Kd.R_far (p := ⟨gb539, 2, none⟩) (Kd.R_far (p := ⟨gb539, 1, none⟩) (Kd.R_far (p := ⟨gb539, 0, none⟩) (Kd.R_mono HO_5.out (fun k_ hk => (⟨hk, hk.2⟩ : _ ∧ k_ ≠ gb539))) (fun _ hk => hk.2) (.int .i64 ((rd_T26 t519 x90_3).f0))) (fun _ hk => hk.2) (.int .i64 ((rd_T26 t519 x90_3).f1))) (fun _ hk => hk.2) (.int .i64 ((rd_T26 t519 x90_3).f2))) (fun _ h_ => h_.1)))); (case side2 => exact (Kd.R_reads' HO_5.out).2.1); rintro e w43 ⟨rfl, hb⟩; have n0_ := Aside0.mk (Kd.R_below (by (with_reducible repeat (first | apply Kd.R_alloc | apply Kd.R_drewN | apply Kd.R_drew)); exact (Kd.R_mono (Kd.R_far (p := ⟨gb539, 2, none⟩) (Kd.R_far (p := ⟨gb539, 1, none⟩) (Kd.R_far (p := ⟨gb539, 0, none⟩) (Kd.R_mono HO_5.out (fun k_ hk => (⟨hk, hk.2⟩ : _ ∧ k_ ≠ gb539))) (fun _ hk => hk.2) (.int .i64 ((rd_T26 t519 x90_3).f0))) (fun _ hk => hk.2) (.int .i64 ((rd_T26 t519 x90_3).f1))) (fun _ hk => hk.2) (.int .i64 ((rd_T26 t519 x90_3).f2))) (fun _ h_ => h_.1))) hb); have n1_ := Aside0.mk (Kd.R_below (by (with_reducible repeat (first | apply Kd.R_alloc | apply Kd.R_drewN | apply Kd.R_drew)); exact (Kd.R_mono (Kd.R_far (p := ⟨gb539, 2, none⟩) (Kd.R_far (p := ⟨gb539, 1, none⟩) (Kd.R_far (p := ⟨gb539, 0, none⟩) (Kd.R_mono HO_6.out (fun k_ hk => (⟨hk, hk.2⟩ : _ ∧ k_ ≠ gb539))) (fun _ hk => hk.2) (.int .i64 ((rd_T26 t519 x90_3).f0))) (fun _ hk => hk.2) (.int .i64 ((rd_T26 t519 x90_3).f1))) (fun _ hk => hk.2) (.int .i64 ((rd_T26 t519 x90_3).f2))) (fun _ h_ => h_.1))) hb); have n2_ := Aside0.mk (Kd.R_below (by (with_reducible repeat (first | apply Kd.R_alloc | apply Kd.R_drewN | apply Kd.R_drew)); exact (Kd.R_mono (Kd.R_far (p := ⟨gb539, 2, none⟩) (Kd.R_far (p := ⟨gb539, 1, none⟩) (Kd.R_far (p := ⟨gb539, 0, none⟩) (Kd.R_mono HO_88.out (fun k_ hk => (⟨hk, hk.2⟩ : _ ∧ k_ ≠ gb539))) (fun _ hk => hk.2) (.int .i64 ((rd_T26 t519 x90_3).f0))) (fun _ hk => hk.2) (.int .i64 ((rd_T26 t519 x90_3).f1))) (fun _ hk => hk.2) (.int .i64 ((rd_T26 t519 x90_3).f2))) (fun _ h_ => h_.1))) hb); have n3_ := Aside0.mk (blk_below (g := gb539) (o := .cells #[.int .i64 ((rd_T26 t519 x90_3).f0), .int .i64 ((rd_T26 t519 x90_3).f1), .int .i64 ((rd_T26 t519 x90_3).f2)] 26 (0, 0)) (by (with_reducible repeat (first | refine blk_drewN ?_ _ | refine blk_drew ?_ | refine blk_alloc ?_ _)); refine blk_put (cs := #[.int .i64 ((rd_T26 t519 x90_3).f0), .int .i64 ((rd_T26 t519 x90_3).f1), .int .i64 0]) ?_ 2 _ rfl; (with_reducible repeat (first | refine blk_drewN ?_ _ | refine blk_drew ?_ | refine blk_alloc ?_ _)); refine blk_put (cs := #[.int .i64 ((rd_T26 t519 x90_3).f0), .int .i64 0, .int .i64 0]) ?_ 1 _ rfl; (with_reducible repeat (first | refine blk_drewN ?_ _ | refine blk_drew ?_ | refine blk_alloc ?_ _)); refine blk_put (cs := #[.int .i64 0, .int .i64 0, .int .i64 0]) ?_ 0 _ rfl; (with_reducible repeat (first | refine blk_drewN ?_ _ | refine blk_drew ?_ | refine blk_alloc ?_ _)); exact BK539.out) hb); have n4_ := Aside0.mk (below_step (by repeat (first | (with_reducible first | exact HB.out | apply below_alloc | apply pw_below_drewN | apply below_drew1 | refine below_set ?_ GE539.out) | exact HB.out)) hb); clear HO_5; clear HO_6; clear HO_88; clear BK539; clear HB; have HO_5 := n0_; have HO_6 := n1_; have HO_88 := n2_; have BK539 := n3_; have HB := n4_; clear n0_ n1_ n2_ n3_ n4_; (try clear hb); (try clear hb2); (try clear hk); (try clear hi)) | (go_at_call 22; (with_reducible refine (impl_NameOf.calls k3 _ _ t522 t540 t542 t543 _ ?side1 ?side2 A39.out).mono ?_); (case side1 => repeat (first | exact (Kd.R_reads' HO_6.out).2.2 | (with_reducible refine Kd.C_alloc ?_ _) | (with_reducible refine Kd.C_drewN ?_ _) | (with_reducible refine Kd.C_drew ?_))); (case side2 => exact (Kd.R_reads' HO_6.out).2.1); rintro e w44 ⟨rfl, hb⟩; have n0_ := Aside0.mk (Kd.R_below (by (with_reducible repeat (first | apply Kd.R_alloc | apply Kd.R_drewN | apply Kd.R_drew)); exact HO_5.out) hb); have n1_ := Aside0.mk (Kd.R_below (by (with_reducible repeat (first | apply Kd.R_alloc | apply Kd.R_drewN | apply Kd.R_drew)); exact HO_6.out) hb); have n2_ := Aside0.mk (Kd.R_below (by (with_reducible repeat (first | apply Kd.R_alloc | apply Kd.R_drewN | apply Kd.R_drew)); exact HO_88.out) hb); have n3_ := Aside0.mk (blk_below (g := gb539) (o := .cells #[.int .i64 ((rd_T26 t519 x90_3).f0), .int .i64 ((rd_T26 t519 x90_3).f1), .int .i64 ((rd_T26 t519 x90_3).f2)] 26 (0, 0)) (by (with_reducible repeat (first | refine blk_drewN ?_ _ | refine blk_drew ?_ | refine blk_alloc ?_ _)); exact BK539.out) hb); have n4_ := Aside0.mk (below_step (by repeat (first | (with_reducible first | exact HB.out | apply below_alloc | apply pw_below_drewN | apply below_drew1 | refine below_set ?_ GE539.out) | exact HB.out)) hb); clear HO_5; clear HO_6; clear HO_88; clear BK539; clear HB; have HO_5 := n0_; have HO_6 := n1_; have HO_88 := n2_; have BK539 := n3_; have HB := n4_; clear n0_ n1_ n2_ n3_ n4_; (try clear hb); (try clear hb2); (try clear hk); (try clear hi))))
               (try simp only [Act.put, List.setIfInBounds_toArray, List.set_cons_zero, List.set_cons_succ])
               go_cut [119] (fun v119 wc => ∃ (kq : Nat) (x119_39 : Bool), v119 = .bool x119_39 ∧ Aside0 (laws_FnNames.j3 kq l1 t519 t522 x90_3 t519 (t519.length : Int) x90_3 x119_39 ((rd_T26 t519 x90_3).f0) ((rd_T26 t519 x90_3).f1) ((rd_T26 t519 x90_3).f2) = some r) ∧ Aside0 (kq ≤ k3) ∧ Aside0 (Kd.R k26 26 wc w.heap.size (fun k_ => some k_ ≠ ((.slice Ao27 t522.length co27) : Value).ownBlock ∧ k_ ≠ gb539) (.slice (some ad538) t519.length co9) t519) ∧ Aside0 (Kd.R k26 26 wc w.heap.size (fun k_ => some k_ ≠ ((.slice (some ad538) t519.length co9) : Value).ownBlock ∧ some k_ ≠ ((.slice (some ad538) t519.length co9) : Value).ownBlock ∧ k_ ≠ gb539) (.slice Ao27 t522.length co27) t522) ∧ Aside0 (Kd.R k26 26 wc w.heap.size (fun k_ => some k_ ≠ ((.slice Ao27 t522.length co27) : Value).ownBlock ∧ k_ ≠ gb539) (.slice (some ad538) t519.length co9) t519) ∧ Aside0 (wc.heap[gb539]? = some (.cells #[.int .i64 ((rd_T26 t519 x90_3).f0), .int .i64 ((rd_T26 t519 x90_3).f1), .int .i64 ((rd_T26 t519 x90_3).f2)] 26 (0, 0))) ∧ Aside0 (Below w.heap.size w wc))
               case first =>
                have H := HC40.out
                clear HC40
                by_cases c45 : t541 = true
                ·subst c45
                 have H1 : (if t543 = true then (laws_FnNames.j3 k3 l1 t519 t522 x90_3 t519 (t519.length : Int) x90_3 (t542 != ((rd_T26 t519 x90_3).f1)) ((rd_T26 t519 x90_3).f0) ((rd_T26 t519 x90_3).f1) ((rd_T26 t519 x90_3).f2)) else (laws_FnNames.j3 k3 l1 t519 t522 x90_3 t519 (t519.length : Int) x90_3 true ((rd_T26 t519 x90_3).f0) ((rd_T26 t519 x90_3).f1) ((rd_T26 t519 x90_3).f2))) = some r := by rw [if_pos rfl] at H; exact H
                 clear H
                 have H := H1
                 clear H1
                 by_cases c46 : t543 = true
                 ·subst c46
                  have H1 : (laws_FnNames.j3 k3 l1 t519 t522 x90_3 t519 (t519.length : Int) x90_3 (t542 != ((rd_T26 t519 x90_3).f1)) ((rd_T26 t519 x90_3).f0) ((rd_T26 t519 x90_3).f1) ((rd_T26 t519 x90_3).f2)) = some r := by rw [if_pos rfl] at H; exact H
                  clear H
                  have H := H1
                  clear H1
                  have H' := Aside0.mk H
                  clear H
                  have hcz47_0 : w44.cell? ⟨gb539, 0, none⟩ = some (.int .i64 ((rd_T26 t519 x90_3).f0)) := (blk_cell BK539.out 0).trans rfl
                  have hcz47_1 : w44.cell? ⟨gb539, 1, none⟩ = some (.int .i64 ((rd_T26 t519 x90_3).f1)) := (blk_cell BK539.out 1).trans rfl
                  have hcz47_2 : w44.cell? ⟨gb539, 2, none⟩ = some (.int .i64 ((rd_T26 t519 x90_3).f2)) := (blk_cell BK539.out 2).trans rfl
                  have hfz47_0 := blk_frozen BK539.out 0
                  have hfz47_1 := blk_frozen BK539.out 1
                  have hfz47_2 := blk_frozen BK539.out 2
                  go_wp2
                  repeat (go_quiet (fail); try go_wp2)
                  go_meet
                  case rel => exact ⟨_, ((t542 != ((rd_T26 t519 x90_3).f1))), (by first | rfl | (simp; done) | (simp [*]; done)), H', ⟨by have := HJ6.out; have := HJ25.out; have := HK3.out; first | omega | exact Nat.le_refl _⟩, ⟨by (with_reducible repeat (first | apply Kd.R_alloc | apply Kd.R_drewN | apply Kd.R_drew)); exact HO_5.out⟩, ⟨by (with_reducible repeat (first | apply Kd.R_alloc | apply Kd.R_drewN | apply Kd.R_drew)); exact Kd.R_mono HO_6.out (fun _ hk => ⟨hk.1.1, ⟨hk.1.2, hk.2⟩⟩)⟩, ⟨by (with_reducible repeat (first | apply Kd.R_alloc | apply Kd.R_drewN | apply Kd.R_drew)); exact HO_88.out⟩, ⟨by (with_reducible repeat (first | refine blk_drewN ?_ _ | refine blk_drew ?_ | refine blk_alloc ?_ _)); exact BK539.out⟩, ⟨by repeat (first | (with_reducible first | exact HB.out | apply below_alloc | apply pw_below_drewN | apply below_drew1 | refine below_set ?_ GE539.out) | exact HB.out)⟩⟩
                 ·replace c46 := Bool.eq_false_iff.mpr c46
                  subst c46
                  have H1 : (laws_FnNames.j3 k3 l1 t519 t522 x90_3 t519 (t519.length : Int) x90_3 true ((rd_T26 t519 x90_3).f0) ((rd_T26 t519 x90_3).f1) ((rd_T26 t519 x90_3).f2)) = some r := by rw [if_neg (show ¬ (false = true) by decide)] at H; exact H
                  clear H
                  have H := H1
                  clear H1
                  have H' := Aside0.mk H
                  clear H
                  go_wp2
                  repeat (go_quiet (fail); try go_wp2)
                  go_meet
                  case rel => exact ⟨_, (true), (by first | rfl | (simp; done) | (simp [*]; done)), H', ⟨by have := HJ6.out; have := HJ25.out; have := HK3.out; first | omega | exact Nat.le_refl _⟩, ⟨by (with_reducible repeat (first | apply Kd.R_alloc | apply Kd.R_drewN | apply Kd.R_drew)); exact HO_5.out⟩, ⟨by (with_reducible repeat (first | apply Kd.R_alloc | apply Kd.R_drewN | apply Kd.R_drew)); exact Kd.R_mono HO_6.out (fun _ hk => ⟨hk.1.1, ⟨hk.1.2, hk.2⟩⟩)⟩, ⟨by (with_reducible repeat (first | apply Kd.R_alloc | apply Kd.R_drewN | apply Kd.R_drew)); exact HO_88.out⟩, ⟨by (with_reducible repeat (first | refine blk_drewN ?_ _ | refine blk_drew ?_ | refine blk_alloc ?_ _)); exact BK539.out⟩, ⟨by repeat (first | (with_reducible first | exact HB.out | apply below_alloc | apply pw_below_drewN | apply below_drew1 | refine below_set ?_ GE539.out) | exact HB.out)⟩⟩
                ·replace c45 := Bool.eq_false_iff.mpr c45
                 subst c45
                 have H1 : (laws_FnNames.j3 k3 l1 t519 t522 x90_3 t519 (t519.length : Int) x90_3 true ((rd_T26 t519 x90_3).f0) ((rd_T26 t519 x90_3).f1) ((rd_T26 t519 x90_3).f2)) = some r := by rw [if_neg (show ¬ (false = true) by decide)] at H; exact H
                 clear H
                 have H := H1
                 clear H1
                 have H' := Aside0.mk H
                 clear H
                 go_wp2
                 repeat (go_quiet (fail); try go_wp2)
                 go_meet
                 case rel => exact ⟨_, (true), (by first | rfl | (simp; done) | (simp [*]; done)), H', ⟨by have := HJ6.out; have := HJ25.out; have := HK3.out; first | omega | exact Nat.le_refl _⟩, ⟨by (with_reducible repeat (first | apply Kd.R_alloc | apply Kd.R_drewN | apply Kd.R_drew)); exact HO_5.out⟩, ⟨by (with_reducible repeat (first | apply Kd.R_alloc | apply Kd.R_drewN | apply Kd.R_drew)); exact Kd.R_mono HO_6.out (fun _ hk => ⟨hk.1.1, ⟨hk.1.2, hk.2⟩⟩)⟩, ⟨by (with_reducible repeat (first | apply Kd.R_alloc | apply Kd.R_drewN | apply Kd.R_drew)); exact HO_88.out⟩, ⟨by (with_reducible repeat (first | refine blk_drewN ?_ _ | refine blk_drew ?_ | refine blk_alloc ?_ _)); exact BK539.out⟩, ⟨by repeat (first | (with_reducible first | exact HB.out | apply below_alloc | apply pw_below_drewN | apply below_drew1 | refine below_set ?_ GE539.out) | exact HB.out)⟩⟩
               case rest =>
                clear HC40
                try clear c1
                try clear c2
                try clear p2
                try clear c3
                try clear c3b0
                try clear c4
                try clear p5
                try clear q5
                try clear hx5
                try clear p6
                try clear c11
                try clear c12
                try clear c12b0
                try clear c12b1
                try clear c12b2
                try clear c13
                try clear c13b0
                try clear c13b1
                try clear c15
                try clear c22
                try clear c24
                try clear c29
                try clear c31
                try clear c34
                try clear c35
                try clear c35b0
                try clear c36
                try clear c36b0
                try clear c37
                try clear c37b0
                try clear c45
                try clear c46
                try clear hcz42_0
                try clear hcz42_1
                try clear hcz42_2
                try clear hcz47_0
                try clear hcz47_1
                try clear hcz47_2
                try clear hfz42_0
                try clear hfz42_1
                try clear hfz42_2
                try clear hfz47_0
                try clear hfz47_1
                try clear hfz47_2
                try clear hx538_0
                try clear hx538_1
                try clear hx538_2
                try clear p2
                try clear p538
                try clear p6
                try clear q538
                obtain ⟨kq, x119_39, rfl, HA, HJ39, HO_5, HO_6, HO_88, BK539, HB⟩ := hcut
                cases kq with
                | zero => exact absurd HA.out (by simp [laws_FnNames.j3])
                | succ kj39 =>
                 have H := HA.out
                 clear HA
                 simp only [laws_FnNames.j3] at H
                 by_cases c48 : x119_39 = true
                 ·subst c48
                  have H1 : (some false) = some r := by rw [if_pos rfl] at H; exact H
                  clear H
                  have H := H1
                  clear H1
                  obtain rfl := Option.some.inj H
                  go_wp2
                  repeat (go_quiet (fail); try go_wp2)
                  go_ret
                  exact ⟨by first | rfl | (simp [errW_none, errW_some] <;> rfl) | (simp [*, errW_none, errW_some] <;> rfl), by repeat (first | (with_reducible first | exact HB.out | apply below_alloc | apply pw_below_drewN | apply below_drew1 | refine below_set ?_ GE539.out) | exact HB.out)⟩
                 ·replace c48 := Bool.eq_false_iff.mpr c48
                  subst c48
                  have H1 : (if 0 ≤ x90_3 then (if x90_3 < (t522.length : Int) then (if ((rd_T26 t522 x90_3).f0) = ((rd_T26 t519 x90_3).f0) then (if ((rd_T26 t522 x90_3).f2) = ((rd_T26 t519 x90_3).f2) then (laws_FnNames.l0 kj39 l1 t519 t522 t519 (t519.length : Int) (wrap64 (x90_3 + 1))) else (some false)) else (some false)) else (none)) else (none)) = some r := by rw [if_neg (show ¬ (false = true) by decide)] at H; exact H
                  clear H
                  have H := H1
                  clear H1
                  by_cases c49 : 0 ≤ x90_3
                  ·rw [if_pos c49] at H
                   have c49b0 : decide (0 ≤ x90_3) = true := decide_eq_true c49
                   clear c49
                   by_cases c50 : x90_3 < (t522.length : Int)
                   ·rw [if_pos c50] at H
                    have c50b0 : decide (x90_3 < (t522.length : Int)) = true := decide_eq_true c50
                    clear c50
                    by_cases c51 : ((rd_T26 t522 x90_3).f0) = ((rd_T26 t519 x90_3).f0)
                    ·rw [if_pos c51] at H
                     have c51b0 : (((rd_T26 t522 x90_3).f0) == ((rd_T26 t519 x90_3).f0)) = true := beq_iff_eq.mpr c51
                     have c51b1 : (((rd_T26 t522 x90_3).f0) != ((rd_T26 t519 x90_3).f0)) = false := bne_eq_false_iff_eq.mpr c51
                     clear c51
                     by_cases c52 : ((rd_T26 t522 x90_3).f2) = ((rd_T26 t519 x90_3).f2)
                     ·rw [if_pos c52] at H
                      have c52b0 : (((rd_T26 t522 x90_3).f2) == ((rd_T26 t519 x90_3).f2)) = true := beq_iff_eq.mpr c52
                      have c52b1 : (((rd_T26 t522 x90_3).f2) != ((rd_T26 t519 x90_3).f2)) = false := bne_eq_false_iff_eq.mpr c52
                      clear c52
                      have H' := Aside0.mk H
                      clear H
                      have p544 : 0 ≤ (x90_3 : Int) := of_decide_eq_true (by first | (with_reducible assumption) | assumption)
                      have q544 : x90_3 < (t522.length : Int) := of_decide_eq_true (by first | (with_reducible assumption) | assumption)
                      obtain ⟨ad544, e544, hx544_0, hx544_1, hx544_2⟩ := at_T26 (Kd.R_reads' HO_6.out).2.2 x90_3 p544 q544
                      cases e544
                      replace p544 := eq_true p544
                      replace q544 := eq_true q544
                      have hcz53_0 : wc.cell? ⟨gb539, 0, none⟩ = some (.int .i64 ((rd_T26 t519 x90_3).f0)) := (blk_cell BK539.out 0).trans rfl
                      have hcz53_1 : wc.cell? ⟨gb539, 1, none⟩ = some (.int .i64 ((rd_T26 t519 x90_3).f1)) := (blk_cell BK539.out 1).trans rfl
                      have hcz53_2 : wc.cell? ⟨gb539, 2, none⟩ = some (.int .i64 ((rd_T26 t519 x90_3).f2)) := (blk_cell BK539.out 2).trans rfl
                      have hfz53_0 := blk_frozen BK539.out 0
                      have hfz53_1 := blk_frozen BK539.out 1
                      have hfz53_2 := blk_frozen BK539.out 2
                      have p545 : 0 ≤ (x90_3 : Int) := of_decide_eq_true (by first | (with_reducible assumption) | assumption)
                      have q545 : x90_3 < (t522.length : Int) := of_decide_eq_true (by first | (with_reducible assumption) | assumption)
                      obtain ⟨ad545, e545, hx545_0, hx545_1, hx545_2⟩ := at_T26 (Kd.R_reads' HO_6.out).2.2 x90_3 p545 q545
                      obtain rfl : ad544 = ad545 := (by injection e545)
                      replace p545 := eq_true p545
                      replace q545 := eq_true q545
                      go_wp2
                      repeat (go_quiet (fail); try go_wp2)
                      go_roundg kj39
                      case measure => have := HJ6.out; have := HJ25.out; have := HK3.out; have := HJ39.out; omega
                      case rel => exact ⟨(wrap64 (x90_3 + 1)), (by first | rfl | (simp; done) | (simp [*]; done)), H', ⟨by have := HJ6.out; have := HJ25.out; have := HK3.out; have := HJ39.out; omega⟩, ⟨by (with_reducible repeat (first | apply Kd.R_alloc | apply Kd.R_drewN | apply Kd.R_drew)); exact Kd.R_mono HO_5.out (fun _ hk => hk.1)⟩, ⟨by (with_reducible repeat (first | apply Kd.R_alloc | apply Kd.R_drewN | apply Kd.R_drew)); exact Kd.R_mono HO_6.out (fun _ hk => ⟨hk.1, hk.2.1⟩)⟩, ⟨by (with_reducible repeat (first | apply Kd.R_alloc | apply Kd.R_drewN | apply Kd.R_drew)); exact Kd.R_mono HO_88.out (fun _ hk => hk.1)⟩, ⟨by repeat (first | (with_reducible first | exact HB.out | apply below_alloc | apply pw_below_drewN | apply below_drew1 | refine below_set ?_ GE539.out) | exact HB.out)⟩⟩
                     ·rw [if_neg c52] at H
                      have c52b0 : (((rd_T26 t522 x90_3).f2) == ((rd_T26 t519 x90_3).f2)) = false := beq_eq_false_iff_ne.mpr c52
                      have c52b1 : (((rd_T26 t522 x90_3).f2) != ((rd_T26 t519 x90_3).f2)) = true := bne_iff_ne.mpr c52
                      obtain rfl := Option.some.inj H
                      have p544 : 0 ≤ (x90_3 : Int) := of_decide_eq_true (by first | (with_reducible assumption) | assumption)
                      have q544 : x90_3 < (t522.length : Int) := of_decide_eq_true (by first | (with_reducible assumption) | assumption)
                      obtain ⟨ad544, e544, hx544_0, hx544_1, hx544_2⟩ := at_T26 (Kd.R_reads' HO_6.out).2.2 x90_3 p544 q544
                      cases e544
                      replace p544 := eq_true p544
                      replace q544 := eq_true q544
                      have hcz54_0 : wc.cell? ⟨gb539, 0, none⟩ = some (.int .i64 ((rd_T26 t519 x90_3).f0)) := (blk_cell BK539.out 0).trans rfl
                      have hcz54_1 : wc.cell? ⟨gb539, 1, none⟩ = some (.int .i64 ((rd_T26 t519 x90_3).f1)) := (blk_cell BK539.out 1).trans rfl
                      have hcz54_2 : wc.cell? ⟨gb539, 2, none⟩ = some (.int .i64 ((rd_T26 t519 x90_3).f2)) := (blk_cell BK539.out 2).trans rfl
                      have hfz54_0 := blk_frozen BK539.out 0
                      have hfz54_1 := blk_frozen BK539.out 1
                      have hfz54_2 := blk_frozen BK539.out 2
                      have p545 : 0 ≤ (x90_3 : Int) := of_decide_eq_true (by first | (with_reducible assumption) | assumption)
                      have q545 : x90_3 < (t522.length : Int) := of_decide_eq_true (by first | (with_reducible assumption) | assumption)
                      obtain ⟨ad545, e545, hx545_0, hx545_1, hx545_2⟩ := at_T26 (Kd.R_reads' HO_6.out).2.2 x90_3 p545 q545
                      obtain rfl : ad544 = ad545 := (by injection e545)
                      replace p545 := eq_true p545
                      replace q545 := eq_true q545
                      go_wp2
                      repeat (go_quiet (fail); try go_wp2)
                      go_ret
                      exact ⟨by first | rfl | (simp [errW_none, errW_some] <;> rfl) | (simp [*, errW_none, errW_some] <;> rfl), by repeat (first | (with_reducible first | exact HB.out | apply below_alloc | apply pw_below_drewN | apply below_drew1 | refine below_set ?_ GE539.out) | exact HB.out)⟩
                    ·rw [if_neg c51] at H
                     have c51b0 : (((rd_T26 t522 x90_3).f0) == ((rd_T26 t519 x90_3).f0)) = false := beq_eq_false_iff_ne.mpr c51
                     have c51b1 : (((rd_T26 t522 x90_3).f0) != ((rd_T26 t519 x90_3).f0)) = true := bne_iff_ne.mpr c51
                     obtain rfl := Option.some.inj H
                     have p544 : 0 ≤ (x90_3 : Int) := of_decide_eq_true (by first | (with_reducible assumption) | assumption)
                     have q544 : x90_3 < (t522.length : Int) := of_decide_eq_true (by first | (with_reducible assumption) | assumption)
                     obtain ⟨ad544, e544, hx544_0, hx544_1, hx544_2⟩ := at_T26 (Kd.R_reads' HO_6.out).2.2 x90_3 p544 q544
                     cases e544
                     replace p544 := eq_true p544
                     replace q544 := eq_true q544
                     have hcz55_0 : wc.cell? ⟨gb539, 0, none⟩ = some (.int .i64 ((rd_T26 t519 x90_3).f0)) := (blk_cell BK539.out 0).trans rfl
                     have hcz55_1 : wc.cell? ⟨gb539, 1, none⟩ = some (.int .i64 ((rd_T26 t519 x90_3).f1)) := (blk_cell BK539.out 1).trans rfl
                     have hcz55_2 : wc.cell? ⟨gb539, 2, none⟩ = some (.int .i64 ((rd_T26 t519 x90_3).f2)) := (blk_cell BK539.out 2).trans rfl
                     have hfz55_0 := blk_frozen BK539.out 0
                     have hfz55_1 := blk_frozen BK539.out 1
                     have hfz55_2 := blk_frozen BK539.out 2
                     go_wp2
                     repeat (go_quiet (fail); try go_wp2)
                     go_ret
                     exact ⟨by first | rfl | (simp [errW_none, errW_some] <;> rfl) | (simp [*, errW_none, errW_some] <;> rfl), by repeat (first | (with_reducible first | exact HB.out | apply below_alloc | apply pw_below_drewN | apply below_drew1 | refine below_set ?_ GE539.out) | exact HB.out)⟩
                   ·rw [if_neg c50] at H
                    exact absurd H (by simp)
                  ·rw [if_neg c49] at H
                   exact absurd H (by simp)
              ·rw [if_neg c37] at H
               exact absurd H (by simp)
             ·rw [if_neg c36] at H
              exact absurd H (by simp)
            ·rw [if_neg c35] at H
             have c35b0 : decide (x90_3 < (t519.length : Int)) = false := decide_eq_false c35
             clear c35
             have H' := Aside0.mk H
             clear H
             go_wp2
             repeat (go_quiet (fail); try go_wp2)
             go_meet
             case rel => exact ⟨_, H', ⟨by have := HJ6.out; have := HJ25.out; have := HK3.out; first | omega | exact Nat.le_refl _⟩, ⟨by repeat (first | (with_reducible first | exact HB.out | apply below_alloc | apply pw_below_drewN | apply below_drew1) | exact HB.out)⟩⟩
      ·replace c24 := Bool.eq_false_iff.mpr c24
       subst c24
       have H1 : (laws_FnNames.j4 kj6 l1) = some r := by rw [if_neg (show ¬ (false = true) by decide)] at H; exact H
       clear H
       have H := H1
       clear H1
       have H' := Aside0.mk H
       clear H
       go_wp2
       repeat (go_quiet (fail); try go_wp2)
       go_meet
       case rel => exact ⟨_, H', ⟨by have := HJ6.out; first | omega | exact Nat.le_refl _⟩, ⟨by repeat (first | (with_reducible first | exact HB.out | apply below_alloc | apply pw_below_drewN | apply below_drew1) | exact HB.out)⟩⟩
     case rest =>
      clear HC23
      try clear c1
      try clear c2
      try clear p2
      try clear c3
      try clear c3b0
      try clear c4
      try clear c5
      try clear p5
      try clear q5
      try clear hx5
      try clear p6
      try clear c11
      try clear c12
      try clear c12b0
      try clear c12b1
      try clear c12b2
      try clear c13
      try clear c13b0
      try clear c13b1
      try clear c15
      try clear c22
      try clear c24
      try clear c29
      try clear c31
      try clear c34
      try clear c35
      try clear c35b0
      try clear c36
      try clear c36b0
      try clear c37
      try clear c37b0
      try clear c45
      try clear c46
      try clear c48
      try clear c49
      try clear c49b0
      try clear c50
      try clear c50b0
      try clear c51
      try clear c51b0
      try clear c51b1
      try clear c52
      try clear c52b0
      try clear c52b1
      try clear p53
      try clear q53
      try clear hx53
      try clear p54
      try clear q54
      try clear hx54
      try clear hcz42_0
      try clear hcz42_1
      try clear hcz42_2
      try clear hcz47_0
      try clear hcz47_1
      try clear hcz47_2
      try clear hcz53_0
      try clear hcz53_1
      try clear hcz53_2
      try clear hcz54_0
      try clear hcz54_1
      try clear hcz54_2
      try clear hcz55_0
      try clear hcz55_1
      try clear hcz55_2
      try clear hfz42_0
      try clear hfz42_1
      try clear hfz42_2
      try clear hfz47_0
      try clear hfz47_1
      try clear hfz47_2
      try clear hfz53_0
      try clear hfz53_1
      try clear hfz53_2
      try clear hfz54_0
      try clear hfz54_1
      try clear hfz54_2
      try clear hfz55_0
      try clear hfz55_1
      try clear hfz55_2
      try clear hx538_0
      try clear hx538_1
      try clear hx538_2
      try clear hx544_0
      try clear hx544_1
      try clear hx544_2
      try clear hx545_0
      try clear hx545_1
      try clear hx545_2
      try clear p2
      try clear p5
      try clear p538
      try clear p544
      try clear p545
      try clear p6
      try clear q5
      try clear q538
      try clear q544
      try clear q545
      obtain ⟨kq, HA, HJ22, HB⟩ := hcut
      cases kq with
      | zero => exact absurd HA.out (by simp [laws_FnNames.j4])
      | succ kj22 =>
       have H := HA.out
       clear HA
       simp only [laws_FnNames.j4] at H
       replace H := Option.bind_eq_some_iff.mp H
       obtain ⟨⟨t546, t547, t548, t549, t550, t551⟩, A560, H⟩ := H
       replace H : ((impl_HasBetter.f t546 t547 t548 t549 t550 t551).bind fun bt554 => ((spec_HasBetter.f t546 t547 t548 t549 t550 t551).bind fun bt556 => (if (bt554.2 != bt556.2) = true then (laws_FnNames.j5 kj22 bt554.1 bt554.2 true t546 t547 t548 t549 t550 t551) else (laws_FnNames.j5 kj22 bt554.1 bt554.2 (bt554.1 != bt556.1) t546 t547 t548 t549 t550 t551)))) = some r := H
       have A56 := Aside0.mk A560
       clear A560
       replace H := Option.bind_eq_some_iff.mp H
       obtain ⟨⟨t554, t555⟩, A570, H⟩ := H
       replace H : ((spec_HasBetter.f t546 t547 t548 t549 t550 t551).bind fun bt556 => (if (t555 != bt556.2) = true then (laws_FnNames.j5 kj22 t554 t555 true t546 t547 t548 t549 t550 t551) else (laws_FnNames.j5 kj22 t554 t555 (t554 != bt556.1) t546 t547 t548 t549 t550 t551))) = some r := H
       have A57 := Aside0.mk A570
       clear A570
       replace H := Option.bind_eq_some_iff.mp H
       obtain ⟨⟨t556, t557⟩, A580, H⟩ := H
       replace H : (if (t555 != t557) = true then (laws_FnNames.j5 kj22 t554 t555 true t546 t547 t548 t549 t550 t551) else (laws_FnNames.j5 kj22 t554 t555 (t554 != t556) t546 t547 t548 t549 t550 t551)) = some r := H
       have A58 := Aside0.mk A580
       clear A580
       have HC59 := Aside0.mk H
       clear H
       go_upto_region 25 with (first | (go_at_call 37; (with_reducible refine (spec_DrawHasBetter.calls kj22 _ _ l1 t546 t547 t548 t549 t550 t551 _ ?side1 ?side2 A56.out).mono ?_); (case side1 => repeat (first | exact (Kd.C_below HR1.out HB.out) | (with_reducible refine Kd.C_alloc ?_ _) | (with_reducible refine Kd.C_drewN ?_ _) | (with_reducible refine Kd.C_drew ?_))); (case side2 => exact HC1.out); rintro e w60 ⟨rfl, hb⟩; have n0_ := Aside0.mk (below_step (by repeat (first | (with_reducible first | exact HB.out | apply below_alloc | apply pw_below_drewN | apply below_drew1) | exact HB.out)) hb); clear HB; have HB := n0_; clear n0_; (try clear hb); (try clear hb2); (try clear hk); (try clear hi)) | ((with_reducible refine gate_dst (N := 21) rfl ?_); (try (refine gate_guard (by rfl) ?_; dsimp only)); refine box_event ?hg (N := 21) ?hd (cs := #[.int .i64 0, .int .i64 0, .int .i64 0]) (t := 26) ?hr ?_; (case hd => rfl); (case hg => rfl); (case hr => first | (go_simp; done) | (go_simp; rfl)); intro gb552 hg w61 hbox hb; have n0_ := Aside0.mk (below_step (by repeat (first | (with_reducible first | exact HB.out | apply below_alloc | apply pw_below_drewN | apply below_drew1) | exact HB.out)) hb); have n1_ := Aside0.mk (hbox); have n2_ := Aside0.mk ((by rw [hg]; exact (below_size (by repeat (first | (with_reducible first | exact HB.out | apply below_alloc | apply pw_below_drewN | apply below_drew1) | exact HB.out))) : w.heap.size ≤ gb552)); have n3_ := Aside0.mk ((by rw [hg]; exact (below_size (by repeat (first | (with_reducible first | exact HB.out | apply below_alloc | apply pw_below_drewN | apply below_drew1) | exact HB.out))) : w.heap.size ≤ gb552)); clear HB; have HB := n0_; have BK552 := n1_; have GW552 := n2_; have GE552 := n3_; clear n0_ n1_ n2_ n3_; clear hb hbox hg) | ((with_reducible refine gate_dst (N := 22) rfl ?_); (try (refine gate_guard (by rfl) ?_; dsimp only)); refine box_event ?hg (N := 22) ?hd (cs := #[.int .i64 0, .int .i64 0, .int .i64 0]) (t := 26) ?hr ?_; (case hd => rfl); (case hg => rfl); (case hr => first | (go_simp; done) | (go_simp; rfl)); intro gb553 hg w62 hbox hb; have n0_ := Aside0.mk (blk_below (g := gb552) (o := .cells #[.int .i64 0, .int .i64 0, .int .i64 0] 26 (0, 0)) (by (with_reducible repeat (first | refine blk_drewN ?_ _ | refine blk_drew ?_ | refine blk_alloc ?_ _)); exact BK552.out) hb); have n1_ := Aside0.mk (below_step (by repeat (first | (with_reducible first | exact HB.out | apply below_alloc | apply pw_below_drewN | apply below_drew1 | refine below_set ?_ GE552.out) | exact HB.out)) hb); have n2_ := Aside0.mk (hbox); have n3_ := Aside0.mk ((by rw [hg]; exact (below_size (by repeat (first | (with_reducible first | exact HB.out | apply below_alloc | apply pw_below_drewN | apply below_drew1 | refine below_set ?_ GE552.out) | exact HB.out))) : w.heap.size ≤ gb553)); have n4_ := Aside0.mk ((by rw [hg]; exact (below_size (by repeat (first | (with_reducible first | exact HB.out | apply below_alloc | apply pw_below_drewN | apply below_drew1 | refine below_set ?_ GE552.out) | exact HB.out))) : w.heap.size ≤ gb553)); have n5_ := Aside0.mk ((by rw [hg]; exact Nat.ne_of_lt (blk_lt (g := gb552) (o := .cells #[.int .i64 0, .int .i64 0, .int .i64 0] 26 (0, 0)) (by (with_reducible repeat (first | refine blk_drewN ?_ _ | refine blk_drew ?_ | refine blk_alloc ?_ _)); exact BK552.out)) : gb552 ≠ gb553)); have n6_ := Aside0.mk ((by rw [hg]; exact Nat.ne_of_gt (blk_lt (g := gb552) (o := .cells #[.int .i64 0, .int .i64 0, .int .i64 0] 26 (0, 0)) (by (with_reducible repeat (first | refine blk_drewN ?_ _ | refine blk_drew ?_ | refine blk_alloc ?_ _)); exact BK552.out)) : gb553 ≠ gb552)); clear BK552; clear HB; have BK552 := n0_; have HB := n1_; have BK553 := n2_; have GW553 := n3_; have GE553 := n4_; have NB552_553 := n5_; have NB553_552 := n6_; clear n0_ n1_ n2_ n3_ n4_ n5_ n6_; clear hb hbox hg; have hnb63 := NB552_553.out; have hnc63 := NB553_552.out; have hcz64_0 : w62.cell? ⟨gb552, 0, none⟩ = some (.int .i64 0) := (blk_cell BK552.out 0).trans rfl; have hcz64_1 : w62.cell? ⟨gb552, 1, none⟩ = some (.int .i64 0) := (blk_cell BK552.out 1).trans rfl; have hcz64_2 : w62.cell? ⟨gb552, 2, none⟩ = some (.int .i64 0) := (blk_cell BK552.out 2).trans rfl; have hfz64_0 := blk_frozen BK552.out 0; have hfz64_1 := blk_frozen BK552.out 1; have hfz64_2 := blk_frozen BK552.out 2; have hcz65_0 : w62.cell? ⟨gb553, 0, none⟩ = some (.int .i64 0) := (blk_cell BK553.out 0).trans rfl; have hcz65_1 : w62.cell? ⟨gb553, 1, none⟩ = some (.int .i64 0) := (blk_cell BK553.out 1).trans rfl; have hcz65_2 : w62.cell? ⟨gb553, 2, none⟩ = some (.int .i64 0) := (blk_cell BK553.out 2).trans rfl; have hfz65_0 := blk_frozen BK553.out 0; have hfz65_1 := blk_frozen BK553.out 1; have hfz65_2 := blk_frozen BK553.out 2) | (go_at_call 15; (with_reducible refine (impl_HasBetter.calls t546 t547 t548 t549 t550 t551 t554 t555 _ A57.out).mono ?_); rintro e w66 ⟨rfl, hb⟩; have n0_ := Aside0.mk (blk_below (g := gb552) (o := .cells #[.int .i64 t546, .int .i64 t547, .int .i64 t548] 26 (0, 0)) (by (with_reducible repeat (first | refine blk_drewN ?_ _ | refine blk_drew ?_ | refine blk_alloc ?_ _)); refine blk_far ?_ NB552_553.out _; (with_reducible repeat (first | refine blk_drewN ?_ _ | refine blk_drew ?_ | refine blk_alloc ?_ _)); refine blk_far ?_ NB552_553.out _; (with_reducible repeat (first | refine blk_drewN ?_ _ | refine blk_drew ?_ | refine blk_alloc ?_ _)); refine blk_far ?_ NB552_553.out _; (with_reducible repeat (first | refine blk_drewN ?_ _ | refine blk_drew ?_ | refine blk_alloc ?_ _)); refine blk_put (cs := #[.int .i64 t546, .int .i64 t547, .int .i64 0]) ?_ 2 _ rfl; (with_reducible repeat (first | refine blk_drewN ?_ _ | refine blk_drew ?_ | refine blk_alloc ?_ _)); refine blk_put (cs := #[.int .i64 t546, .int .i64 0, .int .i64 0]) ?_ 1 _ rfl; (with_reducible repeat (first | refine blk_drewN ?_ _ | refine blk_drew ?_ | refine blk_alloc ?_ _)); refine blk_put (cs := #[.int .i64 0, .int .i64 0, .int .i64 0]) ?_ 0 _ rfl; (with_reducible repeat (first | refine blk_drewN ?_ _ | refine blk_drew ?_ | refine blk_alloc ?_ _)); exact BK552.out) hb); have n1_ := Aside0.mk (blk_below (g := gb553) (o := .cells #[.int .i64 t549, .int .i64 t550, .int .i64 t551] 26 (0, 0)) (by (with_reducible repeat (first | refine blk_drewN ?_ _ | refine blk_drew ?_ | refine blk_alloc ?_ _)); refine blk_put (cs := #[.int .i64 t549, .int .i64 t550, .int .i64 0]) ?_ 2 _ rfl; (with_reducible repeat (first | refine blk_drewN ?_ _ | refine blk_drew ?_ | refine blk_alloc ?_ _)); refine blk_put (cs := #[.int .i64 t549, .int .i64 0, .int .i64 0]) ?_ 1 _ rfl; (with_reducible repeat (first | refine blk_drewN ?_ _ | refine blk_drew ?_ | refine blk_alloc ?_ _)); refine blk_put (cs := #[.int .i64 0, .int .i64 0, .int .i64 0]) ?_ 0 _ rfl; (with_reducible repeat (first | refine blk_drewN ?_ _ | refine blk_drew ?_ | refine blk_alloc ?_ _)); refine blk_far ?_ NB553_552.out _; (with_reducible repeat (first | refine blk_drewN ?_ _ | refine blk_drew ?_ | refine blk_alloc ?_ _)); refine blk_far ?_ NB553_552.out _; (with_reducible repeat (first | refine blk_drewN ?_ _ | refine blk_drew ?_ | refine blk_alloc ?_ _)); refine blk_far ?_ NB553_552.out _; (with_reducible repeat (first | refine blk_drewN ?_ _ | refine blk_drew ?_ | refine blk_alloc ?_ _)); exact BK553.out) hb); have n2_ := Aside0.mk (below_step (by repeat (first | (with_reducible first | exact HB.out | apply below_alloc | apply pw_below_drewN | apply below_drew1 | refine below_set ?_ GE552.out | refine below_set ?_ GE553.out) | exact HB.out)) hb); clear BK552; clear BK553; clear HB; have BK552 := n0_; have BK553 := n1_; have HB := n2_; clear n0_ n1_ n2_; (try clear hb); (try clear hb2); (try clear hk); (try clear hi); have hcz67_0 : w66.cell? ⟨gb552, 0, none⟩ = some (.int .i64 t546) := (blk_cell BK552.out 0).trans rfl; have hcz67_1 : w66.cell? ⟨gb552, 1, none⟩ = some (.int .i64 t547) := (blk_cell BK552.out 1).trans rfl; have hcz67_2 : w66.cell? ⟨gb552, 2, none⟩ = some (.int .i64 t548) := (blk_cell BK552.out 2).trans rfl; have hfz67_0 := blk_frozen BK552.out 0; have hfz67_1 := blk_frozen BK552.out 1; have hfz67_2 := blk_frozen BK552.out 2; have hcz68_0 : w66.cell? ⟨gb553, 0, none⟩ = some (.int .i64 t549) := (blk_cell BK553.out 0).trans rfl; have hcz68_1 : w66.cell? ⟨gb553, 1, none⟩ = some (.int .i64 t550) := (blk_cell BK553.out 1).trans rfl; have hcz68_2 : w66.cell? ⟨gb553, 2, none⟩ = some (.int .i64 t551) := (blk_cell BK553.out 2).trans rfl; have hfz68_0 := blk_frozen BK553.out 0; have hfz68_1 := blk_frozen BK553.out 1; have hfz68_2 := blk_frozen BK553.out 2) | (go_at_call 13; (with_reducible refine (spec_HasBetter.calls t546 t547 t548 t549 t550 t551 t556 t557 _ A58.out).mono ?_); rintro e w69 ⟨rfl, hb⟩; have n0_ := Aside0.mk (blk_below (g := gb552) (o := .cells #[.int .i64 t546, .int .i64 t547, .int .i64 t548] 26 (0, 0)) (by (with_reducible repeat (first | refine blk_drewN ?_ _ | refine blk_drew ?_ | refine blk_alloc ?_ _)); exact BK552.out) hb); have n1_ := Aside0.mk (blk_below (g := gb553) (o := .cells #[.int .i64 t549, .int .i64 t550, .int .i64 t551] 26 (0, 0)) (by (with_reducible repeat (first | refine blk_drewN ?_ _ | refine blk_drew ?_ | refine blk_alloc ?_ _)); exact BK553.out) hb); have n2_ := Aside0.mk (below_step (by repeat (first | (with_reducible first | exact HB.out | apply below_alloc | apply pw_below_drewN | apply below_drew1 | refine below_set ?_ GE552.out | refine below_set ?_ GE553.out) | exact HB.out)) hb); clear BK552; clear BK553; clear HB; have BK552 := n0_; have BK553 := n1_; have HB := n2_; clear n0_ n1_ n2_; (try clear hb); (try clear hb2); (try clear hk); (try clear hi)))
       repeat (go_quiet (first | (go_at_call 37; (with_reducible refine (spec_DrawHasBetter.calls kj22 _ _ l1 t546 t547 t548 t549 t550 t551 _ ?side1 ?side2 A56.out).mono ?_); (case side1 => repeat (first | exact (Kd.C_below HR1.out HB.out) | (with_reducible refine Kd.C_alloc ?_ _) | (with_reducible refine Kd.C_drewN ?_ _) | (with_reducible refine Kd.C_drew ?_))); (case side2 => exact HC1.out); rintro e w60 ⟨rfl, hb⟩; have n0_ := Aside0.mk (below_step (by repeat (first | (with_reducible first | exact HB.out | apply below_alloc | apply pw_below_drewN | apply below_drew1) | exact HB.out)) hb); clear HB; have HB := n0_; clear n0_; (try clear hb); (try clear hb2); (try clear hk); (try clear hi)) | ((with_reducible refine gate_dst (N := 21) rfl ?_); (try (refine gate_guard (by rfl) ?_; dsimp only)); refine box_event ?hg (N := 21) ?hd (cs := #[.int .i64 0, .int .i64 0, .int .i64 0]) (t := 26) ?hr ?_; (case hd => rfl); (case hg => rfl); (case hr => first | (go_simp; done) | (go_simp; rfl)); intro gb552 hg w61 hbox hb; have n0_ := Aside0.mk (below_step (by repeat (first | (with_reducible first | exact HB.out | apply below_alloc | apply pw_below_drewN | apply below_drew1) | exact HB.out)) hb); have n1_ := Aside0.mk (hbox); have n2_ := Aside0.mk ((by rw [hg]; exact (below_size (by repeat (first | (with_reducible first | exact HB.out | apply below_alloc | apply pw_below_drewN | apply below_drew1) | exact HB.out))) : w.heap.size ≤ gb552)); have n3_ := Aside0.mk ((by rw [hg]; exact (below_size (by repeat (first | (with_reducible first | exact HB.out | apply below_alloc | apply pw_below_drewN | apply below_drew1) | exact HB.out))) : w.heap.size ≤ gb552)); clear HB; have HB := n0_; have BK552 := n1_; have GW552 := n2_; have GE552 := n3_; clear n0_ n1_ n2_ n3_; clear hb hbox hg) | ((with_reducible refine gate_dst (N := 22) rfl ?_); (try (refine gate_guard (by rfl) ?_; dsimp only)); refine box_event ?hg (N := 22) ?hd (cs := #[.int .i64 0, .int .i64 0, .int .i64 0]) (t := 26) ?hr ?_; (case hd => rfl); (case hg => rfl); (case hr => first | (go_simp; done) | (go_simp; rfl)); intro gb553 hg w62 hbox hb; have n0_ := Aside0.mk (blk_below (g := gb552) (o := .cells #[.int .i64 0, .int .i64 0, .int .i64 0] 26 (0, 0)) (by (with_reducible repeat (first | refine blk_drewN ?_ _ | refine blk_drew ?_ | refine blk_alloc ?_ _)); exact BK552.out) hb); have n1_ := Aside0.mk (below_step (by repeat (first | (with_reducible first | exact HB.out | apply below_alloc | apply pw_below_drewN | apply below_drew1 | refine below_set ?_ GE552.out) | exact HB.out)) hb); have n2_ := Aside0.mk (hbox); have n3_ := Aside0.mk ((by rw [hg]; exact (below_size (by repeat (first | (with_reducible first | exact HB.out | apply below_alloc | apply pw_below_drewN | apply below_drew1 | refine below_set ?_ GE552.out) | exact HB.out))) : w.heap.size ≤ gb553)); have n4_ := Aside0.mk ((by rw [hg]; exact (below_size (by repeat (first | (with_reducible first | exact HB.out | apply below_alloc | apply pw_below_drewN | apply below_drew1 | refine below_set ?_ GE552.out) | exact HB.out))) : w.heap.size ≤ gb553)); have n5_ := Aside0.mk ((by rw [hg]; exact Nat.ne_of_lt (blk_lt (g := gb552) (o := .cells #[.int .i64 0, .int .i64 0, .int .i64 0] 26 (0, 0)) (by (with_reducible repeat (first | refine blk_drewN ?_ _ | refine blk_drew ?_ | refine blk_alloc ?_ _)); exact BK552.out)) : gb552 ≠ gb553)); have n6_ := Aside0.mk ((by rw [hg]; exact Nat.ne_of_gt (blk_lt (g := gb552) (o := .cells #[.int .i64 0, .int .i64 0, .int .i64 0] 26 (0, 0)) (by (with_reducible repeat (first | refine blk_drewN ?_ _ | refine blk_drew ?_ | refine blk_alloc ?_ _)); exact BK552.out)) : gb553 ≠ gb552)); clear BK552; clear HB; have BK552 := n0_; have HB := n1_; have BK553 := n2_; have GW553 := n3_; have GE553 := n4_; have NB552_553 := n5_; have NB553_552 := n6_; clear n0_ n1_ n2_ n3_ n4_ n5_ n6_; clear hb hbox hg; have hnb63 := NB552_553.out; have hnc63 := NB553_552.out; have hcz64_0 : w62.cell? ⟨gb552, 0, none⟩ = some (.int .i64 0) := (blk_cell BK552.out 0).trans rfl; have hcz64_1 : w62.cell? ⟨gb552, 1, none⟩ = some (.int .i64 0) := (blk_cell BK552.out 1).trans rfl; have hcz64_2 : w62.cell? ⟨gb552, 2, none⟩ = some (.int .i64 0) := (blk_cell BK552.out 2).trans rfl; have hfz64_0 := blk_frozen BK552.out 0; have hfz64_1 := blk_frozen BK552.out 1; have hfz64_2 := blk_frozen BK552.out 2; have hcz65_0 : w62.cell? ⟨gb553, 0, none⟩ = some (.int .i64 0) := (blk_cell BK553.out 0).trans rfl; have hcz65_1 : w62.cell? ⟨gb553, 1, none⟩ = some (.int .i64 0) := (blk_cell BK553.out 1).trans rfl; have hcz65_2 : w62.cell? ⟨gb553, 2, none⟩ = some (.int .i64 0) := (blk_cell BK553.out 2).trans rfl; have hfz65_0 := blk_frozen BK553.out 0; have hfz65_1 := blk_frozen BK553.out 1; have hfz65_2 := blk_frozen BK553.out 2) | (go_at_call 15; (with_reducible refine (impl_HasBetter.calls t546 t547 t548 t549 t550 t551 t554 t555 _ A57.out).mono ?_); rintro e w66 ⟨rfl, hb⟩; have n0_ := Aside0.mk (blk_below (g := gb552) (o := .cells #[.int .i64 t546, .int .i64 t547, .int .i64 t548] 26 (0, 0)) (by (with_reducible repeat (first | refine blk_drewN ?_ _ | refine blk_drew ?_ | refine blk_alloc ?_ _)); refine blk_far ?_ NB552_553.out _; (with_reducible repeat (first | refine blk_drewN ?_ _ | refine blk_drew ?_ | refine blk_alloc ?_ _)); refine blk_far ?_ NB552_553.out _; (with_reducible repeat (first | refine blk_drewN ?_ _ | refine blk_drew ?_ | refine blk_alloc ?_ _)); refine blk_far ?_ NB552_553.out _; (with_reducible repeat (first | refine blk_drewN ?_ _ | refine blk_drew ?_ | refine blk_alloc ?_ _)); refine blk_put (cs := #[.int .i64 t546, .int .i64 t547, .int .i64 0]) ?_ 2 _ rfl; (with_reducible repeat (first | refine blk_drewN ?_ _ | refine blk_drew ?_ | refine blk_alloc ?_ _)); refine blk_put (cs := #[.int .i64 t546, .int .i64 0, .int .i64 0]) ?_ 1 _ rfl; (with_reducible repeat (first | refine blk_drewN ?_ _ | refine blk_drew ?_ | refine blk_alloc ?_ _)); refine blk_put (cs := #[.int .i64 0, .int .i64 0, .int .i64 0]) ?_ 0 _ rfl; (with_reducible repeat (first | refine blk_drewN ?_ _ | refine blk_drew ?_ | refine blk_alloc ?_ _)); exact BK552.out) hb); have n1_ := Aside0.mk (blk_below (g := gb553) (o := .cells #[.int .i64 t549, .int .i64 t550, .int .i64 t551] 26 (0, 0)) (by (with_reducible repeat (first | refine blk_drewN ?_ _ | refine blk_drew ?_ | refine blk_alloc ?_ _)); refine blk_put (cs := #[.int .i64 t549, .int .i64 t550, .int .i64 0]) ?_ 2 _ rfl; (with_reducible repeat (first | refine blk_drewN ?_ _ | refine blk_drew ?_ | refine blk_alloc ?_ _)); refine blk_put (cs := #[.int .i64 t549, .int .i64 0, .int .i64 0]) ?_ 1 _ rfl; (with_reducible repeat (first | refine blk_drewN ?_ _ | refine blk_drew ?_ | refine blk_alloc ?_ _)); refine blk_put (cs := #[.int .i64 0, .int .i64 0, .int .i64 0]) ?_ 0 _ rfl; (with_reducible repeat (first | refine blk_drewN ?_ _ | refine blk_drew ?_ | refine blk_alloc ?_ _)); refine blk_far ?_ NB553_552.out _; (with_reducible repeat (first | refine blk_drewN ?_ _ | refine blk_drew ?_ | refine blk_alloc ?_ _)); refine blk_far ?_ NB553_552.out _; (with_reducible repeat (first | refine blk_drewN ?_ _ | refine blk_drew ?_ | refine blk_alloc ?_ _)); refine blk_far ?_ NB553_552.out _; (with_reducible repeat (first | refine blk_drewN ?_ _ | refine blk_drew ?_ | refine blk_alloc ?_ _)); exact BK553.out) hb); have n2_ := Aside0.mk (below_step (by repeat (first | (with_reducible first | exact HB.out | apply below_alloc | apply pw_below_drewN | apply below_drew1 | refine below_set ?_ GE552.out | refine below_set ?_ GE553.out) | exact HB.out)) hb); clear BK552; clear BK553; clear HB; have BK552 := n0_; have BK553 := n1_; have HB := n2_; clear n0_ n1_ n2_; (try clear hb); (try clear hb2); (try clear hk); (try clear hi); have hcz67_0 : w66.cell? ⟨gb552, 0, none⟩ = some (.int .i64 t546) := (blk_cell BK552.out 0).trans rfl; have hcz67_1 : w66.cell? ⟨gb552, 1, none⟩ = some (.int .i64 t547) := (blk_cell BK552.out 1).trans rfl; have hcz67_2 : w66.cell? ⟨gb552, 2, none⟩ = some (.int .i64 t548) := (blk_cell BK552.out 2).trans rfl; have hfz67_0 := blk_frozen BK552.out 0; have hfz67_1 := blk_frozen BK552.out 1; have hfz67_2 := blk_frozen BK552.out 2; have hcz68_0 : w66.cell? ⟨gb553, 0, none⟩ = some (.int .i64 t549) := (blk_cell BK553.out 0).trans rfl; have hcz68_1 : w66.cell? ⟨gb553, 1, none⟩ = some (.int .i64 t550) := (blk_cell BK553.out 1).trans rfl; have hcz68_2 : w66.cell? ⟨gb553, 2, none⟩ = some (.int .i64 t551) := (blk_cell BK553.out 2).trans rfl; have hfz68_0 := blk_frozen BK553.out 0; have hfz68_1 := blk_frozen BK553.out 1; have hfz68_2 := blk_frozen BK553.out 2) | (go_at_call 13; (with_reducible refine (spec_HasBetter.calls t546 t547 t548 t549 t550 t551 t556 t557 _ A58.out).mono ?_); rintro e w69 ⟨rfl, hb⟩; have n0_ := Aside0.mk (blk_below (g := gb552) (o := .cells #[.int .i64 t546, .int .i64 t547, .int .i64 t548] 26 (0, 0)) (by (with_reducible repeat (first | refine blk_drewN ?_ _ | refine blk_drew ?_ | refine blk_alloc ?_ _)); exact BK552.out) hb); have n1_ := Aside0.mk (blk_below (g := gb553) (o := .cells #[.int .i64 t549, .int .i64 t550, .int .i64 t551] 26 (0, 0)) (by (with_reducible repeat (first | refine blk_drewN ?_ _ | refine blk_drew ?_ | refine blk_alloc ?_ _)); exact BK553.out) hb); have n2_ := Aside0.mk (below_step (by repeat (first | (with_reducible first | exact HB.out | apply below_alloc | apply pw_below_drewN | apply below_drew1 | refine below_set ?_ GE552.out | refine below_set ?_ GE553.out) | exact HB.out)) hb); clear BK552; clear BK553; clear HB; have BK552 := n0_; have BK553 := n1_; have HB := n2_; clear n0_ n1_ n2_; (try clear hb); (try clear hb2); (try clear hk); (try clear hi))); go_upto_region 25 with (first | (go_at_call 37; (with_reducible refine (spec_DrawHasBetter.calls kj22 _ _ l1 t546 t547 t548 t549 t550 t551 _ ?side1 ?side2 A56.out).mono ?_); (case side1 => repeat (first | exact (Kd.C_below HR1.out HB.out) | (with_reducible refine Kd.C_alloc ?_ _) | (with_reducible refine Kd.C_drewN ?_ _) | (with_reducible refine Kd.C_drew ?_))); (case side2 => exact HC1.out); rintro e w60 ⟨rfl, hb⟩; have n0_ := Aside0.mk (below_step (by repeat (first | (with_reducible first | exact HB.out | apply below_alloc | apply pw_below_drewN | apply below_drew1) | exact HB.out)) hb); clear HB; have HB := n0_; clear n0_; (try clear hb); (try clear hb2); (try clear hk); (try clear hi)) | ((with_reducible refine gate_dst (N := 21) rfl ?_); (try (refine gate_guard (by rfl) ?_; dsimp only)); refine box_event ?hg (N := 21) ?hd (cs := #[.int .i64 0, .int .i64 0, .int .i64 0]) (t := 26) ?hr ?_; (case hd => rfl); (case hg => rfl); (case hr => first | (go_simp; done) | (go_simp; rfl)); intro gb552 hg w61 hbox hb; have n0_ := Aside0.mk (below_step (by repeat (first | (with_reducible first | exact HB.out | apply below_alloc | apply pw_below_drewN | apply below_drew1) | exact HB.out)) hb); have n1_ := Aside0.mk (hbox); have n2_ := Aside0.mk ((by rw [hg]; exact (below_size (by repeat (first | (with_reducible first | exact HB.out | apply below_alloc | apply pw_below_drewN | apply below_drew1) | exact HB.out))) : w.heap.size ≤ gb552)); have n3_ := Aside0.mk ((by rw [hg]; exact (below_size (by repeat (first | (with_reducible first | exact HB.out | apply below_alloc | apply pw_below_drewN | apply below_drew1) | exact HB.out))) : w.heap.size ≤ gb552)); clear HB; have HB := n0_; have BK552 := n1_; have GW552 := n2_; have GE552 := n3_; clear n0_ n1_ n2_ n3_; clear hb hbox hg) | ((with_reducible refine gate_dst (N := 22) rfl ?_); (try (refine gate_guard (by rfl) ?_; dsimp only)); refine box_event ?hg (N := 22) ?hd (cs := #[.int .i64 0, .int .i64 0, .int .i64 0]) (t := 26) ?hr ?_; (case hd => rfl); (case hg => rfl); (case hr => first | (go_simp; done) | (go_simp; rfl)); intro gb553 hg w62 hbox hb; have n0_ := Aside0.mk (blk_below (g := gb552) (o := .cells #[.int .i64 0, .int .i64 0, .int .i64 0] 26 (0, 0)) (by (with_reducible repeat (first | refine blk_drewN ?_ _ | refine blk_drew ?_ | refine blk_alloc ?_ _)); exact BK552.out) hb); have n1_ := Aside0.mk (below_step (by repeat (first | (with_reducible first | exact HB.out | apply below_alloc | apply pw_below_drewN | apply below_drew1 | refine below_set ?_ GE552.out) | exact HB.out)) hb); have n2_ := Aside0.mk (hbox); have n3_ := Aside0.mk ((by rw [hg]; exact (below_size (by repeat (first | (with_reducible first | exact HB.out | apply below_alloc | apply pw_below_drewN | apply below_drew1 | refine below_set ?_ GE552.out) | exact HB.out))) : w.heap.size ≤ gb553)); have n4_ := Aside0.mk ((by rw [hg]; exact (below_size (by repeat (first | (with_reducible first | exact HB.out | apply below_alloc | apply pw_below_drewN | apply below_drew1 | refine below_set ?_ GE552.out) | exact HB.out))) : w.heap.size ≤ gb553)); have n5_ := Aside0.mk ((by rw [hg]; exact Nat.ne_of_lt (blk_lt (g := gb552) (o := .cells #[.int .i64 0, .int .i64 0, .int .i64 0] 26 (0, 0)) (by (with_reducible repeat (first | refine blk_drewN ?_ _ | refine blk_drew ?_ | refine blk_alloc ?_ _)); exact BK552.out)) : gb552 ≠ gb553)); have n6_ := Aside0.mk ((by rw [hg]; exact Nat.ne_of_gt (blk_lt (g := gb552) (o := .cells #[.int .i64 0, .int .i64 0, .int .i64 0] 26 (0, 0)) (by (with_reducible repeat (first | refine blk_drewN ?_ _ | refine blk_drew ?_ | refine blk_alloc ?_ _)); exact BK552.out)) : gb553 ≠ gb552)); clear BK552; clear HB; have BK552 := n0_; have HB := n1_; have BK553 := n2_; have GW553 := n3_; have GE553 := n4_; have NB552_553 := n5_; have NB553_552 := n6_; clear n0_ n1_ n2_ n3_ n4_ n5_ n6_; clear hb hbox hg; have hnb63 := NB552_553.out; have hnc63 := NB553_552.out; have hcz64_0 : w62.cell? ⟨gb552, 0, none⟩ = some (.int .i64 0) := (blk_cell BK552.out 0).trans rfl; have hcz64_1 : w62.cell? ⟨gb552, 1, none⟩ = some (.int .i64 0) := (blk_cell BK552.out 1).trans rfl; have hcz64_2 : w62.cell? ⟨gb552, 2, none⟩ = some (.int .i64 0) := (blk_cell BK552.out 2).trans rfl; have hfz64_0 := blk_frozen BK552.out 0; have hfz64_1 := blk_frozen BK552.out 1; have hfz64_2 := blk_frozen BK552.out 2; have hcz65_0 : w62.cell? ⟨gb553, 0, none⟩ = some (.int .i64 0) := (blk_cell BK553.out 0).trans rfl; have hcz65_1 : w62.cell? ⟨gb553, 1, none⟩ = some (.int .i64 0) := (blk_cell BK553.out 1).trans rfl; have hcz65_2 : w62.cell? ⟨gb553, 2, none⟩ = some (.int .i64 0) := (blk_cell BK553.out 2).trans rfl; have hfz65_0 := blk_frozen BK553.out 0; have hfz65_1 := blk_frozen BK553.out 1; have hfz65_2 := blk_frozen BK553.out 2) | (go_at_call 15; (with_reducible refine (impl_HasBetter.calls t546 t547 t548 t549 t550 t551 t554 t555 _ A57.out).mono ?_); rintro e w66 ⟨rfl, hb⟩; have n0_ := Aside0.mk (blk_below (g := gb552) (o := .cells #[.int .i64 t546, .int .i64 t547, .int .i64 t548] 26 (0, 0)) (by (with_reducible repeat (first | refine blk_drewN ?_ _ | refine blk_drew ?_ | refine blk_alloc ?_ _)); refine blk_far ?_ NB552_553.out _; (with_reducible repeat (first | refine blk_drewN ?_ _ | refine blk_drew ?_ | refine blk_alloc ?_ _)); refine blk_far ?_ NB552_553.out _; (with_reducible repeat (first | refine blk_drewN ?_ _ | refine blk_drew ?_ | refine blk_alloc ?_ _)); refine blk_far ?_ NB552_553.out _; (with_reducible repeat (first | refine blk_drewN ?_ _ | refine blk_drew ?_ | refine blk_alloc ?_ _)); refine blk_put (cs := #[.int .i64 t546, .int .i64 t547, .int .i64 0]) ?_ 2 _ rfl; (with_reducible repeat (first | refine blk_drewN ?_ _ | refine blk_drew ?_ | refine blk_alloc ?_ _)); refine blk_put (cs := #[.int .i64 t546, .int .i64 0, .int .i64 0]) ?_ 1 _ rfl; (with_reducible repeat (first | refine blk_drewN ?_ _ | refine blk_drew ?_ | refine blk_alloc ?_ _)); refine blk_put (cs := #[.int .i64 0, .int .i64 0, .int .i64 0]) ?_ 0 _ rfl; (with_reducible repeat (first | refine blk_drewN ?_ _ | refine blk_drew ?_ | refine blk_alloc ?_ _)); exact BK552.out) hb); have n1_ := Aside0.mk (blk_below (g := gb553) (o := .cells #[.int .i64 t549, .int .i64 t550, .int .i64 t551] 26 (0, 0)) (by (with_reducible repeat (first | refine blk_drewN ?_ _ | refine blk_drew ?_ | refine blk_alloc ?_ _)); refine blk_put (cs := #[.int .i64 t549, .int .i64 t550, .int .i64 0]) ?_ 2 _ rfl; (with_reducible repeat (first | refine blk_drewN ?_ _ | refine blk_drew ?_ | refine blk_alloc ?_ _)); refine blk_put (cs := #[.int .i64 t549, .int .i64 0, .int .i64 0]) ?_ 1 _ rfl; (with_reducible repeat (first | refine blk_drewN ?_ _ | refine blk_drew ?_ | refine blk_alloc ?_ _)); refine blk_put (cs := #[.int .i64 0, .int .i64 0, .int .i64 0]) ?_ 0 _ rfl; (with_reducible repeat (first | refine blk_drewN ?_ _ | refine blk_drew ?_ | refine blk_alloc ?_ _)); refine blk_far ?_ NB553_552.out _; (with_reducible repeat (first | refine blk_drewN ?_ _ | refine blk_drew ?_ | refine blk_alloc ?_ _)); refine blk_far ?_ NB553_552.out _; (with_reducible repeat (first | refine blk_drewN ?_ _ | refine blk_drew ?_ | refine blk_alloc ?_ _)); refine blk_far ?_ NB553_552.out _; (with_reducible repeat (first | refine blk_drewN ?_ _ | refine blk_drew ?_ | refine blk_alloc ?_ _)); exact BK553.out) hb); have n2_ := Aside0.mk (below_step (by repeat (first | (with_reducible first | exact HB.out | apply below_alloc | apply pw_below_drewN | apply below_drew1 | refine below_set ?_ GE552.out | refine below_set ?_ GE553.out) | exact HB.out)) hb); clear BK552; clear BK553; clear HB; have BK552 := n0_; have BK553 := n1_; have HB := n2_; clear n0_ n1_ n2_; (try clear hb); (try clear hb2); (try clear hk); (try clear hi); have hcz67_0 : w66.cell? ⟨gb552, 0, none⟩ = some (.int .i64 t546) := (blk_cell BK552.out 0).trans rfl; have hcz67_1 : w66.cell? ⟨gb552, 1, none⟩ = some (.int .i64 t547) := (blk_cell BK552.out 1).trans rfl; have hcz67_2 : w66.cell? ⟨gb552, 2, none⟩ = some (.int .i64 t548) := (blk_cell BK552.out 2).trans rfl; have hfz67_0 := blk_frozen BK552.out 0; have hfz67_1 := blk_frozen BK552.out 1; have hfz67_2 := blk_frozen BK552.out 2; have hcz68_0 : w66.cell? ⟨gb553, 0, none⟩ = some (.int .i64 t549) := (blk_cell BK553.out 0).trans rfl; have hcz68_1 : w66.cell? ⟨gb553, 1, none⟩ = some (.int .i64 t550) := (blk_cell BK553.out 1).trans rfl; have hcz68_2 : w66.cell? ⟨gb553, 2, none⟩ = some (.int .i64 t551) := (blk_cell BK553.out 2).trans rfl; have hfz68_0 := blk_frozen BK553.out 0; have hfz68_1 := blk_frozen BK553.out 1; have hfz68_2 := blk_frozen BK553.out 2) | (go_at_call 13; (with_reducible refine (spec_HasBetter.calls t546 t547 t548 t549 t550 t551 t556 t557 _ A58.out).mono ?_); rintro e w69 ⟨rfl, hb⟩; have n0_ := Aside0.mk (blk_below (g := gb552) (o := .cells #[.int .i64 t546, .int .i64 t547, .int .i64 t548] 26 (0, 0)) (by (with_reducible repeat (first | refine blk_drewN ?_ _ | refine blk_drew ?_ | refine blk_alloc ?_ _)); exact BK552.out) hb); have n1_ := Aside0.mk (blk_below (g := gb553) (o := .cells #[.int .i64 t549, .int .i64 t550, .int .i64 t551] 26 (0, 0)) (by (with_reducible repeat (first | refine blk_drewN ?_ _ | refine blk_drew ?_ | refine blk_alloc ?_ _)); exact BK553.out) hb); have n2_ := Aside0.mk (below_step (by repeat (first | (with_reducible first | exact HB.out | apply below_alloc | apply pw_below_drewN | apply below_drew1 | refine below_set ?_ GE552.out | refine below_set ?_ GE553.out) | exact HB.out)) hb); clear BK552; clear BK553; clear HB; have BK552 := n0_; have BK553 := n1_; have HB := n2_; clear n0_ n1_ n2_; (try clear hb); (try clear hb2); (try clear hk); (try clear hi))))
       (try simp only [Act.put, List.setIfInBounds_toArray, List.set_cons_zero, List.set_cons_succ])
       go_cut [163] (fun v163 wc => ∃ (kq : Nat) (x163_58 : Bool), v163 = .bool x163_58 ∧ Aside0 (laws_FnNames.j5 kq t554 t555 x163_58 t546 t547 t548 t549 t550 t551 = some r) ∧ Aside0 (kq ≤ kj22) ∧ Aside0 (wc.heap[gb552]? = some (.cells #[.int .i64 t546, .int .i64 t547, .int .i64 t548] 26 (0, 0))) ∧ Aside0 (wc.heap[gb553]? = some (.cells #[.int .i64 t549, .int .i64 t550, .int .i64 t551] 26 (0, 0))) ∧ Aside0 (Below w.heap.size w wc))
       case first =>
        have H := HC59.out
        clear HC59
        by_cases c70 : (t555 != t557) = true
        ·rw [if_pos c70] at H
         have c70b0 : (t555 != t557) = true := c70
         (try (have c70b1 : decide (t555 = t557) = false := by simpa using c70))
         (try (have c70b2 : (t555 == t557) = false := by simpa using c70))
         (try (have c70b3 : ¬ (t555 = t557) := by simpa using c70))
         clear c70
         (first | rw [c70b0] | (simp only [i64_w, i32_w]; rw [c70b0]) | skip)
         have H' := Aside0.mk H
         clear H
         go_wp2
         repeat (go_quiet (fail); try go_wp2)
         go_meet
         case rel => exact ⟨_, (true), (by first | rfl | (simp; done) | (simp [*]; done)), H', ⟨by have := HJ6.out; have := HJ22.out; first | omega | exact Nat.le_refl _⟩, ⟨by (with_reducible repeat (first | refine blk_drewN ?_ _ | refine blk_drew ?_ | refine blk_alloc ?_ _)); exact BK552.out⟩, ⟨by (with_reducible repeat (first | refine blk_drewN ?_ _ | refine blk_drew ?_ | refine blk_alloc ?_ _)); exact BK553.out⟩, ⟨by repeat (first | (with_reducible first | exact HB.out | apply below_alloc | apply pw_below_drewN | apply below_drew1 | refine below_set ?_ GE552.out | refine below_set ?_ GE553.out) | exact HB.out)⟩⟩
        ·rw [if_neg c70] at H
         have c70b0 : (t555 != t557) = false := by simpa using c70
         (try (have c70b1 : decide (t555 = t557) = true := by simpa using c70))
         (try (have c70b2 : (t555 == t557) = true := by simpa using c70))
         clear c70
         (first | rw [c70b0] | (simp only [i64_w, i32_w]; rw [c70b0]) | skip)
         have H' := Aside0.mk H
         clear H
         go_wp2
         repeat (go_quiet (fail); try go_wp2)
         go_meet
         case rel => exact ⟨_, ((t554 != t556)), (by first | rfl | (simp; done) | (simp [*]; done)), H', ⟨by have := HJ6.out; have := HJ22.out; first | omega | exact Nat.le_refl _⟩, ⟨by (with_reducible repeat (first | refine blk_drewN ?_ _ | refine blk_drew ?_ | refine blk_alloc ?_ _)); exact BK552.out⟩, ⟨by (with_reducible repeat (first | refine blk_drewN ?_ _ | refine blk_drew ?_ | refine blk_alloc ?_ _)); exact BK553.out⟩, ⟨by repeat (first | (with_reducible first | exact HB.out | apply below_alloc | apply pw_below_drewN | apply below_drew1 | refine below_set ?_ GE552.out | refine below_set ?_ GE553.out) | exact HB.out)⟩⟩
       case rest =>
        clear HC59
        try clear c1
        try clear c2
        try clear p2
        try clear c3
        try clear c3b0
        try clear c4
        try clear c5
        try clear p5
        try clear q5
        try clear hx5
        try clear c6
        try clear p6
        try clear c7
        try clear c11
        try clear c12
        try clear c12b0
        try clear c12b1
        try clear c12b2
        try clear c13
        try clear c13b0
        try clear c13b1
        try clear c15
        try clear c22
        try clear c24
        try clear c29
        try clear c31
        try clear c34
        try clear c35
        try clear c35b0
        try clear c36
        try clear c36b0
        try clear c37
        try clear c37b0
        try clear c45
        try clear c46
        try clear c48
        try clear c49
        try clear c49b0
        try clear c50
        try clear c50b0
        try clear c51
        try clear c51b0
        try clear c51b1
        try clear c52
        try clear c52b0
        try clear c52b1
        try clear p53
        try clear q53
        try clear hx53
        try clear p54
        try clear q54
        try clear hx54
        try clear c63
        try clear p64
        try clear c70
        try clear c70b0
        try clear c70b1
        try clear c70b2
        try clear hcz42_0
        try clear hcz42_1
        try clear hcz42_2
        try clear hcz47_0
        try clear hcz47_1
        try clear hcz47_2
        try clear hcz53_0
        try clear hcz53_1
        try clear hcz53_2
        try clear hcz54_0
        try clear hcz54_1
        try clear hcz54_2
        try clear hcz55_0
        try clear hcz55_1
        try clear hcz55_2
        try clear hcz64_0
        try clear hcz64_1
        try clear hcz64_2
        try clear hcz65_0
        try clear hcz65_1
        try clear hcz65_2
        try clear hcz67_0
        try clear hcz67_1
        try clear hcz67_2
        try clear hcz68_0
        try clear hcz68_1
        try clear hcz68_2
        try clear hfz42_0
        try clear hfz42_1
        try clear hfz42_2
        try clear hfz47_0
        try clear hfz47_1
        try clear hfz47_2
        try clear hfz53_0
        try clear hfz53_1
        try clear hfz53_2
        try clear hfz54_0
        try clear hfz54_1
        try clear hfz54_2
        try clear hfz55_0
        try clear hfz55_1
        try clear hfz55_2
        try clear hfz64_0
        try clear hfz64_1
        try clear hfz64_2
        try clear hfz65_0
        try clear hfz65_1
        try clear hfz65_2
        try clear hfz67_0
        try clear hfz67_1
        try clear hfz67_2
        try clear hfz68_0
        try clear hfz68_1
        try clear hfz68_2
        try clear hx538_0
        try clear hx538_1
        try clear hx538_2
        try clear hx544_0
        try clear hx544_1
        try clear hx544_2
        try clear hx545_0
        try clear hx545_1
        try clear hx545_2
        try clear p2
        try clear p5
        try clear p53
        try clear p538
        try clear p54
        try clear p544
        try clear p545
        try clear p6
        try clear q5
        try clear q53
        try clear q538
        try clear q54
        try clear q544
        try clear q545
        obtain ⟨kq, x163_58, rfl, HA, HJ58, BK552, BK553, HB⟩ := hcut
        cases kq with
        | zero => exact absurd HA.out (by simp [laws_FnNames.j5])
        | succ kj58 =>
         have H := HA.out
         clear HA
         simp only [laws_FnNames.j5] at H
         by_cases c71 : x163_58 = true
         ·subst c71
          have H1 : (some false) = some r := by rw [if_pos rfl] at H; exact H
          clear H
          have H := H1
          clear H1
          obtain rfl := Option.some.inj H
          go_wp2
          repeat (go_quiet (fail); try go_wp2)
          go_ret
          exact ⟨by first | rfl | (simp [errW_none, errW_some] <;> rfl) | (simp [*, errW_none, errW_some] <;> rfl), by repeat (first | (with_reducible first | exact HB.out | apply below_alloc | apply pw_below_drewN | apply below_drew1 | refine below_set ?_ GE552.out | refine below_set ?_ GE553.out) | exact HB.out)⟩
         ·replace c71 := Bool.eq_false_iff.mpr c71
          subst c71
          have H1 : (if t555 = true then ((impl_HasBetter.f t549 t550 t551 t546 t547 t548).bind fun bt558 => (if bt558.2 = true then (some (bt558.1 != t554)) else (some false))) else (some true)) = some r := by rw [if_neg (show ¬ (false = true) by decide)] at H; exact H
          clear H
          have H := H1
          clear H1
          by_cases c72 : t555 = true
          ·subst c72
           have H1 : ((impl_HasBetter.f t549 t550 t551 t546 t547 t548).bind fun bt558 => (if bt558.2 = true then (some (bt558.1 != t554)) else (some false))) = some r := by rw [if_pos rfl] at H; exact H
           clear H
           have H := H1
           clear H1
           replace H := Option.bind_eq_some_iff.mp H
           obtain ⟨⟨t558, t559⟩, A730, H⟩ := H
           replace H : (if t559 = true then (some (t558 != t554)) else (some false)) = some r := H
           have A73 := Aside0.mk A730
           clear A730
           by_cases c74 : t559 = true
           ·subst c74
            have H1 : (some (t558 != t554)) = some r := by rw [if_pos rfl] at H; exact H
            clear H
            have H := H1
            clear H1
            obtain rfl := Option.some.inj H
            have hnb75 := NB553_552.out
            have hnc75 := NB552_553.out
            have hcz76_0 : wc.cell? ⟨gb553, 0, none⟩ = some (.int .i64 t549) := (blk_cell BK553.out 0).trans rfl
            have hcz76_1 : wc.cell? ⟨gb553, 1, none⟩ = some (.int .i64 t550) := (blk_cell BK553.out 1).trans rfl
            have hcz76_2 : wc.cell? ⟨gb553, 2, none⟩ = some (.int .i64 t551) := (blk_cell BK553.out 2).trans rfl
            have hfz76_0 := blk_frozen BK553.out 0
            have hfz76_1 := blk_frozen BK553.out 1
            have hfz76_2 := blk_frozen BK553.out 2
            have hcz77_0 : wc.cell? ⟨gb552, 0, none⟩ = some (.int .i64 t546) := (blk_cell BK552.out 0).trans rfl
            have hcz77_1 : wc.cell? ⟨gb552, 1, none⟩ = some (.int .i64 t547) := (blk_cell BK552.out 1).trans rfl
            have hcz77_2 : wc.cell? ⟨gb552, 2, none⟩ = some (.int .i64 t548) := (blk_cell BK552.out 2).trans rfl
            have hfz77_0 := blk_frozen BK552.out 0
            have hfz77_1 := blk_frozen BK552.out 1
            have hfz77_2 := blk_frozen BK552.out 2
            go_wp2_with (first | (go_at_call 15; (with_reducible refine (impl_HasBetter.calls t549 t550 t551 t546 t547 t548 t558 true _ A73.out).mono ?_); rintro e w78 ⟨rfl, hb⟩; have n0_ := Aside0.mk (blk_below (g := gb552) (o := .cells #[.int .i64 t546, .int .i64 t547, .int .i64 t548] 26 (0, 0)) (by (with_reducible repeat (first | refine blk_drewN ?_ _ | refine blk_drew ?_ | refine blk_alloc ?_ _)); exact BK552.out) hb); have n1_ := Aside0.mk (blk_below (g := gb553) (o := .cells #[.int .i64 t549, .int .i64 t550, .int .i64 t551] 26 (0, 0)) (by (with_reducible repeat (first | refine blk_drewN ?_ _ | refine blk_drew ?_ | refine blk_alloc ?_ _)); exact BK553.out) hb); have n2_ := Aside0.mk (below_step (by repeat (first | (with_reducible first | exact HB.out | apply below_alloc | apply pw_below_drewN | apply below_drew1 | refine below_set ?_ GE552.out | refine below_set ?_ GE553.out) | exact HB.out)) hb); clear BK552; clear BK553; clear HB; have BK552 := n0_; have BK553 := n1_; have HB := n2_; clear n0_ n1_ n2_; (try clear hb); (try clear hb2); (try clear hk); (try clear hi)))
            repeat (go_quiet (first | (go_at_call 15; (with_reducible refine (impl_HasBetter.calls t549 t550 t551 t546 t547 t548 t558 true _ A73.out).mono ?_); rintro e w78 ⟨rfl, hb⟩; have n0_ := Aside0.mk (blk_below (g := gb552) (o := .cells #[.int .i64 t546, .int .i64 t547, .int .i64 t548] 26 (0, 0)) (by (with_reducible repeat (first | refine blk_drewN ?_ _ | refine blk_drew ?_ | refine blk_alloc ?_ _)); exact BK552.out) hb); have n1_ := Aside0.mk (blk_below (g := gb553) (o := .cells #[.int .i64 t549, .int .i64 t550, .int .i64 t551] 26 (0, 0)) (by (with_reducible repeat (first | refine blk_drewN ?_ _ | refine blk_drew ?_ | refine blk_alloc ?_ _)); exact BK553.out) hb); have n2_ := Aside0.mk (below_step (by repeat (first | (with_reducible first | exact HB.out | apply below_alloc | apply pw_below_drewN | apply below_drew1 | refine below_set ?_ GE552.out | refine below_set ?_ GE553.out) | exact HB.out)) hb); clear BK552; clear BK553; clear HB; have BK552 := n0_; have BK553 := n1_; have HB := n2_; clear n0_ n1_ n2_; (try clear hb); (try clear hb2); (try clear hk); (try clear hi))); try go_wp2_with (first | (go_at_call 15; (with_reducible refine (impl_HasBetter.calls t549 t550 t551 t546 t547 t548 t558 true _ A73.out).mono ?_); rintro e w78 ⟨rfl, hb⟩; have n0_ := Aside0.mk (blk_below (g := gb552) (o := .cells #[.int .i64 t546, .int .i64 t547, .int .i64 t548] 26 (0, 0)) (by (with_reducible repeat (first | refine blk_drewN ?_ _ | refine blk_drew ?_ | refine blk_alloc ?_ _)); exact BK552.out) hb); have n1_ := Aside0.mk (blk_below (g := gb553) (o := .cells #[.int .i64 t549, .int .i64 t550, .int .i64 t551] 26 (0, 0)) (by (with_reducible repeat (first | refine blk_drewN ?_ _ | refine blk_drew ?_ | refine blk_alloc ?_ _)); exact BK553.out) hb); have n2_ := Aside0.mk (below_step (by repeat (first | (with_reducible first | exact HB.out | apply below_alloc | apply pw_below_drewN | apply below_drew1 | refine below_set ?_ GE552.out | refine below_set ?_ GE553.out) | exact HB.out)) hb); clear BK552; clear BK553; clear HB; have BK552 := n0_; have BK553 := n1_; have HB := n2_; clear n0_ n1_ n2_; (try clear hb); (try clear hb2); (try clear hk); (try clear hi))))
            go_ret
            exact ⟨by first | rfl | (simp [errW_none, errW_some] <;> rfl) | (simp [*, errW_none, errW_some] <;> rfl), by repeat (first | (with_reducible first | exact HB.out | apply below_alloc | apply pw_below_drewN | apply below_drew1 | refine below_set ?_ GE552.out | refine below_set ?_ GE553.out) | exact HB.out)⟩
           ·replace c74 := Bool.eq_false_iff.mpr c74
            subst c74
            have H1 : (some false) = some r := by rw [if_neg (show ¬ (false = true) by decide)] at H; exact H
            clear H
            have H := H1
            clear H1
            obtain rfl := Option.some.inj H
            have hnb79 := NB553_552.out
            have hnc79 := NB552_553.out
            have hcz80_0 : wc.cell? ⟨gb553, 0, none⟩ = some (.int .i64 t549) := (blk_cell BK553.out 0).trans rfl
            have hcz80_1 : wc.cell? ⟨gb553, 1, none⟩ = some (.int .i64 t550) := (blk_cell BK553.out 1).trans rfl
            have hcz80_2 : wc.cell? ⟨gb553, 2, none⟩ = some (.int .i64 t551) := (blk_cell BK553.out 2).trans rfl
            have hfz80_0 := blk_frozen BK553.out 0
            have hfz80_1 := blk_frozen BK553.out 1
            have hfz80_2 := blk_frozen BK553.out 2
            have hcz81_0 : wc.cell? ⟨gb552, 0, none⟩ = some (.int .i64 t546) := (blk_cell BK552.out 0).trans rfl
            have hcz81_1 : wc.cell? ⟨gb552, 1, none⟩ = some (.int .i64 t547) := (blk_cell BK552.out 1).trans rfl
            have hcz81_2 : wc.cell? ⟨gb552, 2, none⟩ = some (.int .i64 t548) := (blk_cell BK552.out 2).trans rfl
            have hfz81_0 := blk_frozen BK552.out 0
            have hfz81_1 := blk_frozen BK552.out 1
            have hfz81_2 := blk_frozen BK552.out 2
            go_wp2_with (first | (go_at_call 15; (with_reducible refine (impl_HasBetter.calls t549 t550 t551 t546 t547 t548 t558 false _ A73.out).mono ?_); rintro e w82 ⟨rfl, hb⟩; have n0_ := Aside0.mk (blk_below (g := gb552) (o := .cells #[.int .i64 t546, .int .i64 t547, .int .i64 t548] 26 (0, 0)) (by (with_reducible repeat (first | refine blk_drewN ?_ _ | refine blk_drew ?_ | refine blk_alloc ?_ _)); exact BK552.out) hb); have n1_ := Aside0.mk (blk_below (g := gb553) (o := .cells #[.int .i64 t549, .int .i64 t550, .int .i64 t551] 26 (0, 0)) (by (with_reducible repeat (first | refine blk_drewN ?_ _ | refine blk_drew ?_ | refine blk_alloc ?_ _)); exact BK553.out) hb); have n2_ := Aside0.mk (below_step (by repeat (first | (with_reducible first | exact HB.out | apply below_alloc | apply pw_below_drewN | apply below_drew1 | refine below_set ?_ GE552.out | refine below_set ?_ GE553.out) | exact HB.out)) hb); clear BK552; clear BK553; clear HB; have BK552 := n0_; have BK553 := n1_; have HB := n2_; clear n0_ n1_ n2_; (try clear hb); (try clear hb2); (try clear hk); (try clear hi)))
            repeat (go_quiet (first | (go_at_call 15; (with_reducible refine (impl_HasBetter.calls t549 t550 t551 t546 t547 t548 t558 false _ A73.out).mono ?_); rintro e w82 ⟨rfl, hb⟩; have n0_ := Aside0.mk (blk_below (g := gb552) (o := .cells #[.int .i64 t546, .int .i64 t547, .int .i64 t548] 26 (0, 0)) (by (with_reducible repeat (first | refine blk_drewN ?_ _ | refine blk_drew ?_ | refine blk_alloc ?_ _)); exact BK552.out) hb); have n1_ := Aside0.mk (blk_below (g := gb553) (o := .cells #[.int .i64 t549, .int .i64 t550, .int .i64 t551] 26 (0, 0)) (by (with_reducible repeat (first | refine blk_drewN ?_ _ | refine blk_drew ?_ | refine blk_alloc ?_ _)); exact BK553.out) hb); have n2_ := Aside0.mk (below_step (by repeat (first | (with_reducible first | exact HB.out | apply below_alloc | apply pw_below_drewN | apply below_drew1 | refine below_set ?_ GE552.out | refine below_set ?_ GE553.out) | exact HB.out)) hb); clear BK552; clear BK553; clear HB; have BK552 := n0_; have BK553 := n1_; have HB := n2_; clear n0_ n1_ n2_; (try clear hb); (try clear hb2); (try clear hk); (try clear hi))); try go_wp2_with (first | (go_at_call 15; (with_reducible refine (impl_HasBetter.calls t549 t550 t551 t546 t547 t548 t558 false _ A73.out).mono ?_); rintro e w82 ⟨rfl, hb⟩; have n0_ := Aside0.mk (blk_below (g := gb552) (o := .cells #[.int .i64 t546, .int .i64 t547, .int .i64 t548] 26 (0, 0)) (by (with_reducible repeat (first | refine blk_drewN ?_ _ | refine blk_drew ?_ | refine blk_alloc ?_ _)); exact BK552.out) hb); have n1_ := Aside0.mk (blk_below (g := gb553) (o := .cells #[.int .i64 t549, .int .i64 t550, .int .i64 t551] 26 (0, 0)) (by (with_reducible repeat (first | refine blk_drewN ?_ _ | refine blk_drew ?_ | refine blk_alloc ?_ _)); exact BK553.out) hb); have n2_ := Aside0.mk (below_step (by repeat (first | (with_reducible first | exact HB.out | apply below_alloc | apply pw_below_drewN | apply below_drew1 | refine below_set ?_ GE552.out | refine below_set ?_ GE553.out) | exact HB.out)) hb); clear BK552; clear BK553; clear HB; have BK552 := n0_; have BK553 := n1_; have HB := n2_; clear n0_ n1_ n2_; (try clear hb); (try clear hb2); (try clear hk); (try clear hi))))
            go_ret
            exact ⟨by first | rfl | (simp [errW_none, errW_some] <;> rfl) | (simp [*, errW_none, errW_some] <;> rfl), by repeat (first | (with_reducible first | exact HB.out | apply below_alloc | apply pw_below_drewN | apply below_drew1 | refine below_set ?_ GE552.out | refine below_set ?_ GE553.out) | exact HB.out)⟩
          ·replace c72 := Bool.eq_false_iff.mpr c72
           subst c72
           have H1 : (some true) = some r := by rw [if_neg (show ¬ (false = true) by decide)] at H; exact H
           clear H
           have H := H1
           clear H1
           obtain rfl := Option.some.inj H
           go_wp2
           repeat (go_quiet (fail); try go_wp2)
           go_ret
           exact ⟨by first | rfl | (simp [errW_none, errW_some] <;> rfl) | (simp [*, errW_none, errW_some] <;> rfl), by repeat (first | (with_reducible first | exact HB.out | apply below_alloc | apply pw_below_drewN | apply below_drew1 | refine below_set ?_ GE552.out | refine below_set ?_ GE553.out) | exact HB.out)⟩
/-- THE ONE PURE STATEMENT of laws_FnNames: yours. -/
def laws_FnNames.Pure : Prop := ∀ (l0 : List Int) (l1 : List Int), l0.length ≤ maxLen → l0.length * 1 ≤ 140737488351232 → (∀ x ∈ l0, (Lit.int .u8 x).wf = true) → l1.length ≤ maxLen → l1.length * 1 ≤ 140737488351232 → (∀ x ∈ l1, (Lit.int .u8 x).wf = true) → ∃ k, laws_FnNames.f k l0 l1 = some true
theorem laws_FnNames.walk (P : laws_FnNames.Pure) (a0 : Option Addr) (len0 cap0 : Nat) (z0 : List Int) (a1 : Option Addr) (len1 cap1 : Nat) (z1 : List Int) (w : World) (w0 : (a0 = none ∧ len0 = 0 ∧ cap0 = 0 ∧ z0 = []) ∨ ∃ x, a0 = some x ∧ len0 ≤ cap0 ∧ cap0 ≤ maxLen ∧ z0.length = cap0 ∧ (∀ i, i < z0.length → w.cell? (x.add i) = some (.int .u8 (z0.getD i 0))) ∧ ∀ n ∈ z0, (Lit.int .u8 n).wf = true) (y0 : len0 * 1 ≤ 140737488351232) (w1 : (a1 = none ∧ len1 = 0 ∧ cap1 = 0 ∧ z1 = []) ∨ ∃ x, a1 = some x ∧ len1 ≤ cap1 ∧ cap1 ≤ maxLen ∧ z1.length = cap1 ∧ (∀ i, i < z1.length → w.cell? (x.add i) = some (.int .u8 (z1.getD i 0))) ∧ ∀ n ∈ z1, (Lit.int .u8 n).wf = true) (y1 : len1 * 1 ≤ 140737488351232) :
  Calls Try.prog 11 #[.slice a0 len0 cap0, .slice a1 len1 cap1] w fun e w' => e = .returned (.bool true) ∧ Below w.heap.size w w' := by
 obtain ⟨l0, rfl, hr0, hm0, hw0, hc0⟩ := ReadsInt.ofRowC w0
 obtain ⟨l1, rfl, hr1, hm1, hw1, hc1⟩ := ReadsInt.ofRowC w1
 obtain ⟨k, h⟩ := P l0 l1 hm0 y0 hw0 hm1 y1 hw1
 refine (laws_FnNames.calls k _ _ l0 _ _ l1 true w (Kd.C_of_reads (d := (0 : Int)) (h1 := fun _ => rfl) hr0) hc0 (Kd.C_of_reads (d := (0 : Int)) (h1 := fun _ => rfl) hr1) hc1 h).mono ?_
 rintro e w' ⟨rfl, hd⟩
 exact ⟨rfl, hd⟩
end Go.Proofs.Ytljdenmmlkjapaa.P

namespace Go.Proofs.Ytljdenmmlkjapaa.P
open Go.RowKit Go.Proofs.YtljdenmmlkjapaaW.PrintWords
set_option linter.unusedVariables false
set_option linter.unusedSimpArgs false
theorem wrap_id {x : Int} (h0 : -9223372036854775808 ≤ x) (h1 : x ≤ 9223372036854775807) : wrap64 x = x := by unfold wrap64; omega
theorem Ev.succ {α : Type} {g : Nat → Option α} {r : α} (h : Ev (fun k => g (k + 1)) r) : Ev g r := Ev.step (fun _ => rfl) h
theorem Ev.some_ {α : Type} {r s : α} (h : r = s) : Ev (fun _ => some r) s := h ▸ Ev.now r
theorem getD_mid {α : Type} (d : α) (pre : List α) (x : α) (suf : List α) : (pre ++ x :: suf).getD ((pre.length : Int)).toNat d = x := by simp
theorem app_one {α : Type} (pre : List α) (x : α) (suf : List α) : pre ++ x :: suf = (pre ++ [x]) ++ suf := by simp
theorem len_one {α : Type} (pre : List α) (x : α) : ((pre ++ [x]).length : Int) = pre.length + 1 := by simp
theorem nil_or_snoc {α : Type} (l : List α) : l = [] ∨ ∃ p y, l = p ++ [y] := by
 rcases List.eq_nil_or_concat l with rfl | ⟨p, y, rfl⟩
 ·exact .inl rfl
 ·exact .inr ⟨p, y, by simp⟩
end Go.Proofs.Ytljdenmmlkjapaa.P

namespace Go.Proofs.Ytljdenmmlkjapaa.P
open Go.RowKit Go.Proofs.YtljdenmmlkjapaaW.PrintWords Go.Proofs.YtljdenmmlkjapaaW.PrintLast
set_option linter.unusedVariables false
set_option linter.unusedSimpArgs false
theorem rdOwner_mid (pre : List S26) (x : S26) (suf : List S26) : rd_T26 (pre ++ x :: suf) (pre.length : Int) = x := getD_mid _ pre x suf
instance decOwner : DecidableEq S26 := fun a b => decidable_of_iff (a.f0 = b.f0 ∧ a.f1 = b.f1 ∧ a.f2 = b.f2) (by cases a; cases b; simp)
end Go.Proofs.Ytljdenmmlkjapaa.P

namespace Go.Proofs.Ytljdenmmlkjapaa.P
open Go.RowKit Go.Proofs.YtljdenmmlkjapaaW.PrintWords Go.Proofs.YtljdenmmlkjapaaW.PrintLast
set_option linter.unusedVariables false
set_option linter.unusedSimpArgs false
def isOwn (x : S26) : Bool := decide (1 ≤ x.f0 ∧ x.f0 ≤ 1000 ∧ 1 ≤ x.f1 ∧ x.f1 ≤ 50 ∧ 0 ≤ x.f2 ∧ x.f2 ≤ 255)
def goodOwnF : Option S26 → List S26 → Bool
 | _, [] => true
 | none, x :: r => isOwn x && goodOwnF (some x) r
 | some y, x :: r => isOwn x && (decide (y.f0 < x.f0) && goodOwnF (some x) r)
def goodOwn (l : List S26) : Bool := goodOwnF none l && decide (1 ≤ l.length ∧ l.length ≤ 10)
theorem specIn (a b c : Int) : spec_l1In.f a b c = some (decide (b ≤ a ∧ a ≤ c)) := by
 unfold spec_l1In.f
 by_cases h : b ≤ a <;> simp [h]
theorem implIn (a b c : Int) : impl_in.f a b c = some (decide (b ≤ a ∧ a ≤ c)) := specIn a b c
theorem specOwner (x : S26) : spec_l11Owner.f x.f0 x.f1 x.f2 = some (isOwn x) := by
 unfold spec_l11Owner.f isOwn
 simp only [specIn, Option.bind_some]
 by_cases h : 1 ≤ x.f0 ∧ x.f0 ≤ 1000
 ·rw [if_pos (by simp [h])]
  by_cases h2 : 1 ≤ x.f1 ∧ x.f1 ≤ 50
  ·rw [if_pos (by simp [h2])]
   simp [h, h2]
  ·rw [if_neg (by simpa using h2)]
   simp only [Option.some.injEq, Bool.false_eq, decide_eq_false_iff_not]
   exact fun h3 => h2 ⟨h3.2.2.1, h3.2.2.2.1⟩
 ·rw [if_neg (by simpa using h)]
  simp only [Option.some.injEq, Bool.false_eq, decide_eq_false_iff_not]
  exact fun h3 => h ⟨h3.1, h3.2.1⟩
theorem specGoodOwners_l (suf : List S26) : ∀ (pre : List S26) (k : Nat), suf.length < k → (pre.length : Int) + suf.length ≤ 1099511627776 →
  spec_GoodOwners.l0 k (pre ++ suf) (pre ++ suf) ((pre ++ suf).length : Int) (pre.length : Int) = some (goodOwnF pre.getLast? suf && decide (1 ≤ (pre ++ suf).length ∧ (pre ++ suf).length ≤ 10)) := by
 induction suf with
 | nil =>
  intro pre k hk hb
  obtain ⟨k, rfl⟩ : ∃ m, k = m + 1 := ⟨k - 1, by omega⟩
  simp only [spec_GoodOwners.l0]
  rw [if_neg (by simp), specIn]
  simp only [Option.bind_some, Option.some.injEq]
  have : goodOwnF pre.getLast? [] = true := by cases pre.getLast? <;> rfl
  rw [this, Bool.true_and]
  congr 1
  simp only [eq_iff_iff]
  omega
 | cons x suf ih =>
  intro pre k hk hb
  simp only [List.length_cons] at hk hb
  obtain ⟨k, rfl⟩ : ∃ m, k = m + 1 := ⟨k - 1, by omega⟩
  have h := ih (pre ++ [x]) k (by omega) (by simp <;> omega)
  rw [← app_one, len_one, List.getLast?_concat] at h
  simp only [spec_GoodOwners.l0]
  rw [if_pos (by simp <;> omega), if_pos (by omega), if_pos (by simp <;> omega), rdOwner_mid, specOwner, wrap_id (x := (pre.length : Int) + 1) (by omega) (by omega)]
  simp only [Option.bind_some]
  rcases nil_or_snoc pre with rfl | ⟨pre', y, rfl⟩
  ·cases hx : isOwn x with
   | true =>
    rw [if_pos rfl, if_neg (by simp), h]
    simp [goodOwnF, hx]
   | false =>
    rw [if_neg (by decide)]
    simp [goodOwnF, hx]
  ·have hy : rd_T26 ((pre' ++ [y]) ++ x :: suf) (wrap64 (((pre' ++ [y]).length : Int) - 1)) = y := by
    rw [wrap_id (by simp <;> omega) (by simp at hb ⊢ <;> omega)]
    rw [show ((pre' ++ [y]) ++ x :: suf) = pre' ++ y :: (x :: suf) by simp, show (((pre' ++ [y]).length : Int) - 1) = (pre'.length : Int) by simp]
    exact rdOwner_mid _ _ _
   cases hx : isOwn x with
   | true =>
    rw [if_pos rfl, if_pos (by simp <;> omega), if_pos (by rw [wrap_id (by simp <;> omega) (by simp at hb ⊢ <;> omega)]; simp), if_pos (by rw [wrap_id (by simp <;> omega) (by simp at hb ⊢ <;> omega)]; simp; omega), hy]
    by_cases hlt : y.f0 < x.f0
    ·rw [if_neg (by omega), h]
     simp [goodOwnF, hx, hlt]
    ·rw [if_pos (by omega)]
     simp [goodOwnF, hx, hlt]
   | false =>
    rw [if_neg (by decide)]
    simp [goodOwnF, hx]
theorem specGoodOwners_ev (l : List S26) (hl : l.length ≤ 1048576) : Ev (fun k => spec_GoodOwners.f k l) (goodOwn l) := by
 refine ⟨l.length + 1, fun k hk => ?_⟩
 show spec_GoodOwners.f k l = _
 unfold spec_GoodOwners.f
 exact specGoodOwners_l l [] k (by omega) (by simp <;> omega)
theorem goodOwners_same : ∀ k a b c d, impl_GoodOwners.l0 k a b c d = spec_GoodOwners.l0 k a b c d
 | 0, _, _, _, _ => rfl
 | k + 1, a, b, c, d => by
  have e : impl_isOwner.f = spec_l11Owner.f := rfl
  have e2 : impl_in.f = spec_l1In.f := rfl
  simp only [impl_GoodOwners.l0, spec_GoodOwners.l0, goodOwners_same k, e, e2]
theorem implGoodOwners_ev (l : List S26) (hl : l.length ≤ 1048576) : Ev (fun k => impl_GoodOwners.f k l) (goodOwn l) := by
 refine Ev.congr (fun k => ?_) (specGoodOwners_ev l hl)
 exact goodOwners_same k _ _ _ _
theorem goodOwn_len {l : List S26} (h : goodOwn l = true) : 1 ≤ l.length ∧ l.length ≤ 10 := by
 unfold goodOwn at h
 simp only [Bool.and_eq_true, decide_eq_true_eq] at h
 exact h.2
theorem goodOwnF_all : ∀ (l : List S26) (o : Option S26), goodOwnF o l = true → ∀ x ∈ l, isOwn x = true
 | [], _, _, x, hx => by simp at hx
 | y :: r, o, h, x, hx => by
  have h2 : isOwn y = true ∧ goodOwnF (some y) r = true := by
   cases o with
   | none => simpa [goodOwnF] using h
   | some z =>
    simp only [goodOwnF, Bool.and_eq_true] at h
    exact ⟨h.1, h.2.2⟩
  rcases List.mem_cons.1 hx with rfl | hx
  ·exact h2.1
  ·exact goodOwnF_all r _ h2.2 x hx
theorem goodOwn_all {l : List S26} (h : goodOwn l = true) : ∀ x ∈ l, isOwn x = true := by
 unfold goodOwn at h
 simp only [Bool.and_eq_true] at h
 exact goodOwnF_all l none h.1
theorem isOwn_iff (x : S26) : isOwn x = true ↔ (1 ≤ x.f0 ∧ x.f0 ≤ 1000 ∧ 1 ≤ x.f1 ∧ x.f1 ≤ 50 ∧ 0 ≤ x.f2 ∧ x.f2 ≤ 255) := by unfold isOwn; simp only [decide_eq_true_eq]
end Go.Proofs.Ytljdenmmlkjapaa.P

namespace Go.Proofs.Ytljdenmmlkjapaa.P
open Go.RowKit Go.Proofs.YtljdenmmlkjapaaW.PrintWords Go.Proofs.YtljdenmmlkjapaaW.PrintLast
set_option linter.unusedVariables false
set_option linter.unusedSimpArgs false
def fstSame (nm : Int) : List S26 → Int → Option Int
 | [], _ => none
 | x :: r, j => if x.f1 = nm then some j else fstSame nm r (j + 1)
def clashM : List S26 → Int → Option (Int × Int)
 | [], _ => none
 | x :: r, i => match fstSame x.f1 r (i + 1) with
  | some j => some (i, j)
  | none => clashM r (i + 1)
def clash2 : Option (Int × Int) → Int × Int
 | none => (-1, -1)
 | some p => p
def clash3 : Option (Int × Int) → Int × Int × Bool
 | none => (0, 0, false)
 | some p => (p.1, p.2, true)
theorem specClash_l1 (i a nm c : Int) (r : Int × Int) (suf : List S26) : ∀ (pre : List S26), (pre.length : Int) + suf.length ≤ 1099511627776 →
  (match fstSame nm suf (pre.length : Int) with | some j => r = (i, j) | none => Ev (fun k => spec_l11Clash.l0 k (pre ++ suf) (pre ++ suf) ((pre ++ suf).length : Int) (wrap64 (i + 1))) r) →
  Ev (fun k => spec_l11Clash.l1 k (pre ++ suf) i (pre.length : Int) (pre ++ suf) ((pre ++ suf).length : Int) i a nm c) r := by
 induction suf with
 | nil =>
  intro pre hb h
  refine Ev.succ ?_
  simp only [spec_l11Clash.l1]
  simp only [if_neg (show ¬ (pre.length : Int) < ((pre ++ ([] : List S26)).length : Int) by simp)]
  exact h
 | cons x suf ih =>
  intro pre hb h
  simp only [List.length_cons] at hb
  refine Ev.succ ?_
  simp only [spec_l11Clash.l1]
  simp only [if_pos (show (pre.length : Int) < ((pre ++ x :: suf).length : Int) by simp <;> omega), if_pos (show (0 : Int) ≤ (pre.length : Int) by omega), rdOwner_mid, wrap_id (x := (pre.length : Int) + 1) (by omega) (by omega)]
  by_cases hx : x.f1 = nm
  ·simp only [if_pos hx]
   simp only [fstSame, if_pos hx] at h
   exact Ev.some_ h.symm
  ·simp only [if_neg hx]
   simp only [fstSame, if_neg hx] at h
   have := ih (pre ++ [x]) (by simp <;> omega) (by rw [← app_one, len_one]; exact h)
   rw [← app_one, len_one] at this
   exact this
theorem specClash_l0 (suf : List S26) : ∀ (pre : List S26), (pre.length : Int) + suf.length ≤ 1099511627776 →
  Ev (fun k => spec_l11Clash.l0 k (pre ++ suf) (pre ++ suf) ((pre ++ suf).length : Int) (pre.length : Int)) (clash2 (clashM suf (pre.length : Int))) := by
 induction suf with
 | nil =>
  intro pre hb
  refine Ev.succ ?_
  simp only [spec_l11Clash.l0]
  simp only [if_neg (show ¬ (pre.length : Int) < ((pre ++ ([] : List S26)).length : Int) by simp)]
  exact Ev.now _
 | cons x suf ih =>
  intro pre hb
  simp only [List.length_cons] at hb
  refine Ev.succ ?_
  simp only [spec_l11Clash.l0]
  have c1 : (pre.length : Int) < ((pre ++ x :: suf).length : Int) := by simp <;> omega
  simp only [if_pos c1, if_pos (show (0 : Int) ≤ (pre.length : Int) by omega), rdOwner_mid, wrap_id (x := (pre.length : Int) + 1) (by omega) (by omega)]
  have h := ih (pre ++ [x]) (by simp <;> omega)
  rw [← app_one, len_one] at h
  have h2 := specClash_l1 (pre.length : Int) x.f0 x.f1 x.f2 (clash2 (clashM (x :: suf) (pre.length : Int))) suf (pre ++ [x]) (by simp <;> omega)
  rw [← app_one, len_one] at h2
  refine h2 ?_
  cases hf : fstSame x.f1 suf ((pre.length : Int) + 1) with
  | some j => simp [clashM, hf, clash2]
  | none =>
   simp only [wrap_id (x := (pre.length : Int) + 1) (by omega) (by omega)]
   simpa [clashM, hf] using h
theorem specClash_ev (l : List S26) (hl : l.length ≤ 1048576) : Ev (fun k => spec_l11Clash.f k l) (clash2 (clashM l 0)) := by
 unfold spec_l11Clash.f
 exact specClash_l0 l [] (by simp <;> omega)
theorem implClash_l1 (i a nm c : Int) (r : Int × Int × Bool) (suf : List S26) : ∀ (pre : List S26), (pre.length : Int) + suf.length ≤ 1099511627776 →
  (match fstSame nm suf (pre.length : Int) with | some j => r = (i, j, true) | none => Ev (fun k => impl_clash.l0 k (pre ++ suf) (pre ++ suf) ((pre ++ suf).length : Int) (wrap64 (i + 1))) r) →
  Ev (fun k => impl_clash.l1 k (pre ++ suf) i (pre.length : Int) (pre ++ suf) ((pre ++ suf).length : Int) i a nm c) r := by
 induction suf with
 | nil =>
  intro pre hb h
  refine Ev.succ ?_
  simp only [impl_clash.l1]
  simp only [if_neg (show ¬ (pre.length : Int) < ((pre ++ ([] : List S26)).length : Int) by simp)]
  exact h
 | cons x suf ih =>
  intro pre hb h
  simp only [List.length_cons] at hb
  refine Ev.succ ?_
  simp only [impl_clash.l1]
  simp only [if_pos (show (pre.length : Int) < ((pre ++ x :: suf).length : Int) by simp <;> omega), if_pos (show (0 : Int) ≤ (pre.length : Int) by omega), rdOwner_mid, wrap_id (x := (pre.length : Int) + 1) (by omega) (by omega)]
  by_cases hx : x.f1 = nm
  ·simp only [if_pos hx.symm]
   simp only [fstSame, if_pos hx] at h
   exact Ev.some_ h.symm
  ·simp only [if_neg (fun e => hx (Eq.symm e) : ¬ nm = x.f1)]
   simp only [fstSame, if_neg hx] at h
   have := ih (pre ++ [x]) (by simp <;> omega) (by rw [← app_one, len_one]; exact h)
   rw [← app_one, len_one] at this
   exact this
theorem implClash_l0 (suf : List S26) : ∀ (pre : List S26), (pre.length : Int) + suf.length ≤ 1099511627776 →
  Ev (fun k => impl_clash.l0 k (pre ++ suf) (pre ++ suf) ((pre ++ suf).length : Int) (pre.length : Int)) (clash3 (clashM suf (pre.length : Int))) := by
 induction suf with
 | nil =>
  intro pre hb
  refine Ev.succ ?_
  simp only [impl_clash.l0]
  simp only [if_neg (show ¬ (pre.length : Int) < ((pre ++ ([] : List S26)).length : Int) by simp)]
  exact Ev.now _
 | cons x suf ih =>
  intro pre hb
  simp only [List.length_cons] at hb
  refine Ev.succ ?_
  simp only [impl_clash.l0]
  have c1 : (pre.length : Int) < ((pre ++ x :: suf).length : Int) := by simp <;> omega
  simp only [if_pos c1, if_pos (show (0 : Int) ≤ (pre.length : Int) by omega), rdOwner_mid, wrap_id (x := (pre.length : Int) + 1) (by omega) (by omega)]
  have h := ih (pre ++ [x]) (by simp <;> omega)
  rw [← app_one, len_one] at h
  have h2 := implClash_l1 (pre.length : Int) x.f0 x.f1 x.f2 (clash3 (clashM (x :: suf) (pre.length : Int))) suf (pre ++ [x]) (by simp <;> omega)
  rw [← app_one, len_one] at h2
  refine h2 ?_
  cases hf : fstSame x.f1 suf ((pre.length : Int) + 1) with
  | some j => simp [clashM, hf, clash3]
  | none =>
   simp only [wrap_id (x := (pre.length : Int) + 1) (by omega) (by omega)]
   simpa [clashM, hf] using h
theorem implClash_ev (l : List S26) (hl : l.length ≤ 1048576) : Ev (fun k => impl_clash.f k l) (clash3 (clashM l 0)) := by
 unfold impl_clash.f
 exact implClash_l0 l [] (by simp <;> omega)
/-- Where the two lie, and what is said of them. -/
theorem fstSame_some (nm : Int) : ∀ (l : List S26) (b j : Int), fstSame nm l b = some j → ∃ n : Nat, j = b + n ∧ n < l.length ∧ (l.getD n z26).f1 = nm
 | [], _, _, h => by simp [fstSame] at h
 | x :: r, b, j, h => by
  by_cases hx : x.f1 = nm
  ·simp only [fstSame, if_pos hx, Option.some.injEq] at h
   exact ⟨0, by omega, by simp, by simpa using hx⟩
  ·simp only [fstSame, if_neg hx] at h
   obtain ⟨n, h1, h2, h3⟩ := fstSame_some nm r (b + 1) j h
   exact ⟨n + 1, by omega, by simpa using h2, by simpa using h3⟩
theorem clashM_some : ∀ (l : List S26) (b i j : Int), clashM l b = some (i, j) → ∃ n m : Nat, i = b + n ∧ j = b + m ∧ n < m ∧ m < l.length ∧ (l.getD n z26).f1 = (l.getD m z26).f1
 | [], _, _, _, h => by simp [clashM] at h
 | x :: r, b, i, j, h => by
  cases hf : fstSame x.f1 r (b + 1) with
  | some q =>
   simp only [clashM, hf, Option.some.injEq, Prod.mk.injEq] at h
   obtain ⟨n, h1, h2, h3⟩ := fstSame_some _ _ _ _ hf
   exact ⟨0, n + 1, by omega, by omega, by omega, by simpa using h2, by simpa using h3.symm⟩
  | none =>
   simp only [clashM, hf] at h
   obtain ⟨n, m, h1, h2, h3, h4, h5⟩ := clashM_some r (b + 1) i j h
   exact ⟨n + 1, m + 1, by omega, by omega, by omega, by simpa using h4, by simpa using h5⟩
end Go.Proofs.Ytljdenmmlkjapaa.P

namespace Go.Proofs.Ytljdenmmlkjapaa.P
open Go.RowKit Go.Proofs.YtljdenmmlkjapaaW.PrintWords Go.Proofs.YtljdenmmlkjapaaW.PrintLast
set_option linter.unusedVariables false
set_option linter.unusedSimpArgs false
def betterOf (a b : S26) : Bool := decide (a.f2 > b.f2) || (decide (a.f2 = b.f2) && decide (a.f0 > b.f0))
theorem specBetter (a b : S26) : spec_l11Better.f a.f0 a.f1 a.f2 b.f0 b.f1 b.f2 = some (betterOf a b) := by
 unfold spec_l11Better.f betterOf
 by_cases h : a.f2 > b.f2
 ·rw [if_pos h]; simp [h]
 ·rw [if_neg h]
  by_cases h2 : a.f2 = b.f2
  ·rw [if_pos h2]; simp [h2]
  ·rw [if_neg h2]; simp [h, h2]
theorem implBetter (a b : S26) : impl_hasBetter.f a.f0 a.f1 a.f2 b.f0 b.f1 b.f2 = some (betterOf a b) := specBetter a b
def bestF (nm : Int) : Option S26 → List S26 → Option S26
 | b, [] => b
 | none, x :: r => if x.f1 = nm then bestF nm (some x) r else bestF nm none r
 | some y, x :: r => if x.f1 = nm then (if betterOf x y = true then bestF nm (some x) r else bestF nm (some y) r) else bestF nm (some y) r
def whoOf : Option S26 → Int × Bool
 | none => (0, false)
 | some y => (y.f0, true)
def whoHas (l : List S26) (nm : Int) : Int × Bool := if goodOwn l = true ∧ 1 ≤ nm ∧ nm ≤ 50 then whoOf (bestF nm none l) else (0, false)
theorem implWho_l (nm : Int) (suf : List S26) : ∀ (pre : List S26) (b : Option S26) (c : S26), (pre.length : Int) + suf.length ≤ 1099511627776 → (∀ x ∈ suf, 1 ≤ x.f0) →
  (match b with | none => c = ⟨0, 0, 0⟩ | some y => c = y ∧ 1 ≤ y.f0) →
  Ev (fun k => impl_WhoHas.l0 k nm (pre ++ suf) ((pre ++ suf).length : Int) (pre.length : Int) c.f0 c.f1 c.f2) (whoOf (bestF nm b suf)) := by
 induction suf with
 | nil =>
  intro pre b c hb hpos h
  refine Ev.succ ?_
  simp only [impl_WhoHas.l0]
  simp only [if_neg (show ¬ (pre.length : Int) < ((pre ++ ([] : List S26)).length : Int) by simp)]
  cases b with
  | none =>
   have h : c = ⟨0, 0, 0⟩ := h
   subst h
   exact Ev.now _
  | some y =>
   obtain ⟨rfl, h2⟩ := h
   refine Ev.some_ ?_
   simp only [bestF, whoOf, Prod.mk.injEq, true_and, decide_eq_true_eq]
   omega
 | cons x suf ih =>
  intro pre b c hb hpos h
  simp only [List.length_cons] at hb
  refine Ev.succ ?_
  simp only [impl_WhoHas.l0]
  have c1 : (pre.length : Int) < ((pre ++ x :: suf).length : Int) := by simp <;> omega
  have c0 : (0 : Int) ≤ (pre.length : Int) := by omega
  simp only [if_pos c1, if_pos c0, rdOwner_mid, wrap_id (x := (pre.length : Int) + 1) (by omega) (by omega)]
  have h2 := ih (pre ++ [x])
  rw [← app_one, len_one] at h2
  have hp2 : ∀ z ∈ suf, 1 ≤ z.f0 := fun z hz => hpos z (by simp [hz])
  by_cases hx : x.f1 = nm
  ·simp only [if_pos hx]
   cases b with
   | none =>
    have h : c = ⟨0, 0, 0⟩ := h
    subst h
    simp only [if_true]
    rw [show bestF nm none (x :: suf) = bestF nm (some x) suf by simp [bestF, hx]]
    exact h2 (some x) x (by omega) hp2 ⟨rfl, hpos x (by simp)⟩
   | some y =>
    obtain ⟨rfl, g2⟩ := h
    simp only [if_neg (show ¬ c.f0 = 0 by omega), implBetter, Option.bind_some]
    cases hbt : betterOf x c with
    | true =>
     simp only [if_true]
     rw [show bestF nm (some c) (x :: suf) = bestF nm (some x) suf by simp [bestF, hx, hbt]]
     exact h2 (some x) x (by omega) hp2 ⟨rfl, hpos x (by simp)⟩
    | false =>
     simp only [Bool.false_eq_true, if_false]
     rw [show bestF nm (some c) (x :: suf) = bestF nm (some c) suf by simp [bestF, hx, hbt]]
     exact h2 (some c) c (by omega) hp2 ⟨rfl, g2⟩
  ·simp only [if_neg hx]
   rw [show bestF nm b (x :: suf) = bestF nm b suf by cases b <;> simp [bestF, hx]]
   exact h2 b c (by omega) hp2 h
theorem implWho_ev (l : List S26) (nm : Int) (hl : l.length ≤ 1048576) : Ev (fun k => impl_WhoHas.f k l nm) (whoHas l nm) := by
 unfold impl_WhoHas.f
 refine Ev.bind (implGoodOwners_ev l hl) ?_
 simp only [implIn, Option.bind_some]
 unfold whoHas
 cases hg : goodOwn l with
 | false =>
  simp only [Bool.false_eq_true, if_false, false_and]
  refine Ev.succ ?_
  simp only [impl_WhoHas.j0, if_true]
  exact Ev.now _
 | true =>
  simp only [if_true, true_and]
  refine Ev.succ ?_
  simp only [impl_WhoHas.j0]
  by_cases hn : 1 ≤ nm ∧ nm ≤ 50
  ·simp only [hn, and_self, decide_true, Bool.not_true, Bool.false_eq_true, if_false, if_true]
   exact implWho_l nm l [] none ⟨0, 0, 0⟩ (by simp <;> omega) (fun x hx => ((isOwn_iff x).1 (goodOwn_all hg x hx)).1) rfl
  ·simp only [hn, decide_false, Bool.not_false, if_true, if_false]
   exact Ev.now _
end Go.Proofs.Ytljdenmmlkjapaa.P

namespace Go.Proofs.Ytljdenmmlkjapaa.P
open Go.RowKit Go.Proofs.YtljdenmmlkjapaaW.PrintWords Go.Proofs.YtljdenmmlkjapaaW.PrintLast
set_option linter.unusedVariables false
set_option linter.unusedSimpArgs false
theorem erase_len_le {α : Type} [DecidableEq α] {x : α} : ∀ {M : List α}, x ∈ M → (M.erase x).length + 1 = M.length := by
 intro M h
 have := List.length_erase_of_mem h
 have h2 : 0 < M.length := List.length_pos_of_mem h
 omega
theorem nodup_le {α : Type} [DecidableEq α] : ∀ (L M : List α), L.Nodup → (∀ x ∈ L, x ∈ M) → L.length ≤ M.length
 | [], _, _, _ => Nat.zero_le _
 | x :: L, M, hn, hs => by
  have hx : x ∈ M := hs x (by simp)
  rw [List.nodup_cons] at hn
  have h := nodup_le L (M.erase x) hn.2 (fun y hy => by
   have : y ≠ x := fun e => hn.1 (e ▸ hy)
   exact (List.mem_erase_of_ne this).2 (hs y (by simp [hy])))
  have := erase_len_le hx
  simp only [List.length_cons]
  omega
end Go.Proofs.Ytljdenmmlkjapaa.P

namespace Go.Proofs.Ytljdenmmlkjapaa.P
open Go.RowKit Go.Proofs.YtljdenmmlkjapaaW.PrintWords Go.Proofs.YtljdenmmlkjapaaW.PrintLast
set_option linter.unusedVariables false
set_option linter.unusedSimpArgs false
def nx (a : Int) : Int := a % 50 + 1
def nxi : Nat → Int → Int
 | 0, a => a
 | n + 1, a => nxi n (nx a)
def hasName (l : List S26) (m : Int) : Bool := l.any (fun x => x.f1 == m)
def nfM : Nat → List S26 → Int → Int
 | 0, _, a => a
 | n + 1, l, a => if hasName l (nx a) = true then nfM n l (nx a) else nx a
def nextFreeM (l : List S26) (a : Int) : Int := nfM 50 l a
theorem nx_tmod {a : Int} (h0 : 0 ≤ a) (h1 : a ≤ 4294967296) : wrap64 (Int.tmod a 50 + 1) = nx a := by
 rw [Int.tmod_eq_emod_of_nonneg h0, wrap_id (by omega) (by omega)]
 rfl
theorem nx_range {a : Int} (h0 : 0 ≤ a) : 1 ≤ nx a ∧ nx a ≤ 50 := by unfold nx; omega
theorem nxi_is : ∀ (n : Nat) (a : Int), 1 ≤ a → a ≤ 50 → nxi n a = (a - 1 + n) % 50 + 1
 | 0, a, h0, h1 => by simp only [nxi]; omega
 | n + 1, a, h0, h1 => by
  simp only [nxi]
  rw [nxi_is n (nx a) (nx_range (by omega)).1 (nx_range (by omega)).2]
  unfold nx
  omega
def names (a : Int) (n : Nat) : List Int := (List.range n).map fun j => nxi (j + 1) a
theorem names_nodup {a : Int} (h0 : 1 ≤ a) (h1 : a ≤ 50) {n : Nat} (hn : n ≤ 50) : (names a n).Nodup := by
 unfold names
 rw [List.Nodup, List.pairwise_map]
 refine List.Pairwise.imp_of_mem ?_ List.nodup_range
 intro i j hi hj hne he
 rw [List.mem_range] at hi hj
 rw [nxi_is _ _ h0 h1, nxi_is _ _ h0 h1] at he
 omega
/-- Of eleven names that stand one behind the other one is free. -/
theorem some_free (l : List S26) (hl : l.length ≤ 10) {a : Int} (h0 : 1 ≤ a) (h1 : a ≤ 50) : ∃ n, n < 11 ∧ hasName l (nxi (n + 1) a) = false := by
 refine Classical.byContradiction fun hc => ?_
 have hall : ∀ n, n < 11 → hasName l (nxi (n + 1) a) = true := fun n hn => by
  cases h : hasName l (nxi (n + 1) a) with
  | true => rfl
  | false => exact absurd ⟨n, hn, h⟩ hc
 have h := nodup_le (names a 11) (l.map (fun x => x.f1)) (names_nodup h0 h1 (by omega)) (fun m hm => by
  unfold names at hm
  obtain ⟨j, hj, rfl⟩ := List.mem_map.1 hm
  rw [List.mem_range] at hj
  have := hall j hj
  unfold hasName at this
  obtain ⟨x, hx, he⟩ := List.any_eq_true.1 this
  exact List.mem_map.2 ⟨x, hx, by simpa using he⟩)
 unfold names at h
 simp only [List.length_map, List.length_range] at h
 omega
theorem nfM_ok (l : List S26) : ∀ (n : Nat) (a : Int), 1 ≤ a → a ≤ 50 → (∃ j, j < n ∧ hasName l (nxi (j + 1) a) = false) → hasName l (nfM n l a) = false ∧ 1 ≤ nfM n l a ∧ nfM n l a ≤ 50
 | 0, a, _, _, ⟨j, hj, _⟩ => absurd hj (Nat.not_lt_zero _)
 | n + 1, a, h0, h1, ⟨j, hj, hf⟩ => by
  have hr := nx_range (a := a) (by omega)
  cases hh : hasName l (nx a) with
  | false =>
   simp only [nfM, hh, Bool.false_eq_true, if_false]
   exact ⟨trivial, hr.1, hr.2⟩
  | true =>
   simp only [nfM, hh, if_true]
   cases j with
   | zero =>
    have hf : hasName l (nx a) = false := hf
    rw [hh] at hf; cases hf
   | succ j => exact nfM_ok l n (nx a) hr.1 hr.2 ⟨j, by omega, hf⟩
theorem specFree_l1 (m : Int) (r : Int) (suf : List S26) : ∀ (pre : List S26) (b : Bool), (pre.length : Int) + suf.length ≤ 1099511627776 →
  (if (b || suf.any (fun x => x.f1 == m)) = true then Ev (fun k => spec_l11Free.l0 k (pre ++ suf) m) r else r = m) →
  Ev (fun k => spec_l11Free.l1 k (pre ++ suf) m b (pre ++ suf) ((pre ++ suf).length : Int) (pre.length : Int)) r := by
 induction suf with
 | nil =>
  intro pre b hb h
  refine Ev.succ ?_
  simp only [spec_l11Free.l1]
  simp only [if_neg (show ¬ (pre.length : Int) < ((pre ++ ([] : List S26)).length : Int) by simp)]
  cases b with
  | true =>
   simp only [if_true]
   simpa using h
  | false =>
   simp only [Bool.false_eq_true, if_false]
   have h : r = m := by simpa using h
   exact Ev.some_ h.symm
 | cons x suf ih =>
  intro pre b hb h
  simp only [List.length_cons] at hb
  refine Ev.succ ?_
  simp only [spec_l11Free.l1]
  have c1 : (pre.length : Int) < ((pre ++ x :: suf).length : Int) := by simp <;> omega
  have c0 : (0 : Int) ≤ (pre.length : Int) := by omega
  simp only [if_pos c1, if_pos c0, rdOwner_mid, wrap_id (x := (pre.length : Int) + 1) (by omega) (by omega)]
  have h2 := ih (pre ++ [x])
  rw [← app_one, len_one] at h2
  cases b with
  | true =>
   simp only [if_true]
   exact h2 true (by omega) (by simpa using h)
  | false =>
   simp only [Bool.false_eq_true, if_false]
   refine h2 (x.f1 == m) (by omega) ?_
   simpa only [List.any_cons, Bool.false_or] using h
theorem specFree_l0 (l : List S26) (hl : l.length ≤ 1048576) : ∀ (n : Nat) (a : Int), 1 ≤ a → a ≤ 50 → (∃ j, j < n ∧ hasName l (nxi (j + 1) a) = false) → Ev (fun k => spec_l11Free.l0 k l a) (nfM n l a)
 | 0, a, _, _, ⟨j, hj, _⟩ => absurd hj (Nat.not_lt_zero _)
 | n + 1, a, h0, h1, ⟨j, hj, hf⟩ => by
  have hr := nx_range (a := a) (by omega)
  refine Ev.succ ?_
  simp only [spec_l11Free.l0]
  rw [nx_tmod (by omega) (by omega)]
  refine specFree_l1 (nx a) _ l [] false (by simp <;> omega) ?_
  cases hh : hasName l (nx a) with
  | false =>
   have hh2 : l.any (fun x => x.f1 == nx a) = false := hh
   simp only [hh2, Bool.or_false, Bool.false_eq_true, if_false]
   simp only [nfM, hh, Bool.false_eq_true, if_false]
  | true =>
   have hh2 : l.any (fun x => x.f1 == nx a) = true := hh
   simp only [hh2, Bool.false_or, if_true, nfM, hh, List.nil_append]
   cases j with
   | zero =>
    have hf : hasName l (nx a) = false := hf
    rw [hh] at hf; cases hf
   | succ j => exact specFree_l0 l hl n (nx a) hr.1 hr.2 ⟨j, by omega, hf⟩
theorem implFree_l0 (l : List S26) : ∀ (n : Nat) (a : Int), 1 ≤ a → a ≤ 50 → (∃ j, j < n ∧ hasName l (nxi (j + 1) a) = false) → Ev (fun k => impl_nextFree.l0 k l a) (nfM n l a)
 | 0, a, _, _, ⟨j, hj, _⟩ => absurd hj (Nat.not_lt_zero _)
 | n + 1, a, h0, h1, ⟨j, hj, hf⟩ => by
  have hr := nx_range (a := a) (by omega)
  refine Ev.succ ?_
  simp only [impl_nextFree.l0]
  rw [nx_tmod (by omega) (by omega)]
  cases hh : hasName l (nx a) with
  | false =>
   have hh2 : l.any (fun x => x.f1 == nx a) = false := hh
   simp only [hh2, Bool.false_eq_true, if_false, nfM, hh]
   exact Ev.now _
  | true =>
   have hh2 : l.any (fun x => x.f1 == nx a) = true := hh
   simp only [hh2, if_true, nfM, hh]
   cases j with
   | zero =>
    have hf : hasName l (nx a) = false := hf
    rw [hh] at hf; cases hf
   | succ j => exact implFree_l0 l n (nx a) hr.1 hr.2 ⟨j, by omega, hf⟩
theorem free_within (l : List S26) (hl : l.length ≤ 10) {a : Int} (h0 : 1 ≤ a) (h1 : a ≤ 50) : ∃ j, j < 50 ∧ hasName l (nxi (j + 1) a) = false := by
 obtain ⟨n, hn, h⟩ := some_free l hl h0 h1
 exact ⟨n, by omega, h⟩
theorem specFree_ev (l : List S26) (hl : l.length ≤ 10) (a : Int) (h0 : 1 ≤ a) (h1 : a ≤ 50) : Ev (fun k => spec_l11Free.f k l a) (nextFreeM l a) := by
 unfold spec_l11Free.f
 exact specFree_l0 l (by omega) 50 a h0 h1 (free_within l hl h0 h1)
theorem implFree_ev (l : List S26) (hl : l.length ≤ 10) (a : Int) (h0 : 1 ≤ a) (h1 : a ≤ 50) : Ev (fun k => impl_nextFree.f k l a) (nextFreeM l a) := by
 unfold impl_nextFree.f
 exact implFree_l0 l 50 a h0 h1 (free_within l hl h0 h1)
theorem nextFreeM_ok (l : List S26) (hl : l.length ≤ 10) {a : Int} (h0 : 1 ≤ a) (h1 : a ≤ 50) : hasName l (nextFreeM l a) = false ∧ 1 ≤ nextFreeM l a ∧ nextFreeM l a ≤ 50 :=
 nfM_ok l 50 a h0 h1 (free_within l hl h0 h1)
end Go.Proofs.Ytljdenmmlkjapaa.P

namespace Go.Proofs.Ytljdenmmlkjapaa.P
open Go.RowKit Go.Proofs.YtljdenmmlkjapaaW.PrintWords Go.Proofs.YtljdenmmlkjapaaW.PrintLast
set_option linter.unusedVariables false
set_option linter.unusedSimpArgs false
def loserOf (l : List S26) (p : Int × Int) : Int := if betterOf (rd_T26 l p.1) (rd_T26 l p.2) = true then p.2 else p.1
def renamed (l : List S26) (w : Int) : List S26 := l.set w.toNat ⟨(rd_T26 l w).f0, nextFreeM l (rd_T26 l w).f1, (rd_T26 l w).f2⟩
def giveM (l : List S26) : Option (List S26 × Int) :=
 match clashM l 0 with
 | none => none
 | some p => some (renamed l (loserOf l p), (rd_T26 l (loserOf l p)).f0)
theorem rd_mem (l : List S26) (w : Int) (h0 : 0 ≤ w) (h1 : w < (l.length : Int)) : rd_T26 l w ∈ l := by
 unfold rd_T26
 rw [List.getD_eq_getElem?_getD, List.getElem?_eq_getElem (by omega)]
 exact List.getElem_mem _
theorem rd_set (l : List S26) (w : Int) (x : S26) (h0 : 0 ≤ w) (h1 : w < (l.length : Int)) : rd_T26 (l.set w.toNat x) w = x := by
 unfold rd_T26
 rw [List.getD_eq_getElem?_getD, List.getElem?_set_self (by omega)]
 rfl
theorem specGive_ev (l : List S26) (hg : goodOwn l = true) : Ev (fun k => spec_l11Give.f k l) (match giveM l with | none => (0, l) | some p => (p.2, p.1)) := by
 have hl := (goodOwn_len hg).2
 unfold spec_l11Give.f giveM
 refine Ev.bind (specClash_ev l (by omega)) ?_
 cases hc : clashM l 0 with
 | none =>
  rw [show clash2 none = (-1, -1) from rfl]
  simp only [if_pos (show (-1 : Int) < 0 by decide)]
  exact Ev.now _
 | some p =>
  obtain ⟨i, j⟩ := p
  obtain ⟨n, m, h1, h2, h3, h4, _⟩ := clashM_some l 0 i j hc
  have hi : isOwn (rd_T26 l i) = true := goodOwn_all hg _ (rd_mem l i (by omega) (by omega))
  have hj : isOwn (rd_T26 l j) = true := goodOwn_all hg _ (rd_mem l j (by omega) (by omega))
  rw [isOwn_iff] at hi hj
  rw [show clash2 (some (i, j)) = (i, j) from rfl]
  simp only [if_neg (show ¬ i < 0 by omega), if_pos (show 0 ≤ i by omega), if_pos (show i < (l.length : Int) by omega), if_pos (show 0 ≤ j by omega), if_pos (show j < (l.length : Int) by omega), specBetter, Option.bind_some]
  cases hb : betterOf (rd_T26 l i) (rd_T26 l j) with
  | true =>
   simp only [if_true]
   refine Ev.bind (specFree_ev l hl _ hj.2.2.1 hj.2.2.2.1) ?_
   refine Ev.some_ ?_
   rw [rd_set l j _ (by omega) (by omega)]
   simp only [loserOf, hb, if_true, renamed]
  | false =>
   simp only [Bool.false_eq_true, if_false]
   refine Ev.bind (specFree_ev l hl _ hi.2.2.1 hi.2.2.2.1) ?_
   refine Ev.some_ ?_
   rw [rd_set l i _ (by omega) (by omega)]
   simp only [loserOf, hb, Bool.false_eq_true, if_false, renamed]
def giveWay (l : List S26) : List S26 × Int × Bool :=
 if goodOwn l = true then (match giveM l with | none => ([], 0, false) | some p => (p.1, p.2, true)) else ([], 0, false)
theorem giveM_id {l y : List S26} {id : Int} (hg : goodOwn l = true) (h : giveM l = some (y, id)) : 1 ≤ id := by
 unfold giveM at h
 cases hc : clashM l 0 with
 | none => rw [hc] at h; cases h
 | some p =>
  obtain ⟨i, j⟩ := p
  rw [hc] at h
  simp only [Option.some.injEq, Prod.mk.injEq] at h
  obtain ⟨n, m, h1, h2, h3, h4, _⟩ := clashM_some l 0 i j hc
  have hi : isOwn (rd_T26 l i) = true := goodOwn_all hg _ (rd_mem l i (by omega) (by omega))
  have hj : isOwn (rd_T26 l j) = true := goodOwn_all hg _ (rd_mem l j (by omega) (by omega))
  rw [isOwn_iff] at hi hj
  rw [← h.2]
  unfold loserOf
  split
  ·exact hj.1
  ·exact hi.1
theorem implGiveWay_ev (l : List S26) (hl : l.length ≤ 1048576) : Ev (fun k => impl_GiveWay.f k l) (giveWay l) := by
 unfold impl_GiveWay.f
 refine Ev.bind (implGoodOwners_ev l hl) ?_
 unfold giveWay
 cases hg : goodOwn l with
 | false =>
  simp only [Bool.false_eq_true, if_false]
  exact Ev.now _
 | true =>
  simp only [if_true]
  refine Ev.bind (implClash_ev l hl) ?_
  unfold giveM
  cases hc : clashM l 0 with
  | none =>
   rw [show clash3 none = (0, 0, false) from rfl]
   simp only [Bool.false_eq_true, if_false]
   exact Ev.now _
  | some p =>
   obtain ⟨i, j⟩ := p
   obtain ⟨n, m, h1, h2, h3, h4, _⟩ := clashM_some l 0 i j hc
   have hl10 := (goodOwn_len hg).2
   have hi : isOwn (rd_T26 l i) = true := goodOwn_all hg _ (rd_mem l i (by omega) (by omega))
   have hj : isOwn (rd_T26 l j) = true := goodOwn_all hg _ (rd_mem l j (by omega) (by omega))
   rw [isOwn_iff] at hi hj
   rw [show clash3 (some (i, j)) = (i, j, true) from rfl]
   have hcl : slices_Clone_Owner.f l = some l := by unfold slices_Clone_Owner.f; rw [if_pos (by omega)]
   simp only [if_true, if_pos (show 0 ≤ i by omega), if_pos (show i < (l.length : Int) by omega), if_pos (show 0 ≤ j by omega), if_pos (show j < (l.length : Int) by omega), implBetter, Option.bind_some, hcl]
   cases hb : betterOf (rd_T26 l i) (rd_T26 l j) with
   | true =>
    simp only [if_true]
    refine Ev.bind (implFree_ev l hl10 _ hj.2.2.1 hj.2.2.2.1) ?_
    refine Ev.some_ ?_
    simp only [loserOf, hb, if_true, renamed]
   | false =>
    simp only [Bool.false_eq_true, if_false]
    refine Ev.bind (implFree_ev l hl10 _ hi.2.2.1 hi.2.2.2.1) ?_
    refine Ev.some_ ?_
    simp only [loserOf, hb, Bool.false_eq_true, if_false, renamed]
theorem renamed_len (l : List S26) (w : Int) : (renamed l w).length = l.length := by unfold renamed; simp
end Go.Proofs.Ytljdenmmlkjapaa.P
