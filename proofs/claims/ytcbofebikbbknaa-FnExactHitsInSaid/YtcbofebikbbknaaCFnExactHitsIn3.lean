/- Functions, walks and plain lemmas that the law FnExactHitsIn reaches, part 3. -/
import Derived.Test.YtcbofebikbbknaaCFnExactHitsIn2
import Derived.WalkKit
import Derived.ProofKit
import Derived.OpenShut
import Derived.ChangeOld
import Derived.Below
import Derived.SizedLaws
import Derived.ChangeArms
import Derived.DataElems
import Derived.Deep.Draws
import Derived.Deep.AppendLies
import Derived.Maps.AppendAt
import Derived.OwnWalk
import Derived.Laws.BytesArg
import Derived.Laws.MakeOwn
import Derived.Laws.OwnMore
import Derived.Deep.OwnRows
import Derived.Tactics
import Derived.Lib.ConvBytes
import Derived.Laws.Slices
import Derived.KernelRfl
import Derived.RowKit3
import Derived.Deep.LoopGhost
import Derived.Deep.QuietTactic
import Derived.BigQuiet
import Derived.WideLaws
import Derived.Deep.DeepCutAuto
import Derived.Deep.CutBlock
import Derived.Deep.RegionHeld3
import Derived.Laws.Rows
import Derived.Lib.AppendStr
import Derived.ArgAppend
import Derived.Laws.IdiomCopy
import Derived.OrdersHeld
import Derived.Laws.BitsLemmas
import Derived.RowKit
import Derived.WalkSpells
import Derived.Lib.SliceRun
import Derived.Shelf.Abstract
import Derived.ShutString
namespace Go.Proofs.Ytcbofebikbbknaa.P
open Go.RowKit Go.Proofs.YtcbofebikbbknaaW.PrintWords Go.Proofs.YtcbofebikbbknaaW.PrintLast Go.Proofs.YtcbofebikbbknaaW.PrintMore
attribute [local go_sem] max2_int min2_int max_two min_two max_three min_three max_four min_four   -- for this text's walks alone
set_option linter.unusedVariables false
set_option linter.unusedSimpArgs false
mutual
def impl_heard.j0 : Nat → List (S53) → Bool → Int → List (S53) → Option (Int × (List (S53)) × Int × Bool)
 | 0, _, _, _, _ => none
 | k + 1, x1, x25, x307000, x307001 => if x25 = true then (some (0, ([] : List (S53)), 0, false)) else (impl_heard.l0 k x1 x1 (x1.length : Int) 0 x307000 x307001)
def impl_heard.l0 : Nat → List (S53) → List (S53) → Int → Int → Int → List (S53) → Option (Int × (List (S53)) × Int × Bool)
 | 0, _, _, _, _, _, _ => none
 | k + 1, x1, x27, x28, x29, x307000, x307001 => if x29 < x28 then (if 0 ≤ x29 then (if x29 < (x27.length : Int) then ((impl_isSeen.f ((rd_T53 x27 x29).f0) ((rd_T53 x27 x29).f1) ((rd_T53 x27 x29).f2)).bind fun t309 => (if t309 = true then (if x29 > 0 then (if 0 ≤ (wrap64 (x29 - 1)) then (if (wrap64 (x29 - 1)) < (x1.length : Int) then (if ((rd_T53 x1 (wrap64 (x29 - 1))).f2) > ((rd_T53 x27 x29).f2) then (some (0, ([] : List (S53)), 0, false)) else (impl_heard.l0 k x1 x27 x28 (wrap64 (x29 + 1)) x307000 x307001)) else (none)) else (none)) else (impl_heard.l0 k x1 x27 x28 (wrap64 (x29 + 1)) x307000 x307001)) else (some (0, ([] : List (S53)), 0, false)))) else (none)) else (none)) else (impl_heard.l1 k 0 x1 (x1.length : Int) 0 x307000 x307001)
def impl_heard.l1 : Nat → Int → List (S53) → Int → Int → Int → List (S53) → Option (Int × (List (S53)) × Int × Bool)
 | 0, _, _, _, _, _, _ => none
 | k + 1, x11, x54, x55, x56, x307000, x307001 => if x56 < x55 then (if 0 ≤ x56 then (if x56 < (x54.length : Int) then ((impl_row.f x307001 ((rd_T53 x54 x56).f0)).bind fun t313 => (if t313 ≥ 0 then ((impl_Table_learn.f k x307000 x307001 ((rd_T53 x54 x56).f0) ((rd_T53 x54 x56).f1) ((rd_T53 x54 x56).f2)).bind fun bt314 => (impl_heard.l1 k (wrap64 (x11 + 1)) x54 x55 (wrap64 (x56 + 1)) bt314.1 bt314.2)) else ((impl_Table_learn.f k x307000 x307001 ((rd_T53 x54 x56).f0) ((rd_T53 x54 x56).f1) ((rd_T53 x54 x56).f2)).bind fun bt318 => (impl_heard.l1 k x11 x54 x55 (wrap64 (x56 + 1)) bt318.1 bt318.2)))) else (none)) else (none)) else (some (x307000, x307001, x11, true))
end
def impl_heard.f (k : Nat) (a0 : Int) (l1 : List (S53)) : Option (Int × (List (S53)) × Int × Bool) := (impl_NewTable.f a0).bind fun bt301 => (if bt301.2.2 = true then (impl_heard.j0 k l1 (decide ((l1.length : Int) > 60)) bt301.1 bt301.2.1) else (impl_heard.j0 k l1 true bt301.1 bt301.2.1))
def impl_heard.T7 : Bool × List (List Nat × List Nat) := (true, [([], []), ([0], [0]), ([1], [1]), ([2, 1], [2]), ([3], [3]), ([4, 3], [3, 4]), ([5, 3, 3], [3, 5]), ([6], [6]), ([6], [6]), ([8, 6], [6, 8]), ([7, 9, 6], [6, 7, 9]), ([10, 6], [6, 10]), ([11, 6], [6, 11]), ([6], [6]), ([13, 6], [6, 13]), ([12, 14, 6], [6, 12, 14]), ([6, 15, 3], [3, 6, 15]), ([3, 16], [3, 16])])
def impl_heard.B7 : List Nat := [0, 1, 3, 7, 15, 31, 63, 127, 127, 383, 1023, 2047, 4095, 127, 8319, 32767, 65535, 131071]
theorem impl_heard.tab7 : rtab .any (opsOf Try.f50 7) = impl_heard.T7 := by kernel_rfl
theorem impl_heard.bits7 : waitsOk impl_heard.T7.2 impl_heard.B7 = true := by kernel_rfl
set_option maxHeartbeats 8000000 in
set_option maxRecDepth 100000 in
theorem impl_heard.calls (k : Nat) (a0 : Int) (A1 : Option Addr) (c1 : Nat) (l1 : List (S53)) (r1 : Int) (r2 : List (S53)) (r3 : Int) (r4 : Bool) (w : World) (hr1 : Kd.C k53 w A1 l1.length l1) (hc1 : l1.length ≤ c1) (h : impl_heard.f k a0 l1 = some (r1, r2, r3, r4)) :
  Calls Try.prog 50 #[.int .i64 a0, .slice A1 l1.length c1] w fun e w' => ∃ v1_ : Value, e = .returned (.tuple #[.agg #[.int .i64 r1, v1_], .int .i64 r3, .bool r4]) ∧ Kd.R k53 53 w' w.heap.size (fun _ => True) v1_ r2 ∧ Below w.heap.size w w' := by
 have hu24 := Try.underlying24
 have hu53 := Try.underlying53
 have HR1 := Aside0.mk hr1
 have HC1 := Aside0.mk hc1
 clear hr1 hc1
 have HB := Aside0.mk (Below.refl w.heap.size w)
 have H : ((impl_NewTable.f a0).bind fun bt301 => (if bt301.2.2 = true then (impl_heard.j0 k l1 (decide ((l1.length : Int) > 60)) bt301.1 bt301.2.1) else (impl_heard.j0 k l1 true bt301.1 bt301.2.1))) = some (r1, r2, r3, r4) := h
 clear h
 replace H := Option.bind_eq_some_iff.mp H
 obtain ⟨⟨t301, t302, t305⟩, A30, H⟩ := H
 replace H : (if t305 = true then (impl_heard.j0 k l1 (decide ((l1.length : Int) > 60)) t301 t302) else (impl_heard.j0 k l1 true t301 t302)) = some (r1, r2, r3, r4) := H
 have A3 := Aside0.mk A30
 clear A30
 have HC4 := Aside0.mk H
 clear H
 go_enter Try.func50, Try.ntmps50
 go_upto_region 2 with (first | ((with_reducible refine gate_dst (N := 4) rfl ?_); (try (refine gate_guard (by rfl) ?_; dsimp only)); refine box_event ?hg (N := 4) ?hd (cs := #[.int .i64 0, .slice none 0 0]) (t := 24) ?hr ?_; (case hd => rfl); (case hg => rfl); (case hr => first | (go_simp; done) | (go_simp; rfl)); intro gb300 hg w5 hbox hb; have n0_ := Aside0.mk (below_step (by repeat (first | (with_reducible first | exact HB.out | apply below_alloc | apply pw_below_drewN | apply below_drew1) | exact HB.out)) hb); have n1_ := Aside0.mk (hbox); have n2_ := Aside0.mk ((by rw [hg]; exact (below_size (by repeat (first | (with_reducible first | exact HB.out | apply below_alloc | apply pw_below_drewN | apply below_drew1) | exact HB.out))) : w.heap.size ≤ gb300)); have n3_ := Aside0.mk ((by rw [hg]; exact (below_size (by repeat (first | (with_reducible first | exact HB.out | apply below_alloc | apply pw_below_drewN | apply below_drew1) | exact HB.out))) : w.heap.size ≤ gb300)); clear HB; have HB := n0_; have BK300 := n1_; have GW300 := n2_; have GE300 := n3_; clear n0_ n1_ n2_ n3_; clear hb hbox hg) | ((with_reducible refine gate_callee (f := 13) rfl ?_); refine goesL_ (some 16) rfl rfl Try.func13 (by kernel_rfl) rfl #[.int .i64 a0] rfl (by (try simp only [List.map_toArray, List.map_cons, List.map_nil]); first | done | rfl | (simp only [List.length_drop, List.length_take]; rfl)) ?_; (with_reducible refine (impl_NewTable.calls a0 t301 t302 t305 _ A3.out).mono ?_); rintro e w6 ⟨v303, rfl, ho0, hb⟩; refine ⟨_, rfl, ?_⟩; have n0_ := Aside0.mk (Kd.R_lower ho0 (below_size (by repeat (first | (with_reducible first | exact HB.out | apply below_alloc | apply pw_below_drewN | apply below_drew1 | refine below_set ?_ GE300.out) | exact HB.out)))); have n1_ := Aside0.mk (blk_below (g := gb300) (o := .cells #[.int .i64 0, .slice none 0 0] 24 (0, 0)) (by (with_reducible repeat (first | refine blk_drewN ?_ _ | refine blk_drew ?_ | refine blk_alloc ?_ _)); exact BK300.out) hb); have n2_ := Aside0.mk (below_step (by repeat (first | (with_reducible first | exact HB.out | apply below_alloc | apply pw_below_drewN | apply below_drew1 | refine below_set ?_ GE300.out) | exact HB.out)) hb); clear BK300; clear HB; have HO304 := n0_; have BK300 := n1_; have HB := n2_; clear n0_ n1_ n2_; (try clear hb); (try clear hb2); (try clear hk); (try clear hi); (try clear ho0)) | ((with_reducible refine gate_dst (N := 7) rfl ?_); (try (refine gate_guard (by rfl) ?_; dsimp only)); refine box_event ?hg (N := 7) ?hd (cs := #[.int .i64 0, .slice none 0 0]) (t := 24) ?hr ?_; (case hd => rfl); (case hg => rfl); (case hr => first | (go_simp; done) | (go_simp; rfl)); intro gb306 hg w7 hbox hb; have n0_ := Aside0.mk (Kd.R_below (by (with_reducible repeat (first | apply Kd.R_alloc | apply Kd.R_drewN | apply Kd.R_drew)); exact HO304.out) hb); have n1_ := Aside0.mk (blk_below (g := gb300) (o := .cells #[.int .i64 0, .slice none 0 0] 24 (0, 0)) (by (with_reducible repeat (first | refine blk_drewN ?_ _ | refine blk_drew ?_ | refine blk_alloc ?_ _)); exact BK300.out) hb); have n2_ := Aside0.mk (below_step (by repeat (first | (with_reducible first | exact HB.out | apply below_alloc | apply pw_below_drewN | apply below_drew1 | refine below_set ?_ GE300.out) | exact HB.out)) hb); have n3_ := Aside0.mk (hbox); have n4_ := Aside0.mk ((by rw [hg]; exact (below_size (by repeat (first | (with_reducible first | exact HB.out | apply below_alloc | apply pw_below_drewN | apply below_drew1 | refine below_set ?_ GE300.out) | exact HB.out))) : w.heap.size ≤ gb306)); have n5_ := Aside0.mk ((by rw [hg]; exact (below_size (by repeat (first | (with_reducible first | exact HB.out | apply below_alloc | apply pw_below_drewN | apply below_drew1 | refine below_set ?_ GE300.out) | exact HB.out))) : w.heap.size ≤ gb306)); have n6_ := Aside0.mk ((by rw [hg]; exact Nat.ne_of_lt (blk_lt (g := gb300) (o := .cells #[.int .i64 0, .slice none 0 0] 24 (0, 0)) (by (with_reducible repeat (first | refine blk_drewN ?_ _ | refine blk_drew ?_ | refine blk_alloc ?_ _)); exact BK300.out)) : gb300 ≠ gb306)); have n7_ := Aside0.mk ((by rw [hg]; exact Nat.ne_of_gt (blk_lt (g := gb300) (o := .cells #[.int .i64 0, .slice none 0 0] 24 (0, 0)) (by (with_reducible repeat (first | refine blk_drewN ?_ _ | refine blk_drew ?_ | refine blk_alloc ?_ _)); exact BK300.out)) : gb306 ≠ gb300)); clear HO304; clear BK300; clear HB; have HO304 := n0_; have BK300 := n1_; have HB := n2_; have BK306 := n3_; have GW306 := n4_; have GE306 := n5_; have NB300_306 := n6_; have NB306_300 := n7_; clear n0_ n1_ n2_ n3_ n4_ n5_ n6_ n7_; clear hb hbox hg; have hnb8 := NB306_300.out; have hnc8 := NB300_306.out; have hcz9_0 : w7.cell? ⟨gb306, 0, none⟩ = some (.int .i64 0) := (blk_cell BK306.out 0).trans rfl; have hcz9_1 : w7.cell? ⟨gb306, 1, none⟩ = some (.slice none 0 0) := (blk_cell BK306.out 1).trans rfl; have hfz9_0 := blk_frozen BK306.out 0; have hfz9_1 := blk_frozen BK306.out 1; obtain ⟨Ao10, co10, eo10⟩ := Kd.R_slice HO304.out; subst eo10))
 (try simp only [Act.put, List.setIfInBounds_toArray, List.set_cons_zero, List.set_cons_succ])
 go_cut [25] (fun v25 wc => ∃ (kq : Nat) (x25_3 : Bool), v25 = .bool x25_3 ∧ Aside0 (impl_heard.j0 kq l1 x25_3 t301 t302 = some (r1, r2, r3, r4)) ∧ Aside0 (kq ≤ k) ∧ Aside0 (Kd.R k53 53 wc w.heap.size (fun _ => True) (.slice Ao10 t302.length co10) t302) ∧ Aside0 (wc.heap[gb300]? = some (.cells #[.int .i64 0, (.slice none 0 0)] 24 (0, 0))) ∧ Aside0 (wc.heap[gb306]? = some (.cells #[.int .i64 t301, (.slice Ao10 t302.length co10)] 24 (0, 0))) ∧ Aside0 (Below w.heap.size w wc))
 case first =>
  have H := HC4.out
  clear HC4
  by_cases c11 : t305 = true
  ·subst c11
   have H1 : (impl_heard.j0 k l1 (decide ((l1.length : Int) > 60)) t301 t302) = some (r1, r2, r3, r4) := by rw [if_pos rfl] at H; exact H
   clear H
   have H := H1
   clear H1
   have H' := Aside0.mk H
   clear H
   go_wp2
   go_meet
   case rel => exact ⟨_, (decide ((l1.length : Int) > 60)), (by first | rfl | (simp; done) | (simp [*]; done)), H', ⟨by first | omega | exact Nat.le_refl _⟩, ⟨by (with_reducible repeat (first | apply Kd.R_alloc | apply Kd.R_drewN | apply Kd.R_drew)); exact Kd.R_mono (Kd.R_far (p := ⟨gb306, 1, none⟩) (Kd.R_far (p := ⟨gb306, 0, none⟩) (Kd.R_types HO304.out BK306.out (by decide)) (fun _ hk => hk.2) (.int .i64 t301)) (fun _ hk => hk.2) (.slice Ao10 t302.length co10)) (fun _ hk => trivial)⟩, ⟨by (with_reducible repeat (first | refine blk_drewN ?_ _ | refine blk_drew ?_ | refine blk_alloc ?_ _)); refine blk_far ?_ NB300_306.out _; (with_reducible repeat (first | refine blk_drewN ?_ _ | refine blk_drew ?_ | refine blk_alloc ?_ _)); refine blk_far ?_ NB300_306.out _; (with_reducible repeat (first | refine blk_drewN ?_ _ | refine blk_drew ?_ | refine blk_alloc ?_ _)); exact BK300.out⟩, ⟨by (with_reducible repeat (first | refine blk_drewN ?_ _ | refine blk_drew ?_ | refine blk_alloc ?_ _)); refine blk_put (cs := #[.int .i64 t301, .slice none 0 0]) ?_ 1 _ rfl; (with_reducible repeat (first | refine blk_drewN ?_ _ | refine blk_drew ?_ | refine blk_alloc ?_ _)); refine blk_put (cs := #[.int .i64 0, .slice none 0 0]) ?_ 0 _ rfl; (with_reducible repeat (first | refine blk_drewN ?_ _ | refine blk_drew ?_ | refine blk_alloc ?_ _)); exact BK306.out⟩, ⟨by repeat (first | (with_reducible first | exact HB.out | apply below_alloc | apply pw_below_drewN | apply below_drew1 | refine below_set ?_ GE300.out | refine below_set ?_ GE306.out) | exact HB.out)⟩⟩
  ·replace c11 := Bool.eq_false_iff.mpr c11
   subst c11
   have H1 : (impl_heard.j0 k l1 true t301 t302) = some (r1, r2, r3, r4) := by rw [if_neg (show ¬ (false = true) by decide)] at H; exact H
   clear H
   have H := H1
   clear H1
   have H' := Aside0.mk H
   clear H
   go_wp2
   go_meet
   case rel => exact ⟨_, (true), (by first | rfl | (simp; done) | (simp [*]; done)), H', ⟨by first | omega | exact Nat.le_refl _⟩, ⟨by (with_reducible repeat (first | apply Kd.R_alloc | apply Kd.R_drewN | apply Kd.R_drew)); exact Kd.R_mono (Kd.R_far (p := ⟨gb306, 1, none⟩) (Kd.R_far (p := ⟨gb306, 0, none⟩) (Kd.R_types HO304.out BK306.out (by decide)) (fun _ hk => hk.2) (.int .i64 t301)) (fun _ hk => hk.2) (.slice Ao10 t302.length co10)) (fun _ hk => trivial)⟩, ⟨by (with_reducible repeat (first | refine blk_drewN ?_ _ | refine blk_drew ?_ | refine blk_alloc ?_ _)); refine blk_far ?_ NB300_306.out _; (with_reducible repeat (first | refine blk_drewN ?_ _ | refine blk_drew ?_ | refine blk_alloc ?_ _)); refine blk_far ?_ NB300_306.out _; (with_reducible repeat (first | refine blk_drewN ?_ _ | refine blk_drew ?_ | refine blk_alloc ?_ _)); exact BK300.out⟩, ⟨by (with_reducible repeat (first | refine blk_drewN ?_ _ | refine blk_drew ?_ | refine blk_alloc ?_ _)); refine blk_put (cs := #[.int .i64 t301, .slice none 0 0]) ?_ 1 _ rfl; (with_reducible repeat (first | refine blk_drewN ?_ _ | refine blk_drew ?_ | refine blk_alloc ?_ _)); refine blk_put (cs := #[.int .i64 0, .slice none 0 0]) ?_ 0 _ rfl; (with_reducible repeat (first | refine blk_drewN ?_ _ | refine blk_drew ?_ | refine blk_alloc ?_ _)); exact BK306.out⟩, ⟨by repeat (first | (with_reducible first | exact HB.out | apply below_alloc | apply pw_below_drewN | apply below_drew1 | refine below_set ?_ GE300.out | refine below_set ?_ GE306.out) | exact HB.out)⟩⟩
 case rest =>
  clear HC4
  try clear c1
  try clear p2
  try clear c5
  try clear c8
  try clear c11
  try clear hcz9_0
  try clear hcz9_1
  try clear hfz9_0
  try clear hfz9_1
  obtain ⟨kq, x25_3, rfl, HA, HJ3, HO_307001, BK300, BK306, HB⟩ := hcut
  cases kq with
  | zero => exact absurd HA.out (by simp [impl_heard.j0])
  | succ kj3 =>
   have H := HA.out
   clear HA
   simp only [impl_heard.j0] at H
   by_cases c12 : x25_3 = true
   ·subst c12
    have H1 : (some (0, ([] : List (S53)), 0, false)) = some (r1, r2, r3, r4) := by rw [if_pos rfl] at H; exact H
    clear H
    have H := H1
    clear H1
    simp only [Option.some.injEq, Prod.mk.injEq] at H
    obtain ⟨rfl, rfl, rfl, rfl⟩ := H
    have hnb13 := NB300_306.out
    have hnc13 := NB306_300.out
    have hcz14_0 : wc.cell? ⟨gb300, 0, none⟩ = some (.int .i64 0) := (blk_cell BK300.out 0).trans rfl
    have hcz14_1 : wc.cell? ⟨gb300, 1, none⟩ = some (.slice none 0 0) := (blk_cell BK300.out 1).trans rfl
    have hfz14_0 := blk_frozen BK300.out 0
    have hfz14_1 := blk_frozen BK300.out 1
    go_wp2
    refine bodyPost_ret (results_ctt rfl _ _ gb300 24 #[.int .i64 0, .slice none 0 0] (0, 0) _ rfl (by (with_reducible repeat (first | refine blk_drewN ?_ _ | refine blk_drew ?_ | refine blk_alloc ?_ _)); refine blk_put (cs := #[.int .i64 0, .slice none 0 0]) ?_ 1 _ rfl; (with_reducible repeat (first | refine blk_drewN ?_ _ | refine blk_drew ?_ | refine blk_alloc ?_ _)); refine blk_put (cs := #[.int .i64 0, .slice none 0 0]) ?_ 0 _ rfl; (with_reducible repeat (first | refine blk_drewN ?_ _ | refine blk_drew ?_ | refine blk_alloc ?_ _)); exact BK300.out) Try.underlying24 rfl (by kernel_rfl)) rfl ?_
    exact ⟨_, by first | rfl | (simp [errW_none, errW_some] <;> rfl) | (simp [*, errW_none, errW_some] <;> rfl), by first | exact Kd.R_nil _ _ _ _ _ | exact Kd.N_nil _ _ _ _ _ | exact Kd.V_nil _ _ _ _ _ | exact Kd.Q_nil _ _ _ _ _ | exact Kd.S_nil _ _ _ _ _, by repeat (first | (with_reducible first | exact HB.out | apply below_alloc | apply pw_below_drewN | apply below_drew1 | refine below_set ?_ GE300.out | refine below_set ?_ GE306.out) | exact HB.out)⟩
   ·replace c12 := Bool.eq_false_iff.mpr c12
    subst c12
    have H1 : (impl_heard.l0 kj3 l1 l1 (l1.length : Int) 0 t301 t302) = some (r1, r2, r3, r4) := by rw [if_neg (show ¬ (false = true) by decide)] at H; exact H
    clear H
    have H := H1
    clear H1
    have H' := Aside0.mk H
    clear H
    go_wp2
    go_loopg [29] kj3 (fun kq v29 w' => ∃ (x29_2 : Int) (x301000_2 : Int), v29 = .int .i64 x29_2 ∧ Aside0 (impl_heard.l0 kq l1 l1 (l1.length : Int) x29_2 t301 t302 = some (r1, r2, r3, r4)) ∧ Aside0 (kq ≤ kj3) ∧ Aside0 (Kd.R k53 53 w' w.heap.size (fun _ => True) (.slice Ao10 t302.length co10) t302) ∧ Aside0 (w'.heap[gb300]? = some (.cells #[.int .i64 x301000_2, (.slice none 0 0)] 24 (0, 0))) ∧ Aside0 (w'.heap[gb306]? = some (.cells #[.int .i64 t301, (.slice Ao10 t302.length co10)] 24 (0, 0))) ∧ Aside0 (Below w.heap.size w w'))
    case atStart => exact ⟨(0), (0), (by first | rfl | (simp; done) | (simp [*]; done)), H', ⟨Nat.le_refl _⟩, ⟨by (with_reducible repeat (first | apply Kd.R_alloc | apply Kd.R_drewN | apply Kd.R_drew)); exact HO_307001.out⟩, ⟨by (with_reducible repeat (first | refine blk_drewN ?_ _ | refine blk_drew ?_ | refine blk_alloc ?_ _)); exact BK300.out⟩, ⟨by (with_reducible repeat (first | refine blk_drewN ?_ _ | refine blk_drew ?_ | refine blk_alloc ?_ _)); exact BK306.out⟩, ⟨by repeat (first | (with_reducible first | exact HB.out | apply below_alloc | apply pw_below_drewN | apply below_drew1 | refine below_set ?_ GE300.out | refine below_set ?_ GE306.out) | exact HB.out)⟩⟩
    case round =>
     clear H'
     try clear c1
     try clear p2
     try clear c5
     try clear c8
     try clear c11
     try clear c12
     try clear c13
     try clear hcz14_0
     try clear hcz14_1
     try clear hcz9_0
     try clear hcz9_1
     try clear hfz14_0
     try clear hfz14_1
     try clear hfz9_0
     try clear hfz9_1
     try clear p2
     obtain ⟨x29_2, x301000_2, rfl, HA, HK2, HO_307001, BK300, BK306, HB⟩ := hrel
     cases gk with
     | zero => exact absurd HA.out (by simp [impl_heard.l0])
     | succ k2 =>
      have H := HA.out
      clear HA
      simp only [impl_heard.l0] at H
      by_cases c15 : x29_2 < (l1.length : Int)
      ·rw [if_pos c15] at H
       have c15b0 : decide (x29_2 < (l1.length : Int)) = true := decide_eq_true c15
       clear c15
       by_cases c16 : 0 ≤ x29_2
       ·rw [if_pos c16] at H
        have c16b0 : decide (0 ≤ x29_2) = true := decide_eq_true c16
        clear c16
        by_cases c17 : x29_2 < (l1.length : Int)
        ·rw [if_pos c17] at H
         have c17b0 : decide (x29_2 < (l1.length : Int)) = true := decide_eq_true c17
         clear c17
         replace H := Option.bind_eq_some_iff.mp H
         obtain ⟨t309, A180, H⟩ := H
         replace H : (if t309 = true then (if x29_2 > 0 then (if 0 ≤ (wrap64 (x29_2 - 1)) then (if (wrap64 (x29_2 - 1)) < (l1.length : Int) then (if ((rd_T53 l1 (wrap64 (x29_2 - 1))).f2) > ((rd_T53 l1 x29_2).f2) then (some (0, ([] : List (S53)), 0, false)) else (impl_heard.l0 k2 l1 l1 (l1.length : Int) (wrap64 (x29_2 + 1)) t301 t302)) else (none)) else (none)) else (impl_heard.l0 k2 l1 l1 (l1.length : Int) (wrap64 (x29_2 + 1)) t301 t302)) else (some (0, ([] : List (S53)), 0, false))) = some (r1, r2, r3, r4) := H
         have A18 := Aside0.mk A180
         clear A180
         by_cases c19 : t309 = true
         ·subst c19
          have H1 : (if x29_2 > 0 then (if 0 ≤ (wrap64 (x29_2 - 1)) then (if (wrap64 (x29_2 - 1)) < (l1.length : Int) then (if ((rd_T53 l1 (wrap64 (x29_2 - 1))).f2) > ((rd_T53 l1 x29_2).f2) then (some (0, ([] : List (S53)), 0, false)) else (impl_heard.l0 k2 l1 l1 (l1.length : Int) (wrap64 (x29_2 + 1)) t301 t302)) else (none)) else (none)) else (impl_heard.l0 k2 l1 l1 (l1.length : Int) (wrap64 (x29_2 + 1)) t301 t302)) = some (r1, r2, r3, r4) := by rw [if_pos rfl] at H; exact H
          clear H
          have H := H1
          clear H1
          by_cases c20 : x29_2 > 0
          ·rw [if_pos c20] at H
           have c20b0 : decide (0 < x29_2) = true := decide_eq_true c20
           clear c20
           obtain ⟨ji21, hji21⟩ : ∃ j_ : Int, (wrap64 (x29_2 - 1)) = j_ := ⟨_, rfl⟩
           replace H : (if 0 ≤ (ji21) then (if (ji21) < (l1.length : Int) then (if ((rd_T53 l1 (ji21)).f2) > ((rd_T53 l1 x29_2).f2) then (some (0, ([] : List (S53)), 0, false)) else (impl_heard.l0 k2 l1 l1 (l1.length : Int) (wrap64 (x29_2 + 1)) t301 t302)) else (none)) else (none)) = some (r1, r2, r3, r4) := by first | (rw [hji21] at H; exact H) | (simp only [hji21] at H ⊢; exact H)
           (try rw [hji21] at A18)
           have hji21w : (IntKind.i64.wrap (x29_2 - 1)) = ji21 := (i64_w _).trans hji21
           by_cases c22 : 0 ≤ (ji21)
           ·rw [if_pos c22] at H
            have c22b0 : decide (0 ≤ (ji21)) = true := decide_eq_true c22
            clear c22
            by_cases c23 : (ji21) < (l1.length : Int)
            ·rw [if_pos c23] at H
             have c23b0 : decide ((ji21) < (l1.length : Int)) = true := decide_eq_true c23
             clear c23
             by_cases c24 : ((rd_T53 l1 (ji21)).f2) > ((rd_T53 l1 x29_2).f2)
             ·rw [if_pos c24] at H
              have c24b0 : decide (((rd_T53 l1 x29_2).f2) < ((rd_T53 l1 (ji21)).f2)) = true := decide_eq_true c24
              clear c24
              simp only [Option.some.injEq, Prod.mk.injEq] at H
              obtain ⟨rfl, rfl, rfl, rfl⟩ := H
              have p307 : 0 ≤ (x29_2 : Int) := of_decide_eq_true (by first | (with_reducible assumption) | assumption)
              have q307 : x29_2 < (l1.length : Int) := of_decide_eq_true (by first | (with_reducible assumption) | assumption)
              obtain ⟨ad307, e307, hx307_0, hx307_1, hx307_2⟩ := at_T53 HR1.out x29_2 p307 q307
              cases e307
              replace hx307_0 := (HB.out.cell (World.block_lt_of_cell? w _ hx307_0)).trans hx307_0
              replace hx307_1 := (HB.out.cell (World.block_lt_of_cell? w _ hx307_1)).trans hx307_1
              replace hx307_2 := (HB.out.cell (World.block_lt_of_cell? w _ hx307_2)).trans hx307_2
              replace p307 := eq_true p307
              replace q307 := eq_true q307
              try go_wp2_with (first | ((with_reducible refine gate_dst (N := 10) rfl ?_); (try (refine gate_guard (by rfl) ?_; dsimp only)); refine box_event ?hg (N := 10) ?hd (cs := #[.int .i64 0, .int .i64 0, .int .i64 0]) (t := 53) ?hr ?_; (case hd => rfl); (case hg => rfl); (case hr => first | (go_simp; done) | (go_simp; rfl)); intro gb308 hg w25 hbox hb; have n0_ := Aside0.mk (Kd.R_below (Kd.R_elderB (by (with_reducible repeat (first | apply Kd.R_alloc | apply Kd.R_drewN | apply Kd.R_drew)); exact HO_307001.out) gb308 (Nat.le_of_eq hg.symm)) hb); have n1_ := Aside0.mk (blk_below (g := gb300) (o := .cells #[.int .i64 x301000_2, .slice none 0 0] 24 (0, 0)) (by (with_reducible repeat (first | refine blk_drewN ?_ _ | refine blk_drew ?_ | refine blk_alloc ?_ _)); exact BK300.out) hb); have n2_ := Aside0.mk (blk_below (g := gb306) (o := .cells #[.int .i64 t301, .slice Ao10 t302.length co10] 24 (0, 0)) (by (with_reducible repeat (first | refine blk_drewN ?_ _ | refine blk_drew ?_ | refine blk_alloc ?_ _)); exact BK306.out) hb); have n3_ := Aside0.mk (below_step (by repeat (first | (with_reducible first | exact HB.out | apply below_alloc | apply pw_below_drewN | apply below_drew1 | refine below_set ?_ GE300.out | refine below_set ?_ GE306.out) | exact HB.out)) hb); have n4_ := Aside0.mk (hbox); have n5_ := Aside0.mk ((by rw [hg]; exact (below_size (by repeat (first | (with_reducible first | exact HB.out | apply below_alloc | apply pw_below_drewN | apply below_drew1 | refine below_set ?_ GE300.out | refine below_set ?_ GE306.out) | exact HB.out))) : w.heap.size ≤ gb308)); have n6_ := Aside0.mk ((by rw [hg]; exact (below_size (by repeat (first | (with_reducible first | exact HB.out | apply below_alloc | apply pw_below_drewN | apply below_drew1 | refine below_set ?_ GE300.out | refine below_set ?_ GE306.out) | exact HB.out))) : w.heap.size ≤ gb308)); have n7_ := Aside0.mk ((by rw [hg]; exact Nat.ne_of_lt (blk_lt (g := gb300) (o := .cells #[.int .i64 x301000_2, .slice none 0 0] 24 (0, 0)) (by (with_reducible repeat (first | refine blk_drewN ?_ _ | refine blk_drew ?_ | refine blk_alloc ?_ _)); exact BK300.out)) : gb300 ≠ gb308)); have n8_ := Aside0.mk ((by rw [hg]; exact Nat.ne_of_gt (blk_lt (g := gb300) (o := .cells #[.int .i64 x301000_2, .slice none 0 0] 24 (0, 0)) (by (with_reducible repeat (first | refine blk_drewN ?_ _ | refine blk_drew ?_ | refine blk_alloc ?_ _)); exact BK300.out)) : gb308 ≠ gb300)); have n9_ := Aside0.mk ((by rw [hg]; exact Nat.ne_of_lt (blk_lt (g := gb306) (o := .cells #[.int .i64 t301, .slice Ao10 t302.length co10] 24 (0, 0)) (by (with_reducible repeat (first | refine blk_drewN ?_ _ | refine blk_drew ?_ | refine blk_alloc ?_ _)); exact BK306.out)) : gb306 ≠ gb308)); have n10_ := Aside0.mk ((by rw [hg]; exact Nat.ne_of_gt (blk_lt (g := gb306) (o := .cells #[.int .i64 t301, .slice Ao10 t302.length co10] 24 (0, 0)) (by (with_reducible repeat (first | refine blk_drewN ?_ _ | refine blk_drew ?_ | refine blk_alloc ?_ _)); exact BK306.out)) : gb308 ≠ gb306)); clear HO_307001; clear BK300; clear BK306; clear HB; have HO_307001 := n0_; have BK300 := n1_; have BK306 := n2_; have HB := n3_; have BK308 := n4_; have GW308 := n5_; have GE308 := n6_; have NB300_308 := n7_; have NB308_300 := n8_; have NB306_308 := n9_; have NB308_306 := n10_; clear n0_ n1_ n2_ n3_ n4_ n5_ n6_ n7_ n8_ n9_ n10_; clear hb hbox hg; have hnb26 := NB308_300.out; have hnc26 := NB300_308.out; have hnb27 := NB308_306.out; have hnc27 := NB306_308.out; have hcz28_0 : w25.cell? ⟨gb308, 0, none⟩ = some (.int .i64 0) := (blk_cell BK308.out 0).trans rfl; have hcz28_1 : w25.cell? ⟨gb308, 1, none⟩ = some (.int .i64 0) := (blk_cell BK308.out 1).trans rfl; have hcz28_2 : w25.cell? ⟨gb308, 2, none⟩ = some (.int .i64 0) := (blk_cell BK308.out 2).trans rfl; have hfz28_0 := blk_frozen BK308.out 0; have hfz28_1 := blk_frozen BK308.out 1; have hfz28_2 := blk_frozen BK308.out 2))
              have n0_ : Aside0 (Kd.R k53 53 (((w25.setCell ⟨gb308, 0, none⟩ (.int .i64 ((rd_T53 l1 x29_2).f0))).setCell ⟨gb308, 1, none⟩ (.int .i64 ((rd_T53 l1 x29_2).f1))).setCell ⟨gb308, 2, none⟩ (.int .i64 ((rd_T53 l1 x29_2).f2))) w.heap.size (fun k_ => k_ ≠ gb308) (.slice Ao10 t302.length co10) t302) := ⟨by (with_reducible repeat (first | apply Kd.R_alloc | apply Kd.R_drewN | apply Kd.R_drew)); exact Kd.R_mono (Kd.R_far (p := ⟨gb308, 2, none⟩) (Kd.R_far (p := ⟨gb308, 1, none⟩) (Kd.R_far (p := ⟨gb308, 0, none⟩) (Kd.R_mono HO_307001.out (fun k_ hk => (⟨hk, hk.2⟩ : _ ∧ k_ ≠ gb308))) (fun _ hk => hk.2) (.int .i64 ((rd_T53 l1 x29_2).f0))) (fun _ hk => hk.2) (.int .i64 ((rd_T53 l1 x29_2).f1))) (fun _ hk => hk.2) (.int .i64 ((rd_T53 l1 x29_2).f2))) (fun _ hk => hk.1.2)⟩
              have n1_ : Aside0 ((((w25.setCell ⟨gb308, 0, none⟩ (.int .i64 ((rd_T53 l1 x29_2).f0))).setCell ⟨gb308, 1, none⟩ (.int .i64 ((rd_T53 l1 x29_2).f1))).setCell ⟨gb308, 2, none⟩ (.int .i64 ((rd_T53 l1 x29_2).f2))).heap[gb300]? = some (.cells #[.int .i64 x301000_2, .slice none 0 0] 24 (0, 0))) := ⟨by (with_reducible repeat (first | refine blk_drewN ?_ _ | refine blk_drew ?_ | refine blk_alloc ?_ _)); refine blk_far ?_ NB300_308.out _; (with_reducible repeat (first | refine blk_drewN ?_ _ | refine blk_drew ?_ | refine blk_alloc ?_ _)); refine blk_far ?_ NB300_308.out _; (with_reducible repeat (first | refine blk_drewN ?_ _ | refine blk_drew ?_ | refine blk_alloc ?_ _)); refine blk_far ?_ NB300_308.out _; (with_reducible repeat (first | refine blk_drewN ?_ _ | refine blk_drew ?_ | refine blk_alloc ?_ _)); exact BK300.out⟩
              have n2_ : Aside0 ((((w25.setCell ⟨gb308, 0, none⟩ (.int .i64 ((rd_T53 l1 x29_2).f0))).setCell ⟨gb308, 1, none⟩ (.int .i64 ((rd_T53 l1 x29_2).f1))).setCell ⟨gb308, 2, none⟩ (.int .i64 ((rd_T53 l1 x29_2).f2))).heap[gb306]? = some (.cells #[.int .i64 t301, .slice Ao10 t302.length co10] 24 (0, 0))) := ⟨by (with_reducible repeat (first | refine blk_drewN ?_ _ | refine blk_drew ?_ | refine blk_alloc ?_ _)); refine blk_far ?_ NB306_308.out _; (with_reducible repeat (first | refine blk_drewN ?_ _ | refine blk_drew ?_ | refine blk_alloc ?_ _)); refine blk_far ?_ NB306_308.out _; (with_reducible repeat (first | refine blk_drewN ?_ _ | refine blk_drew ?_ | refine blk_alloc ?_ _)); refine blk_far ?_ NB306_308.out _; (with_reducible repeat (first | refine blk_drewN ?_ _ | refine blk_drew ?_ | refine blk_alloc ?_ _)); exact BK306.out⟩
              have n3_ : Aside0 ((((w25.setCell ⟨gb308, 0, none⟩ (.int .i64 ((rd_T53 l1 x29_2).f0))).setCell ⟨gb308, 1, none⟩ (.int .i64 ((rd_T53 l1 x29_2).f1))).setCell ⟨gb308, 2, none⟩ (.int .i64 ((rd_T53 l1 x29_2).f2))).heap[gb308]? = some (.cells #[.int .i64 ((rd_T53 l1 x29_2).f0), .int .i64 ((rd_T53 l1 x29_2).f1), .int .i64 ((rd_T53 l1 x29_2).f2)] 53 (0, 0))) := ⟨by (with_reducible repeat (first | refine blk_drewN ?_ _ | refine blk_drew ?_ | refine blk_alloc ?_ _)); refine blk_put (cs := #[.int .i64 ((rd_T53 l1 x29_2).f0), .int .i64 ((rd_T53 l1 x29_2).f1), .int .i64 0]) ?_ 2 _ rfl; (with_reducible repeat (first | refine blk_drewN ?_ _ | refine blk_drew ?_ | refine blk_alloc ?_ _)); refine blk_put (cs := #[.int .i64 ((rd_T53 l1 x29_2).f0), .int .i64 0, .int .i64 0]) ?_ 1 _ rfl; (with_reducible repeat (first | refine blk_drewN ?_ _ | refine blk_drew ?_ | refine blk_alloc ?_ _)); refine blk_put (cs := #[.int .i64 0, .int .i64 0, .int .i64 0]) ?_ 0 _ rfl; (with_reducible repeat (first | refine blk_drewN ?_ _ | refine blk_drew ?_ | refine blk_alloc ?_ _)); exact BK308.out⟩
              have n4_ : Aside0 (Below w.heap.size w (((w25.setCell ⟨gb308, 0, none⟩ (.int .i64 ((rd_T53 l1 x29_2).f0))).setCell ⟨gb308, 1, none⟩ (.int .i64 ((rd_T53 l1 x29_2).f1))).setCell ⟨gb308, 2, none⟩ (.int .i64 ((rd_T53 l1 x29_2).f2)))) := ⟨by repeat (first | (with_reducible first | exact HB.out | apply below_alloc | apply pw_below_drewN | apply below_drew1 | refine below_set ?_ GE300.out | refine below_set ?_ GE306.out | refine below_set ?_ GE308.out) | exact HB.out)⟩
              (try clear HO_307001)
              (try clear BK300)
              (try clear BK306)
              (try clear BK308)
              (try clear HB)
              (try simp only [show ∀ (W_ : World) (n_ : Nat) (a_ : Addr) (v_ : Value), (World.drewN W_ n_).setCell a_ v_ = (World.setCell W_ a_ v_).drewN n_ from fun _ _ _ _ => rfl])
              generalize (((w25.setCell ⟨gb308, 0, none⟩ (.int .i64 ((rd_T53 l1 x29_2).f0))).setCell ⟨gb308, 1, none⟩ (.int .i64 ((rd_T53 l1 x29_2).f1))).setCell ⟨gb308, 2, none⟩ (.int .i64 ((rd_T53 l1 x29_2).f2))) = w29 at n0_ n1_ n2_ n3_ n4_ ⊢
              have HO_307001 := n0_
              have BK300 := n1_
              have BK306 := n2_
              have BK308 := n3_
              have HB := n4_
              clear n0_ n1_ n2_ n3_ n4_
              have n0_ := Aside0.mk (Kd.R_drew HO_307001.out)
              have n1_ := Aside0.mk (blk_drew BK300.out)
              have n2_ := Aside0.mk (blk_drew BK306.out)
              have n3_ := Aside0.mk (blk_drew BK308.out)
              have n4_ := Aside0.mk (below_drew1 HB.out)
              clear HO_307001
              clear BK300
              clear BK306
              clear BK308
              clear HB
              have HO_307001 := n0_
              have BK300 := n1_
              have BK306 := n2_
              have BK308 := n3_
              have HB := n4_
              clear n0_ n1_ n2_ n3_ n4_
              have p310 : 0 ≤ ((ji21) : Int) := of_decide_eq_true (by first | (with_reducible assumption) | assumption)
              have q310 : (ji21) < (l1.length : Int) := of_decide_eq_true (by first | (with_reducible assumption) | assumption)
              obtain ⟨ad310, e310, hx310_0, hx310_1, hx310_2⟩ := at_T53 HR1.out (ji21) p310 q310
              have hw310_2 := hx310_2
              have hw310_1 := hx310_1
              have hw310_0 := hx310_0
              obtain rfl : ad307 = ad310 := (by injection e310)
              replace hx310_0 := (HB.out.cell (World.block_lt_of_cell? w _ hx310_0)).trans hx310_0
              replace hx310_1 := (HB.out.cell (World.block_lt_of_cell? w _ hx310_1)).trans hx310_1
              replace hx310_2 := (HB.out.cell (World.block_lt_of_cell? w _ hx310_2)).trans hx310_2
              replace p310 := eq_true p310
              replace q310 := eq_true q310
              refine start_ (n := 18) (S := fun w' => w'.cell? ⟨gb308, 0, none⟩ = some (.int .i64 ((rd_T53 l1 x29_2).f0)) ∧ w'.cell? ⟨gb308, 1, none⟩ = some (.int .i64 ((rd_T53 l1 x29_2).f1)) ∧ w'.cell? ⟨gb308, 2, none⟩ = some (.int .i64 ((rd_T53 l1 x29_2).f2)) ∧ w'.cell? (ad307.add (((ji21)).toNat * 3)) = some (.int .i64 ((rd_T53 l1 (ji21)).f0)) ∧ w'.cell? ⟨(ad307.add (((ji21)).toNat * 3)).block, (ad307.add (((ji21)).toNat * 3)).off + 1, none⟩ = some (.int .i64 ((rd_T53 l1 (ji21)).f1)) ∧ w'.cell? ⟨(ad307.add (((ji21)).toNat * 3)).block, (ad307.add (((ji21)).toNat * 3)).off + 2, none⟩ = some (.int .i64 ((rd_T53 l1 (ji21)).f2))) (ds := []) #[false, false, false, false, false, false, false, false, false, false, false, false, false, false, false, false, false, false] (by kernel_rfl) rfl rfl ⟨(blk_cell BK308.out 0).trans rfl, (blk_cell BK308.out 1).trans rfl, (blk_cell BK308.out 2).trans rfl, ((HB.out.cell (World.block_lt_of_cell? w _ hw310_0)).trans hw310_0), ((HB.out.cell (World.block_lt_of_cell? w _ hw310_1)).trans hw310_1), ((HB.out.cell (World.block_lt_of_cell? w _ hw310_2)).trans hw310_2)⟩ (fun hHeld => ?_); refine with_tabW impl_heard.tab7 impl_heard.bits7 (fun HT_ HW_ => ?_)
              generalize w29.drew = w30 at HO_307001 BK300 BK306 BK308 HB hx310_0 hx310_1 hx310_2 hHeld ⊢
              refine take_ (i := 0) (N := some 34) (v := ?_) (a' := ?_) #[true, false, false, false, false, false, false, false, false, false, false, false, false, false, false, false, false, false] rfl rfl (take_ofW HT_.out HW_.out (by kernel_rfl)) (fun _ _ _ h => h) (Or.inl ⟨by rfl, ?_⟩) hHeld ?_ ?_
              rotate_left
              ·rintro w' ⟨s0, s1, s2, s3, s4, s5⟩
               go_simp
               with_reducible rfl
              rotate_left
              ·simp only [Act.put, List.setIfInBounds_toArray, List.set_cons_zero, List.set_cons_succ, i64_w, i32_w]
               rfl
              refine one_ (i := 1) (N := some 35) #[true, true, false, false, false, false, false, false, false, false, false, false, false, false, false, false, false, false] rfl rfl (one_of HT_.out (by kernel_rfl)) (by decide) (fun K hK => ?_)
              refine goes_ Try.func45 (by kernel_rfl) rfl #[.agg #[.int .i64 ((rd_T53 l1 x29_2).f0), .int .i64 ((rd_T53 l1 x29_2).f1), .int .i64 ((rd_T53 l1 x29_2).f2)]] (by rfl) rfl rfl (by (try simp only [List.map_toArray, List.map_cons, List.map_nil]); first | done | rfl | (simp only [List.length_drop, List.length_take]; rfl)) ?_
              with_reducible refine (impl_isSeen.calls ((rd_T53 l1 x29_2).f0) ((rd_T53 l1 x29_2).f1) ((rd_T53 l1 x29_2).f2) true _ A18.out).mono ?_
              rintro e w31 ⟨rfl, hb⟩
              refine ⟨_, rfl, ?_⟩
              have n0_ := Aside0.mk (Kd.R_below (by (with_reducible repeat (first | apply Kd.R_alloc | apply Kd.R_drewN | apply Kd.R_drew)); exact HO_307001.out) hb)
              have n1_ := Aside0.mk (blk_below (g := gb300) (o := .cells #[.int .i64 x301000_2, .slice none 0 0] 24 (0, 0)) (by (with_reducible repeat (first | refine blk_drewN ?_ _ | refine blk_drew ?_ | refine blk_alloc ?_ _)); exact BK300.out) hb)
              have n2_ := Aside0.mk (blk_below (g := gb306) (o := .cells #[.int .i64 t301, .slice Ao10 t302.length co10] 24 (0, 0)) (by (with_reducible repeat (first | refine blk_drewN ?_ _ | refine blk_drew ?_ | refine blk_alloc ?_ _)); exact BK306.out) hb)
              have n3_ := Aside0.mk (blk_below (g := gb308) (o := .cells #[.int .i64 ((rd_T53 l1 x29_2).f0), .int .i64 ((rd_T53 l1 x29_2).f1), .int .i64 ((rd_T53 l1 x29_2).f2)] 53 (0, 0)) (by (with_reducible repeat (first | refine blk_drewN ?_ _ | refine blk_drew ?_ | refine blk_alloc ?_ _)); exact BK308.out) hb)
              have n4_ := Aside0.mk (below_step (by repeat (first | (with_reducible first | exact HB.out | apply below_alloc | apply pw_below_drewN | apply below_drew1 | refine below_set ?_ GE300.out | refine below_set ?_ GE306.out | refine below_set ?_ GE308.out) | exact HB.out)) hb)
              clear HO_307001
              clear BK300
              clear BK306
              clear BK308
              clear HB
              have HO_307001 := n0_
              have BK300 := n1_
              have BK306 := n2_
              have BK308 := n3_
              have HB := n4_
              clear n0_ n1_ n2_ n3_ n4_
              (try clear hb)
              (try clear hb2)
              (try clear hk)
              (try clear hi)
              refine hK.out _ _ ⟨(blk_cell BK308.out 0).trans rfl, (blk_cell BK308.out 1).trans rfl, (blk_cell BK308.out 2).trans rfl, ((HB.out.cell (World.block_lt_of_cell? w _ hw310_0)).trans hw310_0), ((HB.out.cell (World.block_lt_of_cell? w _ hw310_1)).trans hw310_1), ((HB.out.cell (World.block_lt_of_cell? w _ hw310_2)).trans hw310_2)⟩ (fun hHeld => ?_)
              clear hK K
              refine norm_ (a' := ?_) ?_ ?_
              rotate_left
              ·show Act.put _ (some 35) _ = _
               simp only [Act.put, List.setIfInBounds_toArray, List.set_cons_zero, List.set_cons_succ, i64_w, i32_w]
               rfl
              refine pure_ (i := 2) (N := some 36) (v := ?_) (a' := ?_) #[true, true, true, false, false, false, false, false, false, false, false, false, false, false, false, false, false, false] rfl rfl (any_of HT_.out (by kernel_rfl)) (fun _ _ _ h => h) (Or.inl ⟨by rfl, ?_⟩) ?_ ?_
              rotate_left
              ·intro w'
               go_simp
               with_reducible rfl
              rotate_left
              ·simp only [Act.put, List.setIfInBounds_toArray, List.set_cons_zero, List.set_cons_succ, i64_w, i32_w]
               rfl
              refine pure_ (i := 3) (N := some 37) (v := ?_) (a' := ?_) #[true, true, true, true, false, false, false, false, false, false, false, false, false, false, false, false, false, false] rfl rfl (any_of HT_.out (by kernel_rfl)) (fun _ _ _ h => h) (Or.inl ⟨by rfl, ?_⟩) ?_ ?_
              rotate_left
              ·intro w'
               go_simp
               with_reducible rfl
              rotate_left
              ·simp only [Act.put, List.setIfInBounds_toArray, List.set_cons_zero, List.set_cons_succ, i64_w, i32_w]
               rfl
              refine pure_ (i := 4) (N := some 38) (v := ?_) (a' := ?_) #[true, true, true, true, true, false, false, false, false, false, false, false, false, false, false, false, false, false] rfl rfl (any_of HT_.out (by kernel_rfl)) (fun _ _ _ h => h) (Or.inl ⟨by rfl, ?_⟩) ?_ ?_
              rotate_left
              ·intro w'
               go_simp
               with_reducible rfl
              rotate_left
              ·simp only [Act.put, List.setIfInBounds_toArray, List.set_cons_zero, List.set_cons_succ, i64_w, i32_w]
               rfl
              refine pure_ (i := 5) (N := some 39) (v := ?_) (a' := ?_) #[true, true, true, true, true, true, false, false, false, false, false, false, false, false, false, false, false, false] rfl rfl (any_of HT_.out (by kernel_rfl)) (fun _ _ _ h => h) (Or.inl ⟨by rfl, ?_⟩) ?_ ?_
              rotate_left
              ·intro w'
               go_simp
               with_reducible rfl
              rotate_left
              ·simp only [Act.put, List.setIfInBounds_toArray, List.set_cons_zero, List.set_cons_succ, i64_w, i32_w]
               rfl
              refine pure_ (i := 6) (N := some 40) (v := ?_) (a' := ?_) #[true, true, true, true, true, true, true, false, false, false, false, false, false, false, false, false, false, false] rfl rfl (any_of HT_.out (by kernel_rfl)) (fun _ _ _ h => h) (Or.inl ⟨by rfl, ?_⟩) ?_ ?_
              rotate_left
              ·intro w'
               go_simp
               with_reducible rfl
              rotate_left
              ·simp only [Act.put, List.setIfInBounds_toArray, List.set_cons_zero, List.set_cons_succ, i64_w, i32_w]
               rfl
              refine pure_ (i := 7) (N := some 41) (v := ?_) (a' := ?_) #[true, true, true, true, true, true, true, true, false, false, false, false, false, false, false, false, false, false] rfl rfl (any_of HT_.out (by kernel_rfl)) (fun _ _ _ h => h) (Or.inl ⟨by rfl, ?_⟩) ?_ ?_
              rotate_left
              ·intro w'
               go_simp
               with_reducible rfl
              rotate_left
              ·simp only [Act.put, List.setIfInBounds_toArray, List.set_cons_zero, List.set_cons_succ, i64_w, i32_w]
               rfl
              refine pure_ (i := 8) (N := some 42) (v := ?_) (a' := ?_) #[true, true, true, true, true, true, true, true, true, false, false, false, false, false, false, false, false, false] rfl rfl (any_of HT_.out (by kernel_rfl)) (fun _ _ _ h => h) (Or.inl ⟨by rfl, ?_⟩) ?_ ?_
              rotate_left
              ·intro w'
               go_simp
               with_reducible rfl
              rotate_left
              ·simp only [Act.put, List.setIfInBounds_toArray, List.set_cons_zero, List.set_cons_succ, i64_w, i32_w]
               rfl
              refine pure_ (i := 9) (N := some 43) (v := ?_) (a' := ?_) #[true, true, true, true, true, true, true, true, true, true, false, false, false, false, false, false, false, false] rfl rfl (any_of HT_.out (by kernel_rfl)) (fun _ _ _ h => h) (Or.inl ⟨by rfl, ?_⟩) ?_ ?_
              rotate_left
              ·intro w'
               go_simp
               with_reducible rfl
              rotate_left
              ·simp only [Act.put, List.setIfInBounds_toArray, List.set_cons_zero, List.set_cons_succ, i64_w, i32_w]
               rfl
              refine pure_ (i := 10) (N := some 44) (v := ?_) (a' := ?_) #[true, true, true, true, true, true, true, true, true, true, true, false, false, false, false, false, false, false] rfl rfl (any_of HT_.out (by kernel_rfl)) (fun _ _ _ h => h) (Or.inl ⟨by rfl, ?_⟩) ?_ ?_
              rotate_left
              ·intro w'
               go_simp
               with_reducible rfl
              rotate_left
              ·simp only [Act.put, List.setIfInBounds_toArray, List.set_cons_zero, List.set_cons_succ, i64_w, i32_w]
               rfl
              refine pure_ (i := 11) (N := some 45) (v := ?_) (a' := ?_) #[true, true, true, true, true, true, true, true, true, true, true, true, false, false, false, false, false, false] rfl rfl (any_of HT_.out (by kernel_rfl)) (fun _ _ _ h => h) (Or.inl ⟨by rfl, ?_⟩) ?_ ?_
              rotate_left
              ·intro w'
               go_simp
               with_reducible rfl
              rotate_left
              ·simp only [Act.put, List.setIfInBounds_toArray, List.set_cons_zero, List.set_cons_succ, i64_w, i32_w]
               rfl
              refine pure_ (i := 13) (N := some 47) (v := ?_) (a' := ?_) #[true, true, true, true, true, true, true, true, true, true, true, true, false, true, false, false, false, false] rfl rfl (any_of HT_.out (by kernel_rfl)) (fun _ _ _ h => h) (Or.inl ⟨by rfl, ?_⟩) ?_ ?_
              rotate_left
              ·intro w'
               go_simp
               with_reducible rfl
              rotate_left
              ·simp only [Act.put, List.setIfInBounds_toArray, List.set_cons_zero, List.set_cons_succ, i64_w, i32_w]
               rfl
              refine take_ (i := 12) (N := some 46) (v := ?_) (a' := ?_) #[true, true, true, true, true, true, true, true, true, true, true, true, true, true, false, false, false, false] rfl rfl (take_ofW HT_.out HW_.out (by kernel_rfl)) (fun _ _ _ h => h) (Or.inl ⟨by rfl, ?_⟩) hHeld ?_ ?_
              rotate_left
              ·rintro w' ⟨s0, s1, s2, s3, s4, s5⟩
               go_simp
               with_reducible rfl
              rotate_left
              ·simp only [Act.put, List.setIfInBounds_toArray, List.set_cons_zero, List.set_cons_succ, i64_w, i32_w]
               rfl
              refine take_ (i := 14) (N := some 48) (v := ?_) (a' := ?_) #[true, true, true, true, true, true, true, true, true, true, true, true, true, true, true, false, false, false] rfl rfl (take_ofW HT_.out HW_.out (by kernel_rfl)) (fun _ _ _ h => h) (Or.inl ⟨by rfl, ?_⟩) hHeld ?_ ?_
              rotate_left
              ·rintro w' ⟨s0, s1, s2, s3, s4, s5⟩
               go_simp
               with_reducible rfl
              rotate_left
              ·simp only [Act.put, List.setIfInBounds_toArray, List.set_cons_zero, List.set_cons_succ, i64_w, i32_w]
               rfl
              refine pure_ (i := 15) (N := some 49) (v := ?_) (a' := ?_) #[true, true, true, true, true, true, true, true, true, true, true, true, true, true, true, true, false, false] rfl rfl (any_of HT_.out (by kernel_rfl)) (fun _ _ _ h => h) (Or.inl ⟨by rfl, ?_⟩) ?_ ?_
              rotate_left
              ·intro w'
               go_simp
               with_reducible rfl
              rotate_left
              ·simp only [Act.put, List.setIfInBounds_toArray, List.set_cons_zero, List.set_cons_succ, i64_w, i32_w]
               rfl
              refine pure_ (i := 16) (N := some 50) (v := ?_) (a' := ?_) #[true, true, true, true, true, true, true, true, true, true, true, true, true, true, true, true, true, false] rfl rfl (any_of HT_.out (by kernel_rfl)) (fun _ _ _ h => h) (Or.inl ⟨by rfl, ?_⟩) ?_ ?_
              rotate_left
              ·intro w'
               go_simp
               with_reducible rfl
              rotate_left
              ·simp only [Act.put, List.setIfInBounds_toArray, List.set_cons_zero, List.set_cons_succ, i64_w, i32_w]
               rfl
              refine pure_ (i := 17) (N := some 51) (v := ?_) (a' := ?_) #[true, true, true, true, true, true, true, true, true, true, true, true, true, true, true, true, true, true] rfl rfl (any_of HT_.out (by kernel_rfl)) (fun _ _ _ h => h) (Or.inl ⟨by rfl, ?_⟩) ?_ ?_
              rotate_left
              ·intro w'
               go_simp
               with_reducible rfl
              rotate_left
              ·simp only [Act.put, List.setIfInBounds_toArray, List.set_cons_zero, List.set_cons_succ, i64_w, i32_w]
               rfl
              refine done_ (done_of HT_.out (by kernel_rfl)) ?_
              have hnb32 := NB300_306.out
              have hnc32 := NB306_300.out
              have hcz33_0 : w31.cell? ⟨gb300, 0, none⟩ = some (.int .i64 x301000_2) := (blk_cell BK300.out 0).trans rfl
              have hcz33_1 : w31.cell? ⟨gb300, 1, none⟩ = some (.slice none 0 0) := (blk_cell BK300.out 1).trans rfl
              have hfz33_0 := blk_frozen BK300.out 0
              have hfz33_1 := blk_frozen BK300.out 1
              try go_wp2
              refine bodyPost_ret (results_ctt rfl _ _ gb300 24 #[.int .i64 0, .slice none 0 0] (0, 0) _ rfl (by (with_reducible repeat (first | refine blk_drewN ?_ _ | refine blk_drew ?_ | refine blk_alloc ?_ _)); refine blk_put (cs := #[.int .i64 0, .slice none 0 0]) ?_ 1 _ rfl; (with_reducible repeat (first | refine blk_drewN ?_ _ | refine blk_drew ?_ | refine blk_alloc ?_ _)); refine blk_put (cs := #[.int .i64 x301000_2, .slice none 0 0]) ?_ 0 _ rfl; (with_reducible repeat (first | refine blk_drewN ?_ _ | refine blk_drew ?_ | refine blk_alloc ?_ _)); exact BK300.out) Try.underlying24 rfl (by kernel_rfl)) rfl ?_
              exact ⟨_, by first | rfl | (simp [errW_none, errW_some] <;> rfl) | (simp only [← hji21]; first | rfl | (simp [errW_none, errW_some] <;> rfl)) | (simp [*, errW_none, errW_some] <;> rfl), by first | exact Kd.R_nil _ _ _ _ _ | exact Kd.N_nil _ _ _ _ _ | exact Kd.V_nil _ _ _ _ _ | exact Kd.Q_nil _ _ _ _ _ | exact Kd.S_nil _ _ _ _ _, by repeat (first | (with_reducible first | exact HB.out | apply below_alloc | apply pw_below_drewN | apply below_drew1 | refine below_set ?_ GE300.out | refine below_set ?_ GE306.out | refine below_set ?_ GE308.out) | exact HB.out)⟩
             ·rw [if_neg c24] at H
              have c24b0 : decide (((rd_T53 l1 x29_2).f2) < ((rd_T53 l1 (ji21)).f2)) = false := decide_eq_false c24
              clear c24
              have H' := Aside0.mk H
              clear H
              have p307 : 0 ≤ (x29_2 : Int) := of_decide_eq_true (by first | (with_reducible assumption) | assumption)
              have q307 : x29_2 < (l1.length : Int) := of_decide_eq_true (by first | (with_reducible assumption) | assumption)
              obtain ⟨ad307, e307, hx307_0, hx307_1, hx307_2⟩ := at_T53 HR1.out x29_2 p307 q307
              cases e307
              replace hx307_0 := (HB.out.cell (World.block_lt_of_cell? w _ hx307_0)).trans hx307_0
              replace hx307_1 := (HB.out.cell (World.block_lt_of_cell? w _ hx307_1)).trans hx307_1
              replace hx307_2 := (HB.out.cell (World.block_lt_of_cell? w _ hx307_2)).trans hx307_2
              replace p307 := eq_true p307
              replace q307 := eq_true q307
              try go_wp2_with (first | ((with_reducible refine gate_dst (N := 10) rfl ?_); (try (refine gate_guard (by rfl) ?_; dsimp only)); refine box_event ?hg (N := 10) ?hd (cs := #[.int .i64 0, .int .i64 0, .int .i64 0]) (t := 53) ?hr ?_; (case hd => rfl); (case hg => rfl); (case hr => first | (go_simp; done) | (go_simp; rfl)); intro gb308 hg w34 hbox hb; have n0_ := Aside0.mk (Kd.R_below (Kd.R_elderB (by (with_reducible repeat (first | apply Kd.R_alloc | apply Kd.R_drewN | apply Kd.R_drew)); exact HO_307001.out) gb308 (Nat.le_of_eq hg.symm)) hb); have n1_ := Aside0.mk (blk_below (g := gb300) (o := .cells #[.int .i64 x301000_2, .slice none 0 0] 24 (0, 0)) (by (with_reducible repeat (first | refine blk_drewN ?_ _ | refine blk_drew ?_ | refine blk_alloc ?_ _)); exact BK300.out) hb); have n2_ := Aside0.mk (blk_below (g := gb306) (o := .cells #[.int .i64 t301, .slice Ao10 t302.length co10] 24 (0, 0)) (by (with_reducible repeat (first | refine blk_drewN ?_ _ | refine blk_drew ?_ | refine blk_alloc ?_ _)); exact BK306.out) hb); have n3_ := Aside0.mk (below_step (by repeat (first | (with_reducible first | exact HB.out | apply below_alloc | apply pw_below_drewN | apply below_drew1 | refine below_set ?_ GE300.out | refine below_set ?_ GE306.out) | exact HB.out)) hb); have n4_ := Aside0.mk (hbox); have n5_ := Aside0.mk ((by rw [hg]; exact (below_size (by repeat (first | (with_reducible first | exact HB.out | apply below_alloc | apply pw_below_drewN | apply below_drew1 | refine below_set ?_ GE300.out | refine below_set ?_ GE306.out) | exact HB.out))) : w.heap.size ≤ gb308)); have n6_ := Aside0.mk ((by rw [hg]; exact (below_size (by repeat (first | (with_reducible first | exact HB.out | apply below_alloc | apply pw_below_drewN | apply below_drew1 | refine below_set ?_ GE300.out | refine below_set ?_ GE306.out) | exact HB.out))) : w.heap.size ≤ gb308)); have n7_ := Aside0.mk ((by rw [hg]; exact Nat.ne_of_lt (blk_lt (g := gb300) (o := .cells #[.int .i64 x301000_2, .slice none 0 0] 24 (0, 0)) (by (with_reducible repeat (first | refine blk_drewN ?_ _ | refine blk_drew ?_ | refine blk_alloc ?_ _)); exact BK300.out)) : gb300 ≠ gb308)); have n8_ := Aside0.mk ((by rw [hg]; exact Nat.ne_of_gt (blk_lt (g := gb300) (o := .cells #[.int .i64 x301000_2, .slice none 0 0] 24 (0, 0)) (by (with_reducible repeat (first | refine blk_drewN ?_ _ | refine blk_drew ?_ | refine blk_alloc ?_ _)); exact BK300.out)) : gb308 ≠ gb300)); have n9_ := Aside0.mk ((by rw [hg]; exact Nat.ne_of_lt (blk_lt (g := gb306) (o := .cells #[.int .i64 t301, .slice Ao10 t302.length co10] 24 (0, 0)) (by (with_reducible repeat (first | refine blk_drewN ?_ _ | refine blk_drew ?_ | refine blk_alloc ?_ _)); exact BK306.out)) : gb306 ≠ gb308)); have n10_ := Aside0.mk ((by rw [hg]; exact Nat.ne_of_gt (blk_lt (g := gb306) (o := .cells #[.int .i64 t301, .slice Ao10 t302.length co10] 24 (0, 0)) (by (with_reducible repeat (first | refine blk_drewN ?_ _ | refine blk_drew ?_ | refine blk_alloc ?_ _)); exact BK306.out)) : gb308 ≠ gb306)); clear HO_307001; clear BK300; clear BK306; clear HB; have HO_307001 := n0_; have BK300 := n1_; have BK306 := n2_; have HB := n3_; have BK308 := n4_; have GW308 := n5_; have GE308 := n6_; have NB300_308 := n7_; have NB308_300 := n8_; have NB306_308 := n9_; have NB308_306 := n10_; clear n0_ n1_ n2_ n3_ n4_ n5_ n6_ n7_ n8_ n9_ n10_; clear hb hbox hg; have hnb35 := NB308_300.out; have hnc35 := NB300_308.out; have hnb36 := NB308_306.out; have hnc36 := NB306_308.out; have hcz37_0 : w34.cell? ⟨gb308, 0, none⟩ = some (.int .i64 0) := (blk_cell BK308.out 0).trans rfl; have hcz37_1 : w34.cell? ⟨gb308, 1, none⟩ = some (.int .i64 0) := (blk_cell BK308.out 1).trans rfl; have hcz37_2 : w34.cell? ⟨gb308, 2, none⟩ = some (.int .i64 0) := (blk_cell BK308.out 2).trans rfl; have hfz37_0 := blk_frozen BK308.out 0; have hfz37_1 := blk_frozen BK308.out 1; have hfz37_2 := blk_frozen BK308.out 2))
              have n0_ : Aside0 (Kd.R k53 53 (((w34.setCell ⟨gb308, 0, none⟩ (.int .i64 ((rd_T53 l1 x29_2).f0))).setCell ⟨gb308, 1, none⟩ (.int .i64 ((rd_T53 l1 x29_2).f1))).setCell ⟨gb308, 2, none⟩ (.int .i64 ((rd_T53 l1 x29_2).f2))) w.heap.size (fun k_ => k_ ≠ gb308) (.slice Ao10 t302.length co10) t302) := ⟨by (with_reducible repeat (first | apply Kd.R_alloc | apply Kd.R_drewN | apply Kd.R_drew)); exact Kd.R_mono (Kd.R_far (p := ⟨gb308, 2, none⟩) (Kd.R_far (p := ⟨gb308, 1, none⟩) (Kd.R_far (p := ⟨gb308, 0, none⟩) (Kd.R_mono HO_307001.out (fun k_ hk => (⟨hk, hk.2⟩ : _ ∧ k_ ≠ gb308))) (fun _ hk => hk.2) (.int .i64 ((rd_T53 l1 x29_2).f0))) (fun _ hk => hk.2) (.int .i64 ((rd_T53 l1 x29_2).f1))) (fun _ hk => hk.2) (.int .i64 ((rd_T53 l1 x29_2).f2))) (fun _ hk => hk.1.2)⟩
              have n1_ : Aside0 ((((w34.setCell ⟨gb308, 0, none⟩ (.int .i64 ((rd_T53 l1 x29_2).f0))).setCell ⟨gb308, 1, none⟩ (.int .i64 ((rd_T53 l1 x29_2).f1))).setCell ⟨gb308, 2, none⟩ (.int .i64 ((rd_T53 l1 x29_2).f2))).heap[gb300]? = some (.cells #[.int .i64 x301000_2, .slice none 0 0] 24 (0, 0))) := ⟨by (with_reducible repeat (first | refine blk_drewN ?_ _ | refine blk_drew ?_ | refine blk_alloc ?_ _)); refine blk_far ?_ NB300_308.out _; (with_reducible repeat (first | refine blk_drewN ?_ _ | refine blk_drew ?_ | refine blk_alloc ?_ _)); refine blk_far ?_ NB300_308.out _; (with_reducible repeat (first | refine blk_drewN ?_ _ | refine blk_drew ?_ | refine blk_alloc ?_ _)); refine blk_far ?_ NB300_308.out _; (with_reducible repeat (first | refine blk_drewN ?_ _ | refine blk_drew ?_ | refine blk_alloc ?_ _)); exact BK300.out⟩
              have n2_ : Aside0 ((((w34.setCell ⟨gb308, 0, none⟩ (.int .i64 ((rd_T53 l1 x29_2).f0))).setCell ⟨gb308, 1, none⟩ (.int .i64 ((rd_T53 l1 x29_2).f1))).setCell ⟨gb308, 2, none⟩ (.int .i64 ((rd_T53 l1 x29_2).f2))).heap[gb306]? = some (.cells #[.int .i64 t301, .slice Ao10 t302.length co10] 24 (0, 0))) := ⟨by (with_reducible repeat (first | refine blk_drewN ?_ _ | refine blk_drew ?_ | refine blk_alloc ?_ _)); refine blk_far ?_ NB306_308.out _; (with_reducible repeat (first | refine blk_drewN ?_ _ | refine blk_drew ?_ | refine blk_alloc ?_ _)); refine blk_far ?_ NB306_308.out _; (with_reducible repeat (first | refine blk_drewN ?_ _ | refine blk_drew ?_ | refine blk_alloc ?_ _)); refine blk_far ?_ NB306_308.out _; (with_reducible repeat (first | refine blk_drewN ?_ _ | refine blk_drew ?_ | refine blk_alloc ?_ _)); exact BK306.out⟩
              have n3_ : Aside0 ((((w34.setCell ⟨gb308, 0, none⟩ (.int .i64 ((rd_T53 l1 x29_2).f0))).setCell ⟨gb308, 1, none⟩ (.int .i64 ((rd_T53 l1 x29_2).f1))).setCell ⟨gb308, 2, none⟩ (.int .i64 ((rd_T53 l1 x29_2).f2))).heap[gb308]? = some (.cells #[.int .i64 ((rd_T53 l1 x29_2).f0), .int .i64 ((rd_T53 l1 x29_2).f1), .int .i64 ((rd_T53 l1 x29_2).f2)] 53 (0, 0))) := ⟨by (with_reducible repeat (first | refine blk_drewN ?_ _ | refine blk_drew ?_ | refine blk_alloc ?_ _)); refine blk_put (cs := #[.int .i64 ((rd_T53 l1 x29_2).f0), .int .i64 ((rd_T53 l1 x29_2).f1), .int .i64 0]) ?_ 2 _ rfl; (with_reducible repeat (first | refine blk_drewN ?_ _ | refine blk_drew ?_ | refine blk_alloc ?_ _)); refine blk_put (cs := #[.int .i64 ((rd_T53 l1 x29_2).f0), .int .i64 0, .int .i64 0]) ?_ 1 _ rfl; (with_reducible repeat (first | refine blk_drewN ?_ _ | refine blk_drew ?_ | refine blk_alloc ?_ _)); refine blk_put (cs := #[.int .i64 0, .int .i64 0, .int .i64 0]) ?_ 0 _ rfl; (with_reducible repeat (first | refine blk_drewN ?_ _ | refine blk_drew ?_ | refine blk_alloc ?_ _)); exact BK308.out⟩
              have n4_ : Aside0 (Below w.heap.size w (((w34.setCell ⟨gb308, 0, none⟩ (.int .i64 ((rd_T53 l1 x29_2).f0))).setCell ⟨gb308, 1, none⟩ (.int .i64 ((rd_T53 l1 x29_2).f1))).setCell ⟨gb308, 2, none⟩ (.int .i64 ((rd_T53 l1 x29_2).f2)))) := ⟨by repeat (first | (with_reducible first | exact HB.out | apply below_alloc | apply pw_below_drewN | apply below_drew1 | refine below_set ?_ GE300.out | refine below_set ?_ GE306.out | refine below_set ?_ GE308.out) | exact HB.out)⟩
              (try clear HO_307001)
              (try clear BK300)
              (try clear BK306)
              (try clear BK308)
              (try clear HB)
              (try simp only [show ∀ (W_ : World) (n_ : Nat) (a_ : Addr) (v_ : Value), (World.drewN W_ n_).setCell a_ v_ = (World.setCell W_ a_ v_).drewN n_ from fun _ _ _ _ => rfl])
              generalize (((w34.setCell ⟨gb308, 0, none⟩ (.int .i64 ((rd_T53 l1 x29_2).f0))).setCell ⟨gb308, 1, none⟩ (.int .i64 ((rd_T53 l1 x29_2).f1))).setCell ⟨gb308, 2, none⟩ (.int .i64 ((rd_T53 l1 x29_2).f2))) = w38 at n0_ n1_ n2_ n3_ n4_ ⊢
              have HO_307001 := n0_
              have BK300 := n1_
              have BK306 := n2_
              have BK308 := n3_
              have HB := n4_
              clear n0_ n1_ n2_ n3_ n4_
              have n0_ := Aside0.mk (Kd.R_drew HO_307001.out)
              have n1_ := Aside0.mk (blk_drew BK300.out)
              have n2_ := Aside0.mk (blk_drew BK306.out)
              have n3_ := Aside0.mk (blk_drew BK308.out)
              have n4_ := Aside0.mk (below_drew1 HB.out)
              clear HO_307001
              clear BK300
              clear BK306
              clear BK308
              clear HB
              have HO_307001 := n0_
              have BK300 := n1_
              have BK306 := n2_
              have BK308 := n3_
              have HB := n4_
              clear n0_ n1_ n2_ n3_ n4_
              have p310 : 0 ≤ ((ji21) : Int) := of_decide_eq_true (by first | (with_reducible assumption) | assumption)
              have q310 : (ji21) < (l1.length : Int) := of_decide_eq_true (by first | (with_reducible assumption) | assumption)
              obtain ⟨ad310, e310, hx310_0, hx310_1, hx310_2⟩ := at_T53 HR1.out (ji21) p310 q310
              have hw310_2 := hx310_2
              have hw310_1 := hx310_1
              have hw310_0 := hx310_0
              obtain rfl : ad307 = ad310 := (by injection e310)
              replace hx310_0 := (HB.out.cell (World.block_lt_of_cell? w _ hx310_0)).trans hx310_0
              replace hx310_1 := (HB.out.cell (World.block_lt_of_cell? w _ hx310_1)).trans hx310_1
              replace hx310_2 := (HB.out.cell (World.block_lt_of_cell? w _ hx310_2)).trans hx310_2
              replace p310 := eq_true p310
              replace q310 := eq_true q310
              refine start_ (n := 18) (S := fun w' => w'.cell? ⟨gb308, 0, none⟩ = some (.int .i64 ((rd_T53 l1 x29_2).f0)) ∧ w'.cell? ⟨gb308, 1, none⟩ = some (.int .i64 ((rd_T53 l1 x29_2).f1)) ∧ w'.cell? ⟨gb308, 2, none⟩ = some (.int .i64 ((rd_T53 l1 x29_2).f2)) ∧ w'.cell? (ad307.add (((ji21)).toNat * 3)) = some (.int .i64 ((rd_T53 l1 (ji21)).f0)) ∧ w'.cell? ⟨(ad307.add (((ji21)).toNat * 3)).block, (ad307.add (((ji21)).toNat * 3)).off + 1, none⟩ = some (.int .i64 ((rd_T53 l1 (ji21)).f1)) ∧ w'.cell? ⟨(ad307.add (((ji21)).toNat * 3)).block, (ad307.add (((ji21)).toNat * 3)).off + 2, none⟩ = some (.int .i64 ((rd_T53 l1 (ji21)).f2))) (ds := []) #[false, false, false, false, false, false, false, false, false, false, false, false, false, false, false, false, false, false] (by kernel_rfl) rfl rfl ⟨(blk_cell BK308.out 0).trans rfl, (blk_cell BK308.out 1).trans rfl, (blk_cell BK308.out 2).trans rfl, ((HB.out.cell (World.block_lt_of_cell? w _ hw310_0)).trans hw310_0), ((HB.out.cell (World.block_lt_of_cell? w _ hw310_1)).trans hw310_1), ((HB.out.cell (World.block_lt_of_cell? w _ hw310_2)).trans hw310_2)⟩ (fun hHeld => ?_); refine with_tabW impl_heard.tab7 impl_heard.bits7 (fun HT_ HW_ => ?_)
              generalize w38.drew = w39 at HO_307001 BK300 BK306 BK308 HB hx310_0 hx310_1 hx310_2 hHeld ⊢
              refine take_ (i := 0) (N := some 34) (v := ?_) (a' := ?_) #[true, false, false, false, false, false, false, false, false, false, false, false, false, false, false, false, false, false] rfl rfl (take_ofW HT_.out HW_.out (by kernel_rfl)) (fun _ _ _ h => h) (Or.inl ⟨by rfl, ?_⟩) hHeld ?_ ?_
              rotate_left
              ·rintro w' ⟨s0, s1, s2, s3, s4, s5⟩
               go_simp
               with_reducible rfl
              rotate_left
              ·simp only [Act.put, List.setIfInBounds_toArray, List.set_cons_zero, List.set_cons_succ, i64_w, i32_w]
               rfl
              refine one_ (i := 1) (N := some 35) #[true, true, false, false, false, false, false, false, false, false, false, false, false, false, false, false, false, false] rfl rfl (one_of HT_.out (by kernel_rfl)) (by decide) (fun K hK => ?_)
              refine goes_ Try.func45 (by kernel_rfl) rfl #[.agg #[.int .i64 ((rd_T53 l1 x29_2).f0), .int .i64 ((rd_T53 l1 x29_2).f1), .int .i64 ((rd_T53 l1 x29_2).f2)]] (by rfl) rfl rfl (by (try simp only [List.map_toArray, List.map_cons, List.map_nil]); first | done | rfl | (simp only [List.length_drop, List.length_take]; rfl)) ?_
              with_reducible refine (impl_isSeen.calls ((rd_T53 l1 x29_2).f0) ((rd_T53 l1 x29_2).f1) ((rd_T53 l1 x29_2).f2) true _ A18.out).mono ?_
              rintro e w40 ⟨rfl, hb⟩
              refine ⟨_, rfl, ?_⟩
              have n0_ := Aside0.mk (Kd.R_below (by (with_reducible repeat (first | apply Kd.R_alloc | apply Kd.R_drewN | apply Kd.R_drew)); exact HO_307001.out) hb)
              have n1_ := Aside0.mk (blk_below (g := gb300) (o := .cells #[.int .i64 x301000_2, .slice none 0 0] 24 (0, 0)) (by (with_reducible repeat (first | refine blk_drewN ?_ _ | refine blk_drew ?_ | refine blk_alloc ?_ _)); exact BK300.out) hb)
              have n2_ := Aside0.mk (blk_below (g := gb306) (o := .cells #[.int .i64 t301, .slice Ao10 t302.length co10] 24 (0, 0)) (by (with_reducible repeat (first | refine blk_drewN ?_ _ | refine blk_drew ?_ | refine blk_alloc ?_ _)); exact BK306.out) hb)
              have n3_ := Aside0.mk (blk_below (g := gb308) (o := .cells #[.int .i64 ((rd_T53 l1 x29_2).f0), .int .i64 ((rd_T53 l1 x29_2).f1), .int .i64 ((rd_T53 l1 x29_2).f2)] 53 (0, 0)) (by (with_reducible repeat (first | refine blk_drewN ?_ _ | refine blk_drew ?_ | refine blk_alloc ?_ _)); exact BK308.out) hb)
              have n4_ := Aside0.mk (below_step (by repeat (first | (with_reducible first | exact HB.out | apply below_alloc | apply pw_below_drewN | apply below_drew1 | refine below_set ?_ GE300.out | refine below_set ?_ GE306.out | refine below_set ?_ GE308.out) | exact HB.out)) hb)
              clear HO_307001
              clear BK300
              clear BK306
              clear BK308
              clear HB
              have HO_307001 := n0_
              have BK300 := n1_
              have BK306 := n2_
              have BK308 := n3_
              have HB := n4_
              clear n0_ n1_ n2_ n3_ n4_
              (try clear hb)
              (try clear hb2)
              (try clear hk)
              (try clear hi)
              refine hK.out _ _ ⟨(blk_cell BK308.out 0).trans rfl, (blk_cell BK308.out 1).trans rfl, (blk_cell BK308.out 2).trans rfl, ((HB.out.cell (World.block_lt_of_cell? w _ hw310_0)).trans hw310_0), ((HB.out.cell (World.block_lt_of_cell? w _ hw310_1)).trans hw310_1), ((HB.out.cell (World.block_lt_of_cell? w _ hw310_2)).trans hw310_2)⟩ (fun hHeld => ?_)
              clear hK K
              refine norm_ (a' := ?_) ?_ ?_
              rotate_left
              ·show Act.put _ (some 35) _ = _
               simp only [Act.put, List.setIfInBounds_toArray, List.set_cons_zero, List.set_cons_succ, i64_w, i32_w]
               rfl
              refine pure_ (i := 2) (N := some 36) (v := ?_) (a' := ?_) #[true, true, true, false, false, false, false, false, false, false, false, false, false, false, false, false, false, false] rfl rfl (any_of HT_.out (by kernel_rfl)) (fun _ _ _ h => h) (Or.inl ⟨by rfl, ?_⟩) ?_ ?_
              rotate_left
              ·intro w'
               go_simp
               with_reducible rfl
              rotate_left
              ·simp only [Act.put, List.setIfInBounds_toArray, List.set_cons_zero, List.set_cons_succ, i64_w, i32_w]
               rfl
              refine pure_ (i := 3) (N := some 37) (v := ?_) (a' := ?_) #[true, true, true, true, false, false, false, false, false, false, false, false, false, false, false, false, false, false] rfl rfl (any_of HT_.out (by kernel_rfl)) (fun _ _ _ h => h) (Or.inl ⟨by rfl, ?_⟩) ?_ ?_
              rotate_left
              ·intro w'
               go_simp
               with_reducible rfl
              rotate_left
              ·simp only [Act.put, List.setIfInBounds_toArray, List.set_cons_zero, List.set_cons_succ, i64_w, i32_w]
               rfl
              refine pure_ (i := 4) (N := some 38) (v := ?_) (a' := ?_) #[true, true, true, true, true, false, false, false, false, false, false, false, false, false, false, false, false, false] rfl rfl (any_of HT_.out (by kernel_rfl)) (fun _ _ _ h => h) (Or.inl ⟨by rfl, ?_⟩) ?_ ?_
              rotate_left
              ·intro w'
               go_simp
               with_reducible rfl
              rotate_left
              ·simp only [Act.put, List.setIfInBounds_toArray, List.set_cons_zero, List.set_cons_succ, i64_w, i32_w]
               rfl
              refine pure_ (i := 5) (N := some 39) (v := ?_) (a' := ?_) #[true, true, true, true, true, true, false, false, false, false, false, false, false, false, false, false, false, false] rfl rfl (any_of HT_.out (by kernel_rfl)) (fun _ _ _ h => h) (Or.inl ⟨by rfl, ?_⟩) ?_ ?_
              rotate_left
              ·intro w'
               go_simp
               with_reducible rfl
              rotate_left
              ·simp only [Act.put, List.setIfInBounds_toArray, List.set_cons_zero, List.set_cons_succ, i64_w, i32_w]
               rfl
              refine pure_ (i := 6) (N := some 40) (v := ?_) (a' := ?_) #[true, true, true, true, true, true, true, false, false, false, false, false, false, false, false, false, false, false] rfl rfl (any_of HT_.out (by kernel_rfl)) (fun _ _ _ h => h) (Or.inl ⟨by rfl, ?_⟩) ?_ ?_
              rotate_left
              ·intro w'
               go_simp
               with_reducible rfl
              rotate_left
              ·simp only [Act.put, List.setIfInBounds_toArray, List.set_cons_zero, List.set_cons_succ, i64_w, i32_w]
               rfl
              refine pure_ (i := 7) (N := some 41) (v := ?_) (a' := ?_) #[true, true, true, true, true, true, true, true, false, false, false, false, false, false, false, false, false, false] rfl rfl (any_of HT_.out (by kernel_rfl)) (fun _ _ _ h => h) (Or.inl ⟨by rfl, ?_⟩) ?_ ?_
              rotate_left
              ·intro w'
               go_simp
               with_reducible rfl
              rotate_left
              ·simp only [Act.put, List.setIfInBounds_toArray, List.set_cons_zero, List.set_cons_succ, i64_w, i32_w]
               rfl
              refine pure_ (i := 8) (N := some 42) (v := ?_) (a' := ?_) #[true, true, true, true, true, true, true, true, true, false, false, false, false, false, false, false, false, false] rfl rfl (any_of HT_.out (by kernel_rfl)) (fun _ _ _ h => h) (Or.inl ⟨by rfl, ?_⟩) ?_ ?_
              rotate_left
              ·intro w'
               go_simp
               with_reducible rfl
              rotate_left
              ·simp only [Act.put, List.setIfInBounds_toArray, List.set_cons_zero, List.set_cons_succ, i64_w, i32_w]
               rfl
              refine pure_ (i := 9) (N := some 43) (v := ?_) (a' := ?_) #[true, true, true, true, true, true, true, true, true, true, false, false, false, false, false, false, false, false] rfl rfl (any_of HT_.out (by kernel_rfl)) (fun _ _ _ h => h) (Or.inl ⟨by rfl, ?_⟩) ?_ ?_
              rotate_left
              ·intro w'
               go_simp
               with_reducible rfl
              rotate_left
              ·simp only [Act.put, List.setIfInBounds_toArray, List.set_cons_zero, List.set_cons_succ, i64_w, i32_w]
               rfl
              refine pure_ (i := 10) (N := some 44) (v := ?_) (a' := ?_) #[true, true, true, true, true, true, true, true, true, true, true, false, false, false, false, false, false, false] rfl rfl (any_of HT_.out (by kernel_rfl)) (fun _ _ _ h => h) (Or.inl ⟨by rfl, ?_⟩) ?_ ?_
              rotate_left
              ·intro w'
               go_simp
               with_reducible rfl
              rotate_left
              ·simp only [Act.put, List.setIfInBounds_toArray, List.set_cons_zero, List.set_cons_succ, i64_w, i32_w]
               rfl
              refine pure_ (i := 11) (N := some 45) (v := ?_) (a' := ?_) #[true, true, true, true, true, true, true, true, true, true, true, true, false, false, false, false, false, false] rfl rfl (any_of HT_.out (by kernel_rfl)) (fun _ _ _ h => h) (Or.inl ⟨by rfl, ?_⟩) ?_ ?_
              rotate_left
              ·intro w'
               go_simp
               with_reducible rfl
              rotate_left
              ·simp only [Act.put, List.setIfInBounds_toArray, List.set_cons_zero, List.set_cons_succ, i64_w, i32_w]
               rfl
              refine pure_ (i := 13) (N := some 47) (v := ?_) (a' := ?_) #[true, true, true, true, true, true, true, true, true, true, true, true, false, true, false, false, false, false] rfl rfl (any_of HT_.out (by kernel_rfl)) (fun _ _ _ h => h) (Or.inl ⟨by rfl, ?_⟩) ?_ ?_
              rotate_left
              ·intro w'
               go_simp
               with_reducible rfl
              rotate_left
              ·simp only [Act.put, List.setIfInBounds_toArray, List.set_cons_zero, List.set_cons_succ, i64_w, i32_w]
               rfl
              refine take_ (i := 12) (N := some 46) (v := ?_) (a' := ?_) #[true, true, true, true, true, true, true, true, true, true, true, true, true, true, false, false, false, false] rfl rfl (take_ofW HT_.out HW_.out (by kernel_rfl)) (fun _ _ _ h => h) (Or.inl ⟨by rfl, ?_⟩) hHeld ?_ ?_
              rotate_left
              ·rintro w' ⟨s0, s1, s2, s3, s4, s5⟩
               go_simp
               with_reducible rfl
              rotate_left
              ·simp only [Act.put, List.setIfInBounds_toArray, List.set_cons_zero, List.set_cons_succ, i64_w, i32_w]
               rfl
              refine take_ (i := 14) (N := some 48) (v := ?_) (a' := ?_) #[true, true, true, true, true, true, true, true, true, true, true, true, true, true, true, false, false, false] rfl rfl (take_ofW HT_.out HW_.out (by kernel_rfl)) (fun _ _ _ h => h) (Or.inl ⟨by rfl, ?_⟩) hHeld ?_ ?_
              rotate_left
              ·rintro w' ⟨s0, s1, s2, s3, s4, s5⟩
               go_simp
               with_reducible rfl
              rotate_left
              ·simp only [Act.put, List.setIfInBounds_toArray, List.set_cons_zero, List.set_cons_succ, i64_w, i32_w]
               rfl
              refine pure_ (i := 15) (N := some 49) (v := ?_) (a' := ?_) #[true, true, true, true, true, true, true, true, true, true, true, true, true, true, true, true, false, false] rfl rfl (any_of HT_.out (by kernel_rfl)) (fun _ _ _ h => h) (Or.inl ⟨by rfl, ?_⟩) ?_ ?_
              rotate_left
              ·intro w'
               go_simp
               with_reducible rfl
              rotate_left
              ·simp only [Act.put, List.setIfInBounds_toArray, List.set_cons_zero, List.set_cons_succ, i64_w, i32_w]
               rfl
              refine pure_ (i := 16) (N := some 50) (v := ?_) (a' := ?_) #[true, true, true, true, true, true, true, true, true, true, true, true, true, true, true, true, true, false] rfl rfl (any_of HT_.out (by kernel_rfl)) (fun _ _ _ h => h) (Or.inl ⟨by rfl, ?_⟩) ?_ ?_
              rotate_left
              ·intro w'
               go_simp
               with_reducible rfl
              rotate_left
              ·simp only [Act.put, List.setIfInBounds_toArray, List.set_cons_zero, List.set_cons_succ, i64_w, i32_w]
               rfl
              refine pure_ (i := 17) (N := some 51) (v := ?_) (a' := ?_) #[true, true, true, true, true, true, true, true, true, true, true, true, true, true, true, true, true, true] rfl rfl (any_of HT_.out (by kernel_rfl)) (fun _ _ _ h => h) (Or.inl ⟨by rfl, ?_⟩) ?_ ?_
              rotate_left
              ·intro w'
               go_simp
               with_reducible rfl
              rotate_left
              ·simp only [Act.put, List.setIfInBounds_toArray, List.set_cons_zero, List.set_cons_succ, i64_w, i32_w]
               rfl
              refine done_ (done_of HT_.out (by kernel_rfl)) ?_
              try go_wp2
              go_roundg k2
              case measure => have := HJ3.out; have := HK2.out; omega
              case rel => exact ⟨(wrap64 (x29_2 + 1)), (x301000_2), (by first | rfl | (simp; done) | (simp [*]; done)), H', ⟨by have := HJ3.out; have := HK2.out; omega⟩, ⟨by (with_reducible repeat (first | apply Kd.R_alloc | apply Kd.R_drewN | apply Kd.R_drew)); exact Kd.R_mono HO_307001.out (fun _ hk => trivial)⟩, ⟨by (with_reducible repeat (first | refine blk_drewN ?_ _ | refine blk_drew ?_ | refine blk_alloc ?_ _)); exact BK300.out⟩, ⟨by (with_reducible repeat (first | refine blk_drewN ?_ _ | refine blk_drew ?_ | refine blk_alloc ?_ _)); exact BK306.out⟩, ⟨by repeat (first | (with_reducible first | exact HB.out | apply below_alloc | apply pw_below_drewN | apply below_drew1 | refine below_set ?_ GE300.out | refine below_set ?_ GE306.out | refine below_set ?_ GE308.out) | exact HB.out)⟩⟩
            ·rw [if_neg c23] at H
             exact absurd H (by simp)
           ·rw [if_neg c22] at H
            exact absurd H (by simp)
          ·rw [if_neg c20] at H
           have c20b0 : decide (0 < x29_2) = false := decide_eq_false c20
           clear c20
           have H' := Aside0.mk H
           clear H
           have p307 : 0 ≤ (x29_2 : Int) := of_decide_eq_true (by first | (with_reducible assumption) | assumption)
           have q307 : x29_2 < (l1.length : Int) := of_decide_eq_true (by first | (with_reducible assumption) | assumption)
           obtain ⟨ad307, e307, hx307_0, hx307_1, hx307_2⟩ := at_T53 HR1.out x29_2 p307 q307
           cases e307
           replace hx307_0 := (HB.out.cell (World.block_lt_of_cell? w _ hx307_0)).trans hx307_0
           replace hx307_1 := (HB.out.cell (World.block_lt_of_cell? w _ hx307_1)).trans hx307_1
           replace hx307_2 := (HB.out.cell (World.block_lt_of_cell? w _ hx307_2)).trans hx307_2
           replace p307 := eq_true p307
           replace q307 := eq_true q307
           try go_wp2_with (first | ((with_reducible refine gate_dst (N := 10) rfl ?_); (try (refine gate_guard (by rfl) ?_; dsimp only)); refine box_event ?hg (N := 10) ?hd (cs := #[.int .i64 0, .int .i64 0, .int .i64 0]) (t := 53) ?hr ?_; (case hd => rfl); (case hg => rfl); (case hr => first | (go_simp; done) | (go_simp; rfl)); intro gb308 hg w41 hbox hb; have n0_ := Aside0.mk (Kd.R_below (Kd.R_elderB (by (with_reducible repeat (first | apply Kd.R_alloc | apply Kd.R_drewN | apply Kd.R_drew)); exact HO_307001.out) gb308 (Nat.le_of_eq hg.symm)) hb); have n1_ := Aside0.mk (blk_below (g := gb300) (o := .cells #[.int .i64 x301000_2, .slice none 0 0] 24 (0, 0)) (by (with_reducible repeat (first | refine blk_drewN ?_ _ | refine blk_drew ?_ | refine blk_alloc ?_ _)); exact BK300.out) hb); have n2_ := Aside0.mk (blk_below (g := gb306) (o := .cells #[.int .i64 t301, .slice Ao10 t302.length co10] 24 (0, 0)) (by (with_reducible repeat (first | refine blk_drewN ?_ _ | refine blk_drew ?_ | refine blk_alloc ?_ _)); exact BK306.out) hb); have n3_ := Aside0.mk (below_step (by repeat (first | (with_reducible first | exact HB.out | apply below_alloc | apply pw_below_drewN | apply below_drew1 | refine below_set ?_ GE300.out | refine below_set ?_ GE306.out) | exact HB.out)) hb); have n4_ := Aside0.mk (hbox); have n5_ := Aside0.mk ((by rw [hg]; exact (below_size (by repeat (first | (with_reducible first | exact HB.out | apply below_alloc | apply pw_below_drewN | apply below_drew1 | refine below_set ?_ GE300.out | refine below_set ?_ GE306.out) | exact HB.out))) : w.heap.size ≤ gb308)); have n6_ := Aside0.mk ((by rw [hg]; exact (below_size (by repeat (first | (with_reducible first | exact HB.out | apply below_alloc | apply pw_below_drewN | apply below_drew1 | refine below_set ?_ GE300.out | refine below_set ?_ GE306.out) | exact HB.out))) : w.heap.size ≤ gb308)); have n7_ := Aside0.mk ((by rw [hg]; exact Nat.ne_of_lt (blk_lt (g := gb300) (o := .cells #[.int .i64 x301000_2, .slice none 0 0] 24 (0, 0)) (by (with_reducible repeat (first | refine blk_drewN ?_ _ | refine blk_drew ?_ | refine blk_alloc ?_ _)); exact BK300.out)) : gb300 ≠ gb308)); have n8_ := Aside0.mk ((by rw [hg]; exact Nat.ne_of_gt (blk_lt (g := gb300) (o := .cells #[.int .i64 x301000_2, .slice none 0 0] 24 (0, 0)) (by (with_reducible repeat (first | refine blk_drewN ?_ _ | refine blk_drew ?_ | refine blk_alloc ?_ _)); exact BK300.out)) : gb308 ≠ gb300)); have n9_ := Aside0.mk ((by rw [hg]; exact Nat.ne_of_lt (blk_lt (g := gb306) (o := .cells #[.int .i64 t301, .slice Ao10 t302.length co10] 24 (0, 0)) (by (with_reducible repeat (first | refine blk_drewN ?_ _ | refine blk_drew ?_ | refine blk_alloc ?_ _)); exact BK306.out)) : gb306 ≠ gb308)); have n10_ := Aside0.mk ((by rw [hg]; exact Nat.ne_of_gt (blk_lt (g := gb306) (o := .cells #[.int .i64 t301, .slice Ao10 t302.length co10] 24 (0, 0)) (by (with_reducible repeat (first | refine blk_drewN ?_ _ | refine blk_drew ?_ | refine blk_alloc ?_ _)); exact BK306.out)) : gb308 ≠ gb306)); clear HO_307001; clear BK300; clear BK306; clear HB; have HO_307001 := n0_; have BK300 := n1_; have BK306 := n2_; have HB := n3_; have BK308 := n4_; have GW308 := n5_; have GE308 := n6_; have NB300_308 := n7_; have NB308_300 := n8_; have NB306_308 := n9_; have NB308_306 := n10_; clear n0_ n1_ n2_ n3_ n4_ n5_ n6_ n7_ n8_ n9_ n10_; clear hb hbox hg; have hnb42 := NB308_300.out; have hnc42 := NB300_308.out; have hnb43 := NB308_306.out; have hnc43 := NB306_308.out; have hcz44_0 : w41.cell? ⟨gb308, 0, none⟩ = some (.int .i64 0) := (blk_cell BK308.out 0).trans rfl; have hcz44_1 : w41.cell? ⟨gb308, 1, none⟩ = some (.int .i64 0) := (blk_cell BK308.out 1).trans rfl; have hcz44_2 : w41.cell? ⟨gb308, 2, none⟩ = some (.int .i64 0) := (blk_cell BK308.out 2).trans rfl; have hfz44_0 := blk_frozen BK308.out 0; have hfz44_1 := blk_frozen BK308.out 1; have hfz44_2 := blk_frozen BK308.out 2))
           have n0_ : Aside0 (Kd.R k53 53 (((w41.setCell ⟨gb308, 0, none⟩ (.int .i64 ((rd_T53 l1 x29_2).f0))).setCell ⟨gb308, 1, none⟩ (.int .i64 ((rd_T53 l1 x29_2).f1))).setCell ⟨gb308, 2, none⟩ (.int .i64 ((rd_T53 l1 x29_2).f2))) w.heap.size (fun k_ => k_ ≠ gb308) (.slice Ao10 t302.length co10) t302) := ⟨by (with_reducible repeat (first | apply Kd.R_alloc | apply Kd.R_drewN | apply Kd.R_drew)); exact Kd.R_mono (Kd.R_far (p := ⟨gb308, 2, none⟩) (Kd.R_far (p := ⟨gb308, 1, none⟩) (Kd.R_far (p := ⟨gb308, 0, none⟩) (Kd.R_mono HO_307001.out (fun k_ hk => (⟨hk, hk.2⟩ : _ ∧ k_ ≠ gb308))) (fun _ hk => hk.2) (.int .i64 ((rd_T53 l1 x29_2).f0))) (fun _ hk => hk.2) (.int .i64 ((rd_T53 l1 x29_2).f1))) (fun _ hk => hk.2) (.int .i64 ((rd_T53 l1 x29_2).f2))) (fun _ hk => hk.1.2)⟩
           have n1_ : Aside0 ((((w41.setCell ⟨gb308, 0, none⟩ (.int .i64 ((rd_T53 l1 x29_2).f0))).setCell ⟨gb308, 1, none⟩ (.int .i64 ((rd_T53 l1 x29_2).f1))).setCell ⟨gb308, 2, none⟩ (.int .i64 ((rd_T53 l1 x29_2).f2))).heap[gb300]? = some (.cells #[.int .i64 x301000_2, .slice none 0 0] 24 (0, 0))) := ⟨by (with_reducible repeat (first | refine blk_drewN ?_ _ | refine blk_drew ?_ | refine blk_alloc ?_ _)); refine blk_far ?_ NB300_308.out _; (with_reducible repeat (first | refine blk_drewN ?_ _ | refine blk_drew ?_ | refine blk_alloc ?_ _)); refine blk_far ?_ NB300_308.out _; (with_reducible repeat (first | refine blk_drewN ?_ _ | refine blk_drew ?_ | refine blk_alloc ?_ _)); refine blk_far ?_ NB300_308.out _; (with_reducible repeat (first | refine blk_drewN ?_ _ | refine blk_drew ?_ | refine blk_alloc ?_ _)); exact BK300.out⟩
           have n2_ : Aside0 ((((w41.setCell ⟨gb308, 0, none⟩ (.int .i64 ((rd_T53 l1 x29_2).f0))).setCell ⟨gb308, 1, none⟩ (.int .i64 ((rd_T53 l1 x29_2).f1))).setCell ⟨gb308, 2, none⟩ (.int .i64 ((rd_T53 l1 x29_2).f2))).heap[gb306]? = some (.cells #[.int .i64 t301, .slice Ao10 t302.length co10] 24 (0, 0))) := ⟨by (with_reducible repeat (first | refine blk_drewN ?_ _ | refine blk_drew ?_ | refine blk_alloc ?_ _)); refine blk_far ?_ NB306_308.out _; (with_reducible repeat (first | refine blk_drewN ?_ _ | refine blk_drew ?_ | refine blk_alloc ?_ _)); refine blk_far ?_ NB306_308.out _; (with_reducible repeat (first | refine blk_drewN ?_ _ | refine blk_drew ?_ | refine blk_alloc ?_ _)); refine blk_far ?_ NB306_308.out _; (with_reducible repeat (first | refine blk_drewN ?_ _ | refine blk_drew ?_ | refine blk_alloc ?_ _)); exact BK306.out⟩
           have n3_ : Aside0 ((((w41.setCell ⟨gb308, 0, none⟩ (.int .i64 ((rd_T53 l1 x29_2).f0))).setCell ⟨gb308, 1, none⟩ (.int .i64 ((rd_T53 l1 x29_2).f1))).setCell ⟨gb308, 2, none⟩ (.int .i64 ((rd_T53 l1 x29_2).f2))).heap[gb308]? = some (.cells #[.int .i64 ((rd_T53 l1 x29_2).f0), .int .i64 ((rd_T53 l1 x29_2).f1), .int .i64 ((rd_T53 l1 x29_2).f2)] 53 (0, 0))) := ⟨by (with_reducible repeat (first | refine blk_drewN ?_ _ | refine blk_drew ?_ | refine blk_alloc ?_ _)); refine blk_put (cs := #[.int .i64 ((rd_T53 l1 x29_2).f0), .int .i64 ((rd_T53 l1 x29_2).f1), .int .i64 0]) ?_ 2 _ rfl; (with_reducible repeat (first | refine blk_drewN ?_ _ | refine blk_drew ?_ | refine blk_alloc ?_ _)); refine blk_put (cs := #[.int .i64 ((rd_T53 l1 x29_2).f0), .int .i64 0, .int .i64 0]) ?_ 1 _ rfl; (with_reducible repeat (first | refine blk_drewN ?_ _ | refine blk_drew ?_ | refine blk_alloc ?_ _)); refine blk_put (cs := #[.int .i64 0, .int .i64 0, .int .i64 0]) ?_ 0 _ rfl; (with_reducible repeat (first | refine blk_drewN ?_ _ | refine blk_drew ?_ | refine blk_alloc ?_ _)); exact BK308.out⟩
           have n4_ : Aside0 (Below w.heap.size w (((w41.setCell ⟨gb308, 0, none⟩ (.int .i64 ((rd_T53 l1 x29_2).f0))).setCell ⟨gb308, 1, none⟩ (.int .i64 ((rd_T53 l1 x29_2).f1))).setCell ⟨gb308, 2, none⟩ (.int .i64 ((rd_T53 l1 x29_2).f2)))) := ⟨by repeat (first | (with_reducible first | exact HB.out | apply below_alloc | apply pw_below_drewN | apply below_drew1 | refine below_set ?_ GE300.out | refine below_set ?_ GE306.out | refine below_set ?_ GE308.out) | exact HB.out)⟩
           (try clear HO_307001)
           (try clear BK300)
           (try clear BK306)
           (try clear BK308)
           (try clear HB)
           (try simp only [show ∀ (W_ : World) (n_ : Nat) (a_ : Addr) (v_ : Value), (World.drewN W_ n_).setCell a_ v_ = (World.setCell W_ a_ v_).drewN n_ from fun _ _ _ _ => rfl])
           generalize (((w41.setCell ⟨gb308, 0, none⟩ (.int .i64 ((rd_T53 l1 x29_2).f0))).setCell ⟨gb308, 1, none⟩ (.int .i64 ((rd_T53 l1 x29_2).f1))).setCell ⟨gb308, 2, none⟩ (.int .i64 ((rd_T53 l1 x29_2).f2))) = w45 at n0_ n1_ n2_ n3_ n4_ ⊢
           have HO_307001 := n0_
           have BK300 := n1_
           have BK306 := n2_
           have BK308 := n3_
           have HB := n4_
           clear n0_ n1_ n2_ n3_ n4_
           have n0_ := Aside0.mk (Kd.R_drew HO_307001.out)
           have n1_ := Aside0.mk (blk_drew BK300.out)
           have n2_ := Aside0.mk (blk_drew BK306.out)
           have n3_ := Aside0.mk (blk_drew BK308.out)
           have n4_ := Aside0.mk (below_drew1 HB.out)
           clear HO_307001
           clear BK300
           clear BK306
           clear BK308
           clear HB
           have HO_307001 := n0_
           have BK300 := n1_
           have BK306 := n2_
           have BK308 := n3_
           have HB := n4_
           clear n0_ n1_ n2_ n3_ n4_
           refine start_ (n := 18) (S := fun w' => w'.cell? ⟨gb308, 0, none⟩ = some (.int .i64 ((rd_T53 l1 x29_2).f0)) ∧ w'.cell? ⟨gb308, 1, none⟩ = some (.int .i64 ((rd_T53 l1 x29_2).f1)) ∧ w'.cell? ⟨gb308, 2, none⟩ = some (.int .i64 ((rd_T53 l1 x29_2).f2))) (ds := []) #[false, false, false, false, false, false, false, false, false, false, false, false, false, false, false, false, false, false] (by kernel_rfl) rfl rfl ⟨(blk_cell BK308.out 0).trans rfl, (blk_cell BK308.out 1).trans rfl, (blk_cell BK308.out 2).trans rfl⟩ (fun hHeld => ?_); refine with_tabW impl_heard.tab7 impl_heard.bits7 (fun HT_ HW_ => ?_)
           generalize w45.drew = w46 at HO_307001 BK300 BK306 BK308 HB hHeld ⊢
           refine take_ (i := 0) (N := some 34) (v := ?_) (a' := ?_) #[true, false, false, false, false, false, false, false, false, false, false, false, false, false, false, false, false, false] rfl rfl (take_ofW HT_.out HW_.out (by kernel_rfl)) (fun _ _ _ h => h) (Or.inl ⟨by rfl, ?_⟩) hHeld ?_ ?_
           rotate_left
           ·rintro w' ⟨s0, s1, s2⟩
            go_simp
            with_reducible rfl
           rotate_left
           ·simp only [Act.put, List.setIfInBounds_toArray, List.set_cons_zero, List.set_cons_succ, i64_w, i32_w]
            rfl
           refine one_ (i := 1) (N := some 35) #[true, true, false, false, false, false, false, false, false, false, false, false, false, false, false, false, false, false] rfl rfl (one_of HT_.out (by kernel_rfl)) (by decide) (fun K hK => ?_)
           refine goes_ Try.func45 (by kernel_rfl) rfl #[.agg #[.int .i64 ((rd_T53 l1 x29_2).f0), .int .i64 ((rd_T53 l1 x29_2).f1), .int .i64 ((rd_T53 l1 x29_2).f2)]] (by rfl) rfl rfl (by (try simp only [List.map_toArray, List.map_cons, List.map_nil]); first | done | rfl | (simp only [List.length_drop, List.length_take]; rfl)) ?_
           with_reducible refine (impl_isSeen.calls ((rd_T53 l1 x29_2).f0) ((rd_T53 l1 x29_2).f1) ((rd_T53 l1 x29_2).f2) true _ A18.out).mono ?_
           rintro e w47 ⟨rfl, hb⟩
           refine ⟨_, rfl, ?_⟩
           have n0_ := Aside0.mk (Kd.R_below (by (with_reducible repeat (first | apply Kd.R_alloc | apply Kd.R_drewN | apply Kd.R_drew)); exact HO_307001.out) hb)
           have n1_ := Aside0.mk (blk_below (g := gb300) (o := .cells #[.int .i64 x301000_2, .slice none 0 0] 24 (0, 0)) (by (with_reducible repeat (first | refine blk_drewN ?_ _ | refine blk_drew ?_ | refine blk_alloc ?_ _)); exact BK300.out) hb)
           have n2_ := Aside0.mk (blk_below (g := gb306) (o := .cells #[.int .i64 t301, .slice Ao10 t302.length co10] 24 (0, 0)) (by (with_reducible repeat (first | refine blk_drewN ?_ _ | refine blk_drew ?_ | refine blk_alloc ?_ _)); exact BK306.out) hb)
           have n3_ := Aside0.mk (blk_below (g := gb308) (o := .cells #[.int .i64 ((rd_T53 l1 x29_2).f0), .int .i64 ((rd_T53 l1 x29_2).f1), .int .i64 ((rd_T53 l1 x29_2).f2)] 53 (0, 0)) (by (with_reducible repeat (first | refine blk_drewN ?_ _ | refine blk_drew ?_ | refine blk_alloc ?_ _)); exact BK308.out) hb)
           have n4_ := Aside0.mk (below_step (by repeat (first | (with_reducible first | exact HB.out | apply below_alloc | apply pw_below_drewN | apply below_drew1 | refine below_set ?_ GE300.out | refine below_set ?_ GE306.out | refine below_set ?_ GE308.out) | exact HB.out)) hb)
           clear HO_307001
           clear BK300
           clear BK306
           clear BK308
           clear HB
           have HO_307001 := n0_
           have BK300 := n1_
           have BK306 := n2_
           have BK308 := n3_
           have HB := n4_
           clear n0_ n1_ n2_ n3_ n4_
           (try clear hb)
           (try clear hb2)
           (try clear hk)
           (try clear hi)
           refine hK.out _ _ ⟨(blk_cell BK308.out 0).trans rfl, (blk_cell BK308.out 1).trans rfl, (blk_cell BK308.out 2).trans rfl⟩ (fun hHeld => ?_)
           clear hK K
           refine norm_ (a' := ?_) ?_ ?_
           rotate_left
           ·show Act.put _ (some 35) _ = _
            simp only [Act.put, List.setIfInBounds_toArray, List.set_cons_zero, List.set_cons_succ, i64_w, i32_w]
            rfl
           refine pure_ (i := 2) (N := some 36) (v := ?_) (a' := ?_) #[true, true, true, false, false, false, false, false, false, false, false, false, false, false, false, false, false, false] rfl rfl (any_of HT_.out (by kernel_rfl)) (fun _ _ _ h => h) (Or.inl ⟨by rfl, ?_⟩) ?_ ?_
           rotate_left
           ·intro w'
            go_simp
            with_reducible rfl
           rotate_left
           ·simp only [Act.put, List.setIfInBounds_toArray, List.set_cons_zero, List.set_cons_succ, i64_w, i32_w]
            rfl
           refine pure_ (i := 3) (N := some 37) (v := ?_) (a' := ?_) #[true, true, true, true, false, false, false, false, false, false, false, false, false, false, false, false, false, false] rfl rfl (any_of HT_.out (by kernel_rfl)) (fun _ _ _ h => h) (Or.inl ⟨by rfl, ?_⟩) ?_ ?_
           rotate_left
           ·intro w'
            go_simp
            with_reducible rfl
           rotate_left
           ·simp only [Act.put, List.setIfInBounds_toArray, List.set_cons_zero, List.set_cons_succ, i64_w, i32_w]
            rfl
           refine pure_ (i := 4) (N := some 38) (v := ?_) (a' := ?_) #[true, true, true, true, true, false, false, false, false, false, false, false, false, false, false, false, false, false] rfl rfl (any_of HT_.out (by kernel_rfl)) (fun _ _ _ h => h) (Or.inl ⟨by rfl, ?_⟩) ?_ ?_
           rotate_left
           ·intro w'
            go_simp
            with_reducible rfl
           rotate_left
           ·simp only [Act.put, List.setIfInBounds_toArray, List.set_cons_zero, List.set_cons_succ, i64_w, i32_w]
            rfl
           refine pure_ (i := 5) (N := some 39) (v := ?_) (a' := ?_) #[true, true, true, true, true, true, false, false, false, false, false, false, false, false, false, false, false, false] rfl rfl (any_of HT_.out (by kernel_rfl)) (fun _ _ _ h => h) (Or.inl ⟨by rfl, ?_⟩) ?_ ?_
           rotate_left
           ·intro w'
            go_simp
            with_reducible rfl
           rotate_left
           ·simp only [Act.put, List.setIfInBounds_toArray, List.set_cons_zero, List.set_cons_succ, i64_w, i32_w]
            rfl
           refine pure_ (i := 6) (N := some 40) (v := ?_) (a' := ?_) #[true, true, true, true, true, true, true, false, false, false, false, false, false, false, false, false, false, false] rfl rfl (any_of HT_.out (by kernel_rfl)) (fun _ _ _ h => h) (Or.inl ⟨by rfl, ?_⟩) ?_ ?_
           rotate_left
           ·intro w'
            go_simp
            with_reducible rfl
           rotate_left
           ·simp only [Act.put, List.setIfInBounds_toArray, List.set_cons_zero, List.set_cons_succ, i64_w, i32_w]
            rfl
           refine pure_ (i := 7) (N := some 41) (v := undef) (a' := ?_) #[true, true, true, true, true, true, true, true, false, false, false, false, false, false, false, false, false, false] rfl rfl (any_of HT_.out (by kernel_rfl)) (fun _ _ _ h => h) (Or.inr ⟨by rfl, rfl⟩) ?_ ?_
           rotate_left
           ·simp only [Act.put, List.setIfInBounds_toArray, List.set_cons_zero, List.set_cons_succ, i64_w, i32_w]
            rfl
           refine pure_ (i := 8) (N := some 42) (v := undef) (a' := ?_) #[true, true, true, true, true, true, true, true, true, false, false, false, false, false, false, false, false, false] rfl rfl (any_of HT_.out (by kernel_rfl)) (fun _ _ _ h => h) (Or.inr ⟨by rfl, rfl⟩) ?_ ?_
           rotate_left
           ·simp only [Act.put, List.setIfInBounds_toArray, List.set_cons_zero, List.set_cons_succ, i64_w, i32_w]
            rfl
           refine pure_ (i := 9) (N := some 43) (v := undef) (a' := ?_) #[true, true, true, true, true, true, true, true, true, true, false, false, false, false, false, false, false, false] rfl rfl (any_of HT_.out (by kernel_rfl)) (fun _ _ _ h => h) (Or.inr ⟨by rfl, rfl⟩) ?_ ?_
           rotate_left
           ·simp only [Act.put, List.setIfInBounds_toArray, List.set_cons_zero, List.set_cons_succ, i64_w, i32_w]
            rfl
           refine pure_ (i := 10) (N := some 44) (v := undef) (a' := ?_) #[true, true, true, true, true, true, true, true, true, true, true, false, false, false, false, false, false, false] rfl rfl (any_of HT_.out (by kernel_rfl)) (fun _ _ _ h => h) (Or.inr ⟨by rfl, rfl⟩) ?_ ?_
           rotate_left
           ·simp only [Act.put, List.setIfInBounds_toArray, List.set_cons_zero, List.set_cons_succ, i64_w, i32_w]
            rfl
           refine pure_ (i := 11) (N := some 45) (v := undef) (a' := ?_) #[true, true, true, true, true, true, true, true, true, true, true, true, false, false, false, false, false, false] rfl rfl (any_of HT_.out (by kernel_rfl)) (fun _ _ _ h => h) (Or.inr ⟨by rfl, rfl⟩) ?_ ?_
           rotate_left
           ·simp only [Act.put, List.setIfInBounds_toArray, List.set_cons_zero, List.set_cons_succ, i64_w, i32_w]
            rfl
           refine pure_ (i := 12) (N := some 46) (v := undef) (a' := ?_) #[true, true, true, true, true, true, true, true, true, true, true, true, true, false, false, false, false, false] rfl rfl (any_of HT_.out (by kernel_rfl)) (fun _ _ _ h => h) (Or.inr ⟨by rfl, rfl⟩) ?_ ?_
           rotate_left
           ·simp only [Act.put, List.setIfInBounds_toArray, List.set_cons_zero, List.set_cons_succ, i64_w, i32_w]
            rfl
           refine pure_ (i := 13) (N := some 47) (v := undef) (a' := ?_) #[true, true, true, true, true, true, true, true, true, true, true, true, true, true, false, false, false, false] rfl rfl (any_of HT_.out (by kernel_rfl)) (fun _ _ _ h => h) (Or.inr ⟨by rfl, rfl⟩) ?_ ?_
           rotate_left
           ·simp only [Act.put, List.setIfInBounds_toArray, List.set_cons_zero, List.set_cons_succ, i64_w, i32_w]
            rfl
           refine pure_ (i := 14) (N := some 48) (v := undef) (a' := ?_) #[true, true, true, true, true, true, true, true, true, true, true, true, true, true, true, false, false, false] rfl rfl (any_of HT_.out (by kernel_rfl)) (fun _ _ _ h => h) (Or.inr ⟨by rfl, rfl⟩) ?_ ?_
           rotate_left
           ·simp only [Act.put, List.setIfInBounds_toArray, List.set_cons_zero, List.set_cons_succ, i64_w, i32_w]
            rfl
           refine pure_ (i := 15) (N := some 49) (v := undef) (a' := ?_) #[true, true, true, true, true, true, true, true, true, true, true, true, true, true, true, true, false, false] rfl rfl (any_of HT_.out (by kernel_rfl)) (fun _ _ _ h => h) (Or.inr ⟨by rfl, rfl⟩) ?_ ?_
           rotate_left
           ·simp only [Act.put, List.setIfInBounds_toArray, List.set_cons_zero, List.set_cons_succ, i64_w, i32_w]
            rfl
           refine pure_ (i := 16) (N := some 50) (v := ?_) (a' := ?_) #[true, true, true, true, true, true, true, true, true, true, true, true, true, true, true, true, true, false] rfl rfl (any_of HT_.out (by kernel_rfl)) (fun _ _ _ h => h) (Or.inl ⟨by rfl, ?_⟩) ?_ ?_
           rotate_left
           ·intro w'
            go_simp
            with_reducible rfl
           rotate_left
           ·simp only [Act.put, List.setIfInBounds_toArray, List.set_cons_zero, List.set_cons_succ, i64_w, i32_w]
            rfl
           refine pure_ (i := 17) (N := some 51) (v := ?_) (a' := ?_) #[true, true, true, true, true, true, true, true, true, true, true, true, true, true, true, true, true, true] rfl rfl (any_of HT_.out (by kernel_rfl)) (fun _ _ _ h => h) (Or.inl ⟨by rfl, ?_⟩) ?_ ?_
           rotate_left
           ·intro w'
            go_simp
            with_reducible rfl
           rotate_left
           ·simp only [Act.put, List.setIfInBounds_toArray, List.set_cons_zero, List.set_cons_succ, i64_w, i32_w]
            rfl
           refine done_ (done_of HT_.out (by kernel_rfl)) ?_
           try go_wp2
           go_roundg k2
           case measure => have := HJ3.out; have := HK2.out; omega
           case rel => exact ⟨(wrap64 (x29_2 + 1)), (x301000_2), (by first | rfl | (simp; done) | (simp [*]; done)), H', ⟨by have := HJ3.out; have := HK2.out; omega⟩, ⟨by (with_reducible repeat (first | apply Kd.R_alloc | apply Kd.R_drewN | apply Kd.R_drew)); exact Kd.R_mono HO_307001.out (fun _ hk => trivial)⟩, ⟨by (with_reducible repeat (first | refine blk_drewN ?_ _ | refine blk_drew ?_ | refine blk_alloc ?_ _)); exact BK300.out⟩, ⟨by (with_reducible repeat (first | refine blk_drewN ?_ _ | refine blk_drew ?_ | refine blk_alloc ?_ _)); exact BK306.out⟩, ⟨by repeat (first | (with_reducible first | exact HB.out | apply below_alloc | apply pw_below_drewN | apply below_drew1 | refine below_set ?_ GE300.out | refine below_set ?_ GE306.out | refine below_set ?_ GE308.out) | exact HB.out)⟩⟩
         ·replace c19 := Bool.eq_false_iff.mpr c19
          subst c19
          have H1 : (some (0, ([] : List (S53)), 0, false)) = some (r1, r2, r3, r4) := by rw [if_neg (show ¬ (false = true) by decide)] at H; exact H
          clear H
          have H := H1
          clear H1
          simp only [Option.some.injEq, Prod.mk.injEq] at H
          obtain ⟨rfl, rfl, rfl, rfl⟩ := H
          have p307 : 0 ≤ (x29_2 : Int) := of_decide_eq_true (by first | (with_reducible assumption) | assumption)
          have q307 : x29_2 < (l1.length : Int) := of_decide_eq_true (by first | (with_reducible assumption) | assumption)
          obtain ⟨ad307, e307, hx307_0, hx307_1, hx307_2⟩ := at_T53 HR1.out x29_2 p307 q307
          cases e307
          replace hx307_0 := (HB.out.cell (World.block_lt_of_cell? w _ hx307_0)).trans hx307_0
          replace hx307_1 := (HB.out.cell (World.block_lt_of_cell? w _ hx307_1)).trans hx307_1
          replace hx307_2 := (HB.out.cell (World.block_lt_of_cell? w _ hx307_2)).trans hx307_2
          replace p307 := eq_true p307
          replace q307 := eq_true q307
          try go_wp2_with (first | ((with_reducible refine gate_dst (N := 10) rfl ?_); (try (refine gate_guard (by rfl) ?_; dsimp only)); refine box_event ?hg (N := 10) ?hd (cs := #[.int .i64 0, .int .i64 0, .int .i64 0]) (t := 53) ?hr ?_; (case hd => rfl); (case hg => rfl); (case hr => first | (go_simp; done) | (go_simp; rfl)); intro gb308 hg w48 hbox hb; have n0_ := Aside0.mk (Kd.R_below (Kd.R_elderB (by (with_reducible repeat (first | apply Kd.R_alloc | apply Kd.R_drewN | apply Kd.R_drew)); exact HO_307001.out) gb308 (Nat.le_of_eq hg.symm)) hb); have n1_ := Aside0.mk (blk_below (g := gb300) (o := .cells #[.int .i64 x301000_2, .slice none 0 0] 24 (0, 0)) (by (with_reducible repeat (first | refine blk_drewN ?_ _ | refine blk_drew ?_ | refine blk_alloc ?_ _)); exact BK300.out) hb); have n2_ := Aside0.mk (blk_below (g := gb306) (o := .cells #[.int .i64 t301, .slice Ao10 t302.length co10] 24 (0, 0)) (by (with_reducible repeat (first | refine blk_drewN ?_ _ | refine blk_drew ?_ | refine blk_alloc ?_ _)); exact BK306.out) hb); have n3_ := Aside0.mk (below_step (by repeat (first | (with_reducible first | exact HB.out | apply below_alloc | apply pw_below_drewN | apply below_drew1 | refine below_set ?_ GE300.out | refine below_set ?_ GE306.out) | exact HB.out)) hb); have n4_ := Aside0.mk (hbox); have n5_ := Aside0.mk ((by rw [hg]; exact (below_size (by repeat (first | (with_reducible first | exact HB.out | apply below_alloc | apply pw_below_drewN | apply below_drew1 | refine below_set ?_ GE300.out | refine below_set ?_ GE306.out) | exact HB.out))) : w.heap.size ≤ gb308)); have n6_ := Aside0.mk ((by rw [hg]; exact (below_size (by repeat (first | (with_reducible first | exact HB.out | apply below_alloc | apply pw_below_drewN | apply below_drew1 | refine below_set ?_ GE300.out | refine below_set ?_ GE306.out) | exact HB.out))) : w.heap.size ≤ gb308)); have n7_ := Aside0.mk ((by rw [hg]; exact Nat.ne_of_lt (blk_lt (g := gb300) (o := .cells #[.int .i64 x301000_2, .slice none 0 0] 24 (0, 0)) (by (with_reducible repeat (first | refine blk_drewN ?_ _ | refine blk_drew ?_ | refine blk_alloc ?_ _)); exact BK300.out)) : gb300 ≠ gb308)); have n8_ := Aside0.mk ((by rw [hg]; exact Nat.ne_of_gt (blk_lt (g := gb300) (o := .cells #[.int .i64 x301000_2, .slice none 0 0] 24 (0, 0)) (by (with_reducible repeat (first | refine blk_drewN ?_ _ | refine blk_drew ?_ | refine blk_alloc ?_ _)); exact BK300.out)) : gb308 ≠ gb300)); have n9_ := Aside0.mk ((by rw [hg]; exact Nat.ne_of_lt (blk_lt (g := gb306) (o := .cells #[.int .i64 t301, .slice Ao10 t302.length co10] 24 (0, 0)) (by (with_reducible repeat (first | refine blk_drewN ?_ _ | refine blk_drew ?_ | refine blk_alloc ?_ _)); exact BK306.out)) : gb306 ≠ gb308)); have n10_ := Aside0.mk ((by rw [hg]; exact Nat.ne_of_gt (blk_lt (g := gb306) (o := .cells #[.int .i64 t301, .slice Ao10 t302.length co10] 24 (0, 0)) (by (with_reducible repeat (first | refine blk_drewN ?_ _ | refine blk_drew ?_ | refine blk_alloc ?_ _)); exact BK306.out)) : gb308 ≠ gb306)); clear HO_307001; clear BK300; clear BK306; clear HB; have HO_307001 := n0_; have BK300 := n1_; have BK306 := n2_; have HB := n3_; have BK308 := n4_; have GW308 := n5_; have GE308 := n6_; have NB300_308 := n7_; have NB308_300 := n8_; have NB306_308 := n9_; have NB308_306 := n10_; clear n0_ n1_ n2_ n3_ n4_ n5_ n6_ n7_ n8_ n9_ n10_; clear hb hbox hg; have hnb49 := NB308_300.out; have hnc49 := NB300_308.out; have hnb50 := NB308_306.out; have hnc50 := NB306_308.out; have hcz51_0 : w48.cell? ⟨gb308, 0, none⟩ = some (.int .i64 0) := (blk_cell BK308.out 0).trans rfl; have hcz51_1 : w48.cell? ⟨gb308, 1, none⟩ = some (.int .i64 0) := (blk_cell BK308.out 1).trans rfl; have hcz51_2 : w48.cell? ⟨gb308, 2, none⟩ = some (.int .i64 0) := (blk_cell BK308.out 2).trans rfl; have hfz51_0 := blk_frozen BK308.out 0; have hfz51_1 := blk_frozen BK308.out 1; have hfz51_2 := blk_frozen BK308.out 2))
          have n0_ : Aside0 (Kd.R k53 53 (((w48.setCell ⟨gb308, 0, none⟩ (.int .i64 ((rd_T53 l1 x29_2).f0))).setCell ⟨gb308, 1, none⟩ (.int .i64 ((rd_T53 l1 x29_2).f1))).setCell ⟨gb308, 2, none⟩ (.int .i64 ((rd_T53 l1 x29_2).f2))) w.heap.size (fun k_ => k_ ≠ gb308) (.slice Ao10 t302.length co10) t302) := ⟨by (with_reducible repeat (first | apply Kd.R_alloc | apply Kd.R_drewN | apply Kd.R_drew)); exact Kd.R_mono (Kd.R_far (p := ⟨gb308, 2, none⟩) (Kd.R_far (p := ⟨gb308, 1, none⟩) (Kd.R_far (p := ⟨gb308, 0, none⟩) (Kd.R_mono HO_307001.out (fun k_ hk => (⟨hk, hk.2⟩ : _ ∧ k_ ≠ gb308))) (fun _ hk => hk.2) (.int .i64 ((rd_T53 l1 x29_2).f0))) (fun _ hk => hk.2) (.int .i64 ((rd_T53 l1 x29_2).f1))) (fun _ hk => hk.2) (.int .i64 ((rd_T53 l1 x29_2).f2))) (fun _ hk => hk.1.2)⟩
          have n1_ : Aside0 ((((w48.setCell ⟨gb308, 0, none⟩ (.int .i64 ((rd_T53 l1 x29_2).f0))).setCell ⟨gb308, 1, none⟩ (.int .i64 ((rd_T53 l1 x29_2).f1))).setCell ⟨gb308, 2, none⟩ (.int .i64 ((rd_T53 l1 x29_2).f2))).heap[gb300]? = some (.cells #[.int .i64 x301000_2, .slice none 0 0] 24 (0, 0))) := ⟨by (with_reducible repeat (first | refine blk_drewN ?_ _ | refine blk_drew ?_ | refine blk_alloc ?_ _)); refine blk_far ?_ NB300_308.out _; (with_reducible repeat (first | refine blk_drewN ?_ _ | refine blk_drew ?_ | refine blk_alloc ?_ _)); refine blk_far ?_ NB300_308.out _; (with_reducible repeat (first | refine blk_drewN ?_ _ | refine blk_drew ?_ | refine blk_alloc ?_ _)); refine blk_far ?_ NB300_308.out _; (with_reducible repeat (first | refine blk_drewN ?_ _ | refine blk_drew ?_ | refine blk_alloc ?_ _)); exact BK300.out⟩
          have n2_ : Aside0 ((((w48.setCell ⟨gb308, 0, none⟩ (.int .i64 ((rd_T53 l1 x29_2).f0))).setCell ⟨gb308, 1, none⟩ (.int .i64 ((rd_T53 l1 x29_2).f1))).setCell ⟨gb308, 2, none⟩ (.int .i64 ((rd_T53 l1 x29_2).f2))).heap[gb306]? = some (.cells #[.int .i64 t301, .slice Ao10 t302.length co10] 24 (0, 0))) := ⟨by (with_reducible repeat (first | refine blk_drewN ?_ _ | refine blk_drew ?_ | refine blk_alloc ?_ _)); refine blk_far ?_ NB306_308.out _; (with_reducible repeat (first | refine blk_drewN ?_ _ | refine blk_drew ?_ | refine blk_alloc ?_ _)); refine blk_far ?_ NB306_308.out _; (with_reducible repeat (first | refine blk_drewN ?_ _ | refine blk_drew ?_ | refine blk_alloc ?_ _)); refine blk_far ?_ NB306_308.out _; (with_reducible repeat (first | refine blk_drewN ?_ _ | refine blk_drew ?_ | refine blk_alloc ?_ _)); exact BK306.out⟩
          have n3_ : Aside0 ((((w48.setCell ⟨gb308, 0, none⟩ (.int .i64 ((rd_T53 l1 x29_2).f0))).setCell ⟨gb308, 1, none⟩ (.int .i64 ((rd_T53 l1 x29_2).f1))).setCell ⟨gb308, 2, none⟩ (.int .i64 ((rd_T53 l1 x29_2).f2))).heap[gb308]? = some (.cells #[.int .i64 ((rd_T53 l1 x29_2).f0), .int .i64 ((rd_T53 l1 x29_2).f1), .int .i64 ((rd_T53 l1 x29_2).f2)] 53 (0, 0))) := ⟨by (with_reducible repeat (first | refine blk_drewN ?_ _ | refine blk_drew ?_ | refine blk_alloc ?_ _)); refine blk_put (cs := #[.int .i64 ((rd_T53 l1 x29_2).f0), .int .i64 ((rd_T53 l1 x29_2).f1), .int .i64 0]) ?_ 2 _ rfl; (with_reducible repeat (first | refine blk_drewN ?_ _ | refine blk_drew ?_ | refine blk_alloc ?_ _)); refine blk_put (cs := #[.int .i64 ((rd_T53 l1 x29_2).f0), .int .i64 0, .int .i64 0]) ?_ 1 _ rfl; (with_reducible repeat (first | refine blk_drewN ?_ _ | refine blk_drew ?_ | refine blk_alloc ?_ _)); refine blk_put (cs := #[.int .i64 0, .int .i64 0, .int .i64 0]) ?_ 0 _ rfl; (with_reducible repeat (first | refine blk_drewN ?_ _ | refine blk_drew ?_ | refine blk_alloc ?_ _)); exact BK308.out⟩
          have n4_ : Aside0 (Below w.heap.size w (((w48.setCell ⟨gb308, 0, none⟩ (.int .i64 ((rd_T53 l1 x29_2).f0))).setCell ⟨gb308, 1, none⟩ (.int .i64 ((rd_T53 l1 x29_2).f1))).setCell ⟨gb308, 2, none⟩ (.int .i64 ((rd_T53 l1 x29_2).f2)))) := ⟨by repeat (first | (with_reducible first | exact HB.out | apply below_alloc | apply pw_below_drewN | apply below_drew1 | refine below_set ?_ GE300.out | refine below_set ?_ GE306.out | refine below_set ?_ GE308.out) | exact HB.out)⟩
          (try clear HO_307001)
          (try clear BK300)
          (try clear BK306)
          (try clear BK308)
          (try clear HB)
          (try simp only [show ∀ (W_ : World) (n_ : Nat) (a_ : Addr) (v_ : Value), (World.drewN W_ n_).setCell a_ v_ = (World.setCell W_ a_ v_).drewN n_ from fun _ _ _ _ => rfl])
          generalize (((w48.setCell ⟨gb308, 0, none⟩ (.int .i64 ((rd_T53 l1 x29_2).f0))).setCell ⟨gb308, 1, none⟩ (.int .i64 ((rd_T53 l1 x29_2).f1))).setCell ⟨gb308, 2, none⟩ (.int .i64 ((rd_T53 l1 x29_2).f2))) = w52 at n0_ n1_ n2_ n3_ n4_ ⊢
          have HO_307001 := n0_
          have BK300 := n1_
          have BK306 := n2_
          have BK308 := n3_
          have HB := n4_
          clear n0_ n1_ n2_ n3_ n4_
          have n0_ := Aside0.mk (Kd.R_drew HO_307001.out)
          have n1_ := Aside0.mk (blk_drew BK300.out)
          have n2_ := Aside0.mk (blk_drew BK306.out)
          have n3_ := Aside0.mk (blk_drew BK308.out)
          have n4_ := Aside0.mk (below_drew1 HB.out)
          clear HO_307001
          clear BK300
          clear BK306
          clear BK308
          clear HB
          have HO_307001 := n0_
          have BK300 := n1_
          have BK306 := n2_
          have BK308 := n3_
          have HB := n4_
          clear n0_ n1_ n2_ n3_ n4_
          refine start_ (n := 18) (S := fun w' => w'.cell? ⟨gb308, 0, none⟩ = some (.int .i64 ((rd_T53 l1 x29_2).f0)) ∧ w'.cell? ⟨gb308, 1, none⟩ = some (.int .i64 ((rd_T53 l1 x29_2).f1)) ∧ w'.cell? ⟨gb308, 2, none⟩ = some (.int .i64 ((rd_T53 l1 x29_2).f2))) (ds := []) #[false, false, false, false, false, false, false, false, false, false, false, false, false, false, false, false, false, false] (by kernel_rfl) rfl rfl ⟨(blk_cell BK308.out 0).trans rfl, (blk_cell BK308.out 1).trans rfl, (blk_cell BK308.out 2).trans rfl⟩ (fun hHeld => ?_); refine with_tabW impl_heard.tab7 impl_heard.bits7 (fun HT_ HW_ => ?_)
          generalize w52.drew = w53 at HO_307001 BK300 BK306 BK308 HB hHeld ⊢
          refine take_ (i := 0) (N := some 34) (v := ?_) (a' := ?_) #[true, false, false, false, false, false, false, false, false, false, false, false, false, false, false, false, false, false] rfl rfl (take_ofW HT_.out HW_.out (by kernel_rfl)) (fun _ _ _ h => h) (Or.inl ⟨by rfl, ?_⟩) hHeld ?_ ?_
          rotate_left
          ·rintro w' ⟨s0, s1, s2⟩
           go_simp
           with_reducible rfl
          rotate_left
          ·simp only [Act.put, List.setIfInBounds_toArray, List.set_cons_zero, List.set_cons_succ, i64_w, i32_w]
           rfl
          refine one_ (i := 1) (N := some 35) #[true, true, false, false, false, false, false, false, false, false, false, false, false, false, false, false, false, false] rfl rfl (one_of HT_.out (by kernel_rfl)) (by decide) (fun K hK => ?_)
          refine goes_ Try.func45 (by kernel_rfl) rfl #[.agg #[.int .i64 ((rd_T53 l1 x29_2).f0), .int .i64 ((rd_T53 l1 x29_2).f1), .int .i64 ((rd_T53 l1 x29_2).f2)]] (by rfl) rfl rfl (by (try simp only [List.map_toArray, List.map_cons, List.map_nil]); first | done | rfl | (simp only [List.length_drop, List.length_take]; rfl)) ?_
          with_reducible refine (impl_isSeen.calls ((rd_T53 l1 x29_2).f0) ((rd_T53 l1 x29_2).f1) ((rd_T53 l1 x29_2).f2) false _ A18.out).mono ?_
          rintro e w54 ⟨rfl, hb⟩
          refine ⟨_, rfl, ?_⟩
          have n0_ := Aside0.mk (Kd.R_below (by (with_reducible repeat (first | apply Kd.R_alloc | apply Kd.R_drewN | apply Kd.R_drew)); exact HO_307001.out) hb)
          have n1_ := Aside0.mk (blk_below (g := gb300) (o := .cells #[.int .i64 x301000_2, .slice none 0 0] 24 (0, 0)) (by (with_reducible repeat (first | refine blk_drewN ?_ _ | refine blk_drew ?_ | refine blk_alloc ?_ _)); exact BK300.out) hb)
          have n2_ := Aside0.mk (blk_below (g := gb306) (o := .cells #[.int .i64 t301, .slice Ao10 t302.length co10] 24 (0, 0)) (by (with_reducible repeat (first | refine blk_drewN ?_ _ | refine blk_drew ?_ | refine blk_alloc ?_ _)); exact BK306.out) hb)
          have n3_ := Aside0.mk (blk_below (g := gb308) (o := .cells #[.int .i64 ((rd_T53 l1 x29_2).f0), .int .i64 ((rd_T53 l1 x29_2).f1), .int .i64 ((rd_T53 l1 x29_2).f2)] 53 (0, 0)) (by (with_reducible repeat (first | refine blk_drewN ?_ _ | refine blk_drew ?_ | refine blk_alloc ?_ _)); exact BK308.out) hb)
          have n4_ := Aside0.mk (below_step (by repeat (first | (with_reducible first | exact HB.out | apply below_alloc | apply pw_below_drewN | apply below_drew1 | refine below_set ?_ GE300.out | refine below_set ?_ GE306.out | refine below_set ?_ GE308.out) | exact HB.out)) hb)
          clear HO_307001
          clear BK300
          clear BK306
          clear BK308
          clear HB
          have HO_307001 := n0_
          have BK300 := n1_
          have BK306 := n2_
          have BK308 := n3_
          have HB := n4_
          clear n0_ n1_ n2_ n3_ n4_
          (try clear hb)
          (try clear hb2)
          (try clear hk)
          (try clear hi)
          refine hK.out _ _ ⟨(blk_cell BK308.out 0).trans rfl, (blk_cell BK308.out 1).trans rfl, (blk_cell BK308.out 2).trans rfl⟩ (fun hHeld => ?_)
          clear hK K
          refine norm_ (a' := ?_) ?_ ?_
          rotate_left
          ·show Act.put _ (some 35) _ = _
           simp only [Act.put, List.setIfInBounds_toArray, List.set_cons_zero, List.set_cons_succ, i64_w, i32_w]
           rfl
          refine pure_ (i := 2) (N := some 36) (v := ?_) (a' := ?_) #[true, true, true, false, false, false, false, false, false, false, false, false, false, false, false, false, false, false] rfl rfl (any_of HT_.out (by kernel_rfl)) (fun _ _ _ h => h) (Or.inl ⟨by rfl, ?_⟩) ?_ ?_
          rotate_left
          ·intro w'
           go_simp
           with_reducible rfl
          rotate_left
          ·simp only [Act.put, List.setIfInBounds_toArray, List.set_cons_zero, List.set_cons_succ, i64_w, i32_w]
           rfl
          refine pure_ (i := 3) (N := some 37) (v := ?_) (a' := ?_) #[true, true, true, true, false, false, false, false, false, false, false, false, false, false, false, false, false, false] rfl rfl (any_of HT_.out (by kernel_rfl)) (fun _ _ _ h => h) (Or.inl ⟨by rfl, ?_⟩) ?_ ?_
          rotate_left
          ·intro w'
           go_simp
           with_reducible rfl
          rotate_left
          ·simp only [Act.put, List.setIfInBounds_toArray, List.set_cons_zero, List.set_cons_succ, i64_w, i32_w]
           rfl
          refine pure_ (i := 4) (N := some 38) (v := undef) (a' := ?_) #[true, true, true, true, true, false, false, false, false, false, false, false, false, false, false, false, false, false] rfl rfl (any_of HT_.out (by kernel_rfl)) (fun _ _ _ h => h) (Or.inr ⟨by rfl, rfl⟩) ?_ ?_
          rotate_left
          ·simp only [Act.put, List.setIfInBounds_toArray, List.set_cons_zero, List.set_cons_succ, i64_w, i32_w]
           rfl
          refine pure_ (i := 5) (N := some 39) (v := undef) (a' := ?_) #[true, true, true, true, true, true, false, false, false, false, false, false, false, false, false, false, false, false] rfl rfl (any_of HT_.out (by kernel_rfl)) (fun _ _ _ h => h) (Or.inr ⟨by rfl, rfl⟩) ?_ ?_
          rotate_left
          ·simp only [Act.put, List.setIfInBounds_toArray, List.set_cons_zero, List.set_cons_succ, i64_w, i32_w]
           rfl
          refine pure_ (i := 6) (N := some 40) (v := undef) (a' := ?_) #[true, true, true, true, true, true, true, false, false, false, false, false, false, false, false, false, false, false] rfl rfl (any_of HT_.out (by kernel_rfl)) (fun _ _ _ h => h) (Or.inr ⟨by rfl, rfl⟩) ?_ ?_
          rotate_left
          ·simp only [Act.put, List.setIfInBounds_toArray, List.set_cons_zero, List.set_cons_succ, i64_w, i32_w]
           rfl
          refine pure_ (i := 7) (N := some 41) (v := undef) (a' := ?_) #[true, true, true, true, true, true, true, true, false, false, false, false, false, false, false, false, false, false] rfl rfl (any_of HT_.out (by kernel_rfl)) (fun _ _ _ h => h) (Or.inr ⟨by rfl, rfl⟩) ?_ ?_
          rotate_left
          ·simp only [Act.put, List.setIfInBounds_toArray, List.set_cons_zero, List.set_cons_succ, i64_w, i32_w]
           rfl
          refine pure_ (i := 8) (N := some 42) (v := undef) (a' := ?_) #[true, true, true, true, true, true, true, true, true, false, false, false, false, false, false, false, false, false] rfl rfl (any_of HT_.out (by kernel_rfl)) (fun _ _ _ h => h) (Or.inr ⟨by rfl, rfl⟩) ?_ ?_
          rotate_left
          ·simp only [Act.put, List.setIfInBounds_toArray, List.set_cons_zero, List.set_cons_succ, i64_w, i32_w]
           rfl
          refine pure_ (i := 9) (N := some 43) (v := undef) (a' := ?_) #[true, true, true, true, true, true, true, true, true, true, false, false, false, false, false, false, false, false] rfl rfl (any_of HT_.out (by kernel_rfl)) (fun _ _ _ h => h) (Or.inr ⟨by rfl, rfl⟩) ?_ ?_
          rotate_left
          ·simp only [Act.put, List.setIfInBounds_toArray, List.set_cons_zero, List.set_cons_succ, i64_w, i32_w]
           rfl
          refine pure_ (i := 10) (N := some 44) (v := undef) (a' := ?_) #[true, true, true, true, true, true, true, true, true, true, true, false, false, false, false, false, false, false] rfl rfl (any_of HT_.out (by kernel_rfl)) (fun _ _ _ h => h) (Or.inr ⟨by rfl, rfl⟩) ?_ ?_
          rotate_left
          ·simp only [Act.put, List.setIfInBounds_toArray, List.set_cons_zero, List.set_cons_succ, i64_w, i32_w]
           rfl
          refine pure_ (i := 11) (N := some 45) (v := undef) (a' := ?_) #[true, true, true, true, true, true, true, true, true, true, true, true, false, false, false, false, false, false] rfl rfl (any_of HT_.out (by kernel_rfl)) (fun _ _ _ h => h) (Or.inr ⟨by rfl, rfl⟩) ?_ ?_
          rotate_left
          ·simp only [Act.put, List.setIfInBounds_toArray, List.set_cons_zero, List.set_cons_succ, i64_w, i32_w]
           rfl
          refine pure_ (i := 12) (N := some 46) (v := undef) (a' := ?_) #[true, true, true, true, true, true, true, true, true, true, true, true, true, false, false, false, false, false] rfl rfl (any_of HT_.out (by kernel_rfl)) (fun _ _ _ h => h) (Or.inr ⟨by rfl, rfl⟩) ?_ ?_
          rotate_left
          ·simp only [Act.put, List.setIfInBounds_toArray, List.set_cons_zero, List.set_cons_succ, i64_w, i32_w]
           rfl
          refine pure_ (i := 13) (N := some 47) (v := undef) (a' := ?_) #[true, true, true, true, true, true, true, true, true, true, true, true, true, true, false, false, false, false] rfl rfl (any_of HT_.out (by kernel_rfl)) (fun _ _ _ h => h) (Or.inr ⟨by rfl, rfl⟩) ?_ ?_
          rotate_left
          ·simp only [Act.put, List.setIfInBounds_toArray, List.set_cons_zero, List.set_cons_succ, i64_w, i32_w]
           rfl
          refine pure_ (i := 14) (N := some 48) (v := undef) (a' := ?_) #[true, true, true, true, true, true, true, true, true, true, true, true, true, true, true, false, false, false] rfl rfl (any_of HT_.out (by kernel_rfl)) (fun _ _ _ h => h) (Or.inr ⟨by rfl, rfl⟩) ?_ ?_
          rotate_left
          ·simp only [Act.put, List.setIfInBounds_toArray, List.set_cons_zero, List.set_cons_succ, i64_w, i32_w]
           rfl
          refine pure_ (i := 15) (N := some 49) (v := undef) (a' := ?_) #[true, true, true, true, true, true, true, true, true, true, true, true, true, true, true, true, false, false] rfl rfl (any_of HT_.out (by kernel_rfl)) (fun _ _ _ h => h) (Or.inr ⟨by rfl, rfl⟩) ?_ ?_
          rotate_left
          ·simp only [Act.put, List.setIfInBounds_toArray, List.set_cons_zero, List.set_cons_succ, i64_w, i32_w]
           rfl
          refine pure_ (i := 16) (N := some 50) (v := undef) (a' := ?_) #[true, true, true, true, true, true, true, true, true, true, true, true, true, true, true, true, true, false] rfl rfl (any_of HT_.out (by kernel_rfl)) (fun _ _ _ h => h) (Or.inr ⟨by rfl, rfl⟩) ?_ ?_
          rotate_left
          ·simp only [Act.put, List.setIfInBounds_toArray, List.set_cons_zero, List.set_cons_succ, i64_w, i32_w]
           rfl
          refine pure_ (i := 17) (N := some 51) (v := ?_) (a' := ?_) #[true, true, true, true, true, true, true, true, true, true, true, true, true, true, true, true, true, true] rfl rfl (any_of HT_.out (by kernel_rfl)) (fun _ _ _ h => h) (Or.inl ⟨by rfl, ?_⟩) ?_ ?_
          rotate_left
          ·intro w'
           go_simp
           with_reducible rfl
          rotate_left
          ·simp only [Act.put, List.setIfInBounds_toArray, List.set_cons_zero, List.set_cons_succ, i64_w, i32_w]
           rfl
          refine done_ (done_of HT_.out (by kernel_rfl)) ?_
          have hnb55 := NB300_306.out
          have hnc55 := NB306_300.out
          have hcz56_0 : w54.cell? ⟨gb300, 0, none⟩ = some (.int .i64 x301000_2) := (blk_cell BK300.out 0).trans rfl
          have hcz56_1 : w54.cell? ⟨gb300, 1, none⟩ = some (.slice none 0 0) := (blk_cell BK300.out 1).trans rfl
          have hfz56_0 := blk_frozen BK300.out 0
          have hfz56_1 := blk_frozen BK300.out 1
          try go_wp2
          refine bodyPost_ret (results_ctt rfl _ _ gb300 24 #[.int .i64 0, .slice none 0 0] (0, 0) _ rfl (by (with_reducible repeat (first | refine blk_drewN ?_ _ | refine blk_drew ?_ | refine blk_alloc ?_ _)); refine blk_put (cs := #[.int .i64 0, .slice none 0 0]) ?_ 1 _ rfl; (with_reducible repeat (first | refine blk_drewN ?_ _ | refine blk_drew ?_ | refine blk_alloc ?_ _)); refine blk_put (cs := #[.int .i64 x301000_2, .slice none 0 0]) ?_ 0 _ rfl; (with_reducible repeat (first | refine blk_drewN ?_ _ | refine blk_drew ?_ | refine blk_alloc ?_ _)); exact BK300.out) Try.underlying24 rfl (by kernel_rfl)) rfl ?_
          exact ⟨_, by first | rfl | (simp [errW_none, errW_some] <;> rfl) | (simp [*, errW_none, errW_some] <;> rfl), by first | exact Kd.R_nil _ _ _ _ _ | exact Kd.N_nil _ _ _ _ _ | exact Kd.V_nil _ _ _ _ _ | exact Kd.Q_nil _ _ _ _ _ | exact Kd.S_nil _ _ _ _ _, by repeat (first | (with_reducible first | exact HB.out | apply below_alloc | apply pw_below_drewN | apply below_drew1 | refine below_set ?_ GE300.out | refine below_set ?_ GE306.out | refine below_set ?_ GE308.out) | exact HB.out)⟩
        ·rw [if_neg c17] at H
         exact absurd H (by simp)
       ·rw [if_neg c16] at H
        exact absurd H (by simp)
      ·rw [if_neg c15] at H
       have c15b0 : decide (x29_2 < (l1.length : Int)) = false := decide_eq_false c15
       clear c15
       have H' := Aside0.mk H
       clear H
       go_wp2
       go_loopg [11, 56] k2 (fun kq v11 v56 w' => ∃ (x11_3 : Int) (x56_3 : Int) (x307000_3 : Int) (x307001_3 : List (S53)) (u307001 : Value), v11 = .int .i64 x11_3 ∧ v56 = .int .i64 x56_3 ∧ Aside0 (impl_heard.l1 kq x11_3 l1 (l1.length : Int) x56_3 x307000_3 x307001_3 = some (r1, r2, r3, r4)) ∧ Aside0 (kq ≤ k2) ∧ Aside0 (Kd.R k53 53 w' w.heap.size (fun _ => True) u307001 x307001_3) ∧ Aside0 (w'.heap[gb300]? = some (.cells #[.int .i64 x301000_2, (.slice none 0 0)] 24 (0, 0))) ∧ Aside0 (w'.heap[gb306]? = some (.cells #[.int .i64 x307000_3, u307001] 24 (0, 0))) ∧ Aside0 (Below w.heap.size w w'))
       case atStart => exact ⟨(0), (0), (t301), (t302), (.slice Ao10 t302.length co10), (by first | rfl | (simp; done) | (simp [*]; done)), (by first | rfl | (simp; done) | (simp [*]; done)), H', ⟨Nat.le_refl _⟩, ⟨by (with_reducible repeat (first | apply Kd.R_alloc | apply Kd.R_drewN | apply Kd.R_drew)); exact HO_307001.out⟩, ⟨by (with_reducible repeat (first | refine blk_drewN ?_ _ | refine blk_drew ?_ | refine blk_alloc ?_ _)); exact BK300.out⟩, ⟨by (with_reducible repeat (first | refine blk_drewN ?_ _ | refine blk_drew ?_ | refine blk_alloc ?_ _)); exact BK306.out⟩, ⟨by repeat (first | (with_reducible first | exact HB.out | apply below_alloc | apply pw_below_drewN | apply below_drew1 | refine below_set ?_ GE300.out | refine below_set ?_ GE306.out) | exact HB.out)⟩⟩
       case round =>
        clear H'
        try clear c1
        try clear c2
        try clear p2
        try clear p3
        try clear q3
        try clear hx3
        try clear c4
        try clear c5
        try clear p6
        try clear c15
        try clear c15b0
        try clear c16
        try clear c17
        try clear c19
        try clear c20
        try clear c20b0
        try clear c22
        try clear c23
        try clear p30
        try clear q30
        try clear hx30
        try clear p31
        try clear q31
        try clear hx31
        try clear c42
        try clear c43
        try clear c45
        try clear c49
        try clear c50
        try clear c55
        try clear hcz44_0
        try clear hcz44_1
        try clear hcz44_2
        try clear hcz51_0
        try clear hcz51_1
        try clear hcz51_2
        try clear hcz56_0
        try clear hcz56_1
        try clear hfz44_0
        try clear hfz44_1
        try clear hfz44_2
        try clear hfz51_0
        try clear hfz51_1
        try clear hfz51_2
        try clear hfz56_0
        try clear hfz56_1
        try clear hx307_0
        try clear hx307_1
        try clear hx307_2
        try clear hx310_0
        try clear hx310_1
        try clear hx310_2
        try clear p307
        try clear p310
        try clear q307
        try clear q310
        obtain ⟨x11_3, x56_3, x307000_3, x307001_3, u307001, rfl, rfl, HA, HK3, HO_307001, BK300, BK306, HB⟩ := hrel
        cases gk with
        | zero => exact absurd HA.out (by simp [impl_heard.l1])
        | succ k3 =>
         have H := HA.out
         clear HA
         simp only [impl_heard.l1] at H
         by_cases c57 : x56_3 < (l1.length : Int)
         ·rw [if_pos c57] at H
          have c57b0 : decide (x56_3 < (l1.length : Int)) = true := decide_eq_true c57
          clear c57
          by_cases c58 : 0 ≤ x56_3
          ·rw [if_pos c58] at H
           have c58b0 : decide (0 ≤ x56_3) = true := decide_eq_true c58
           clear c58
           by_cases c59 : x56_3 < (l1.length : Int)
           ·rw [if_pos c59] at H
            have c59b0 : decide (x56_3 < (l1.length : Int)) = true := decide_eq_true c59
            clear c59
            replace H := Option.bind_eq_some_iff.mp H
            obtain ⟨t313, A600, H⟩ := H
            replace H : (if t313 ≥ 0 then ((impl_Table_learn.f k3 x307000_3 x307001_3 ((rd_T53 l1 x56_3).f0) ((rd_T53 l1 x56_3).f1) ((rd_T53 l1 x56_3).f2)).bind fun bt314 => (impl_heard.l1 k3 (wrap64 (x11_3 + 1)) l1 (l1.length : Int) (wrap64 (x56_3 + 1)) bt314.1 bt314.2)) else ((impl_Table_learn.f k3 x307000_3 x307001_3 ((rd_T53 l1 x56_3).f0) ((rd_T53 l1 x56_3).f1) ((rd_T53 l1 x56_3).f2)).bind fun bt318 => (impl_heard.l1 k3 x11_3 l1 (l1.length : Int) (wrap64 (x56_3 + 1)) bt318.1 bt318.2))) = some (r1, r2, r3, r4) := H
            have A60 := Aside0.mk A600
            clear A600
            by_cases c61 : t313 ≥ 0
            ·rw [if_pos c61] at H
             have c61b0 : decide (0 ≤ t313) = true := decide_eq_true c61
             clear c61
             replace H := Option.bind_eq_some_iff.mp H
             obtain ⟨⟨t314, t315⟩, A620, H⟩ := H
             replace H : (impl_heard.l1 k3 (wrap64 (x11_3 + 1)) l1 (l1.length : Int) (wrap64 (x56_3 + 1)) t314 t315) = some (r1, r2, r3, r4) := H
             have A62 := Aside0.mk A620
             clear A620
             have H' := Aside0.mk H
             clear H
             have p311 : 0 ≤ (x56_3 : Int) := of_decide_eq_true (by first | (with_reducible assumption) | assumption)
             have q311 : x56_3 < (l1.length : Int) := of_decide_eq_true (by first | (with_reducible assumption) | assumption)
             obtain ⟨ad311, e311, hx311_0, hx311_1, hx311_2⟩ := at_T53 HR1.out x56_3 p311 q311
             cases e311
             replace hx311_0 := (HB.out.cell (World.block_lt_of_cell? w _ hx311_0)).trans hx311_0
             replace hx311_1 := (HB.out.cell (World.block_lt_of_cell? w _ hx311_1)).trans hx311_1
             replace hx311_2 := (HB.out.cell (World.block_lt_of_cell? w _ hx311_2)).trans hx311_2
             replace p311 := eq_true p311
             replace q311 := eq_true q311
             go_wp2_with (first | ((with_reducible refine gate_dst (N := 13) rfl ?_); (try (refine gate_guard (by rfl) ?_; dsimp only)); refine box_event ?hg (N := 13) ?hd (cs := #[.int .i64 0, .int .i64 0, .int .i64 0]) (t := 53) ?hr ?_; (case hd => rfl); (case hg => rfl); (case hr => first | (go_simp; done) | (go_simp; rfl)); intro gb312 hg w63 hbox hb; have n0_ := Aside0.mk (Kd.R_below (Kd.R_elderB (by (with_reducible repeat (first | apply Kd.R_alloc | apply Kd.R_drewN | apply Kd.R_drew)); exact HO_307001.out) gb312 (Nat.le_of_eq hg.symm)) hb); have n1_ := Aside0.mk (blk_below (g := gb300) (o := .cells #[.int .i64 x301000_2, .slice none 0 0] 24 (0, 0)) (by (with_reducible repeat (first | refine blk_drewN ?_ _ | refine blk_drew ?_ | refine blk_alloc ?_ _)); exact BK300.out) hb); have n2_ := Aside0.mk (blk_below (g := gb306) (o := .cells #[.int .i64 x307000_3, u307001] 24 (0, 0)) (by (with_reducible repeat (first | refine blk_drewN ?_ _ | refine blk_drew ?_ | refine blk_alloc ?_ _)); exact BK306.out) hb); have n3_ := Aside0.mk (below_step (by repeat (first | (with_reducible first | exact HB.out | apply below_alloc | apply pw_below_drewN | apply below_drew1 | refine below_set ?_ GE300.out | refine below_set ?_ GE306.out) | exact HB.out)) hb); have n4_ := Aside0.mk (hbox); have n5_ := Aside0.mk ((by rw [hg]; exact (below_size (by repeat (first | (with_reducible first | exact HB.out | apply below_alloc | apply pw_below_drewN | apply below_drew1 | refine below_set ?_ GE300.out | refine below_set ?_ GE306.out) | exact HB.out))) : w.heap.size ≤ gb312)); have n6_ := Aside0.mk ((by rw [hg]; exact (below_size (by repeat (first | (with_reducible first | exact HB.out | apply below_alloc | apply pw_below_drewN | apply below_drew1 | refine below_set ?_ GE300.out | refine below_set ?_ GE306.out) | exact HB.out))) : w.heap.size ≤ gb312)); have n7_ := Aside0.mk ((by rw [hg]; exact Nat.ne_of_lt (blk_lt (g := gb300) (o := .cells #[.int .i64 x301000_2, .slice none 0 0] 24 (0, 0)) (by (with_reducible repeat (first | refine blk_drewN ?_ _ | refine blk_drew ?_ | refine blk_alloc ?_ _)); exact BK300.out)) : gb300 ≠ gb312)); have n8_ := Aside0.mk ((by rw [hg]; exact Nat.ne_of_gt (blk_lt (g := gb300) (o := .cells #[.int .i64 x301000_2, .slice none 0 0] 24 (0, 0)) (by (with_reducible repeat (first | refine blk_drewN ?_ _ | refine blk_drew ?_ | refine blk_alloc ?_ _)); exact BK300.out)) : gb312 ≠ gb300)); have n9_ := Aside0.mk ((by rw [hg]; exact Nat.ne_of_lt (blk_lt (g := gb306) (o := .cells #[.int .i64 x307000_3, u307001] 24 (0, 0)) (by (with_reducible repeat (first | refine blk_drewN ?_ _ | refine blk_drew ?_ | refine blk_alloc ?_ _)); exact BK306.out)) : gb306 ≠ gb312)); have n10_ := Aside0.mk ((by rw [hg]; exact Nat.ne_of_gt (blk_lt (g := gb306) (o := .cells #[.int .i64 x307000_3, u307001] 24 (0, 0)) (by (with_reducible repeat (first | refine blk_drewN ?_ _ | refine blk_drew ?_ | refine blk_alloc ?_ _)); exact BK306.out)) : gb312 ≠ gb306)); clear HO_307001; clear BK300; clear BK306; clear HB; have HO_307001 := n0_; have BK300 := n1_; have BK306 := n2_; have HB := n3_; have BK312 := n4_; have GW312 := n5_; have GE312 := n6_; have NB300_312 := n7_; have NB312_300 := n8_; have NB306_312 := n9_; have NB312_306 := n10_; clear n0_ n1_ n2_ n3_ n4_ n5_ n6_ n7_ n8_ n9_ n10_; clear hb hbox hg; have hnb64 := NB312_300.out; have hnc64 := NB300_312.out; have hnb65 := NB312_306.out; have hnc65 := NB306_312.out; have hcz66_0 : w63.cell? ⟨gb312, 0, none⟩ = some (.int .i64 0) := (blk_cell BK312.out 0).trans rfl; have hcz66_1 : w63.cell? ⟨gb312, 1, none⟩ = some (.int .i64 0) := (blk_cell BK312.out 1).trans rfl; have hcz66_2 : w63.cell? ⟨gb312, 2, none⟩ = some (.int .i64 0) := (blk_cell BK312.out 2).trans rfl; have hfz66_0 := blk_frozen BK312.out 0; have hfz66_1 := blk_frozen BK312.out 1; have hfz66_2 := blk_frozen BK312.out 2; have hnb67 := NB306_300.out; have hnc67 := NB300_306.out; have hcz68_0 : w63.cell? ⟨gb306, 0, none⟩ = some (.int .i64 x307000_3) := (blk_cell BK306.out 0).trans rfl; have hcz68_1 : w63.cell? ⟨gb306, 1, none⟩ = some (u307001) := (blk_cell BK306.out 1).trans rfl; have hfz68_0 := blk_frozen BK306.out 0; have hfz68_1 := blk_frozen BK306.out 1; obtain ⟨Ao69, co69, eo69⟩ := Kd.R_slice HO_307001.out; subst eo69) | ((with_reducible refine gate_callee (f := 46) rfl ?_); refine goesL_ (some 64) rfl rfl Try.func46 (by kernel_rfl) rfl #[.slice Ao69 x307001_3.length co69, .int .i64 ((rd_T53 l1 x56_3).f0)] rfl (by (try simp only [List.map_toArray, List.map_cons, List.map_nil]); first | done | rfl | (simp only [List.length_drop, List.length_take]; rfl)) ?_; (with_reducible refine (impl_row.calls _ _ x307001_3 ((rd_T53 l1 x56_3).f0) t313 _ ?side1 ?side2 A60.out).mono ?_); (case side1 => refine (Kd.R_reads' (e := 53) (base := w.heap.size) (ok := fun k_ => (True ∧ k_ ≠ gb312)) (n := x307001_3.length) (c := co69) ?_).2.2; exact (by (with_reducible repeat (first | apply Kd.R_alloc | apply Kd.R_drewN | apply Kd.R_drew)); exact (Kd.R_mono (Kd.R_far (p := ⟨gb312, 2, none⟩) (Kd.R_far (p := ⟨gb312, 1, none⟩) (Kd.R_far (p := ⟨gb312, 0, none⟩) (Kd.R_mono HO_307001.out (fun k_ hk => (⟨hk, hk.2⟩ : _ ∧ k_ ≠ gb312))) (fun _ hk => hk.2) (.int .i64 ((rd_T53 l1 x56_3).f0))) (fun _ hk => hk.2) (.int .i64 ((rd_T53 l1 x56_3).f1))) (fun _ hk => hk.2) (.int .i64 ((rd_T53 l1 x56_3).f2))) (fun _ h_ => h_.1)))); (case side2 => exact (Kd.R_reads' HO_307001.out).2.1); rintro e w70 ⟨rfl, hb⟩; refine ⟨_, rfl, ?_⟩; have n0_ := Aside0.mk (Kd.R_below (by (with_reducible repeat (first | apply Kd.R_alloc | apply Kd.R_drewN | apply Kd.R_drew)); exact (Kd.R_mono (Kd.R_far (p := ⟨gb312, 2, none⟩) (Kd.R_far (p := ⟨gb312, 1, none⟩) (Kd.R_far (p := ⟨gb312, 0, none⟩) (Kd.R_mono HO_307001.out (fun k_ hk => (⟨hk, hk.2⟩ : _ ∧ k_ ≠ gb312))) (fun _ hk => hk.2) (.int .i64 ((rd_T53 l1 x56_3).f0))) (fun _ hk => hk.2) (.int .i64 ((rd_T53 l1 x56_3).f1))) (fun _ hk => hk.2) (.int .i64 ((rd_T53 l1 x56_3).f2))) (fun _ h_ => h_.1))) hb); have n1_ := Aside0.mk (blk_below (g := gb300) (o := .cells #[.int .i64 x301000_2, .slice none 0 0] 24 (0, 0)) (by (with_reducible repeat (first | refine blk_drewN ?_ _ | refine blk_drew ?_ | refine blk_alloc ?_ _)); refine blk_far ?_ NB300_312.out _; (with_reducible repeat (first | refine blk_drewN ?_ _ | refine blk_drew ?_ | refine blk_alloc ?_ _)); refine blk_far ?_ NB300_312.out _; (with_reducible repeat (first | refine blk_drewN ?_ _ | refine blk_drew ?_ | refine blk_alloc ?_ _)); refine blk_far ?_ NB300_312.out _; (with_reducible repeat (first | refine blk_drewN ?_ _ | refine blk_drew ?_ | refine blk_alloc ?_ _)); exact BK300.out) hb); have n2_ := Aside0.mk (blk_below (g := gb306) (o := .cells #[.int .i64 x307000_3, .slice Ao69 x307001_3.length co69] 24 (0, 0)) (by (with_reducible repeat (first | refine blk_drewN ?_ _ | refine blk_drew ?_ | refine blk_alloc ?_ _)); refine blk_far ?_ NB306_312.out _; (with_reducible repeat (first | refine blk_drewN ?_ _ | refine blk_drew ?_ | refine blk_alloc ?_ _)); refine blk_far ?_ NB306_312.out _; (with_reducible repeat (first | refine blk_drewN ?_ _ | refine blk_drew ?_ | refine blk_alloc ?_ _)); refine blk_far ?_ NB306_312.out _; (with_reducible repeat (first | refine blk_drewN ?_ _ | refine blk_drew ?_ | refine blk_alloc ?_ _)); exact BK306.out) hb); have n3_ := Aside0.mk (blk_below (g := gb312) (o := .cells #[.int .i64 ((rd_T53 l1 x56_3).f0), .int .i64 ((rd_T53 l1 x56_3).f1), .int .i64 ((rd_T53 l1 x56_3).f2)] 53 (0, 0)) (by (with_reducible repeat (first | refine blk_drewN ?_ _ | refine blk_drew ?_ | refine blk_alloc ?_ _)); refine blk_put (cs := #[.int .i64 ((rd_T53 l1 x56_3).f0), .int .i64 ((rd_T53 l1 x56_3).f1), .int .i64 0]) ?_ 2 _ rfl; (with_reducible repeat (first | refine blk_drewN ?_ _ | refine blk_drew ?_ | refine blk_alloc ?_ _)); refine blk_put (cs := #[.int .i64 ((rd_T53 l1 x56_3).f0), .int .i64 0, .int .i64 0]) ?_ 1 _ rfl; (with_reducible repeat (first | refine blk_drewN ?_ _ | refine blk_drew ?_ | refine blk_alloc ?_ _)); refine blk_put (cs := #[.int .i64 0, .int .i64 0, .int .i64 0]) ?_ 0 _ rfl; (with_reducible repeat (first | refine blk_drewN ?_ _ | refine blk_drew ?_ | refine blk_alloc ?_ _)); exact BK312.out) hb); have n4_ := Aside0.mk (below_step (by repeat (first | (with_reducible first | exact HB.out | apply below_alloc | apply pw_below_drewN | apply below_drew1 | refine below_set ?_ GE300.out | refine below_set ?_ GE306.out | refine below_set ?_ GE312.out) | exact HB.out)) hb); clear HO_307001; clear BK300; clear BK306; clear BK312; clear HB; have HO_307001 := n0_; have BK300 := n1_; have BK306 := n2_; have BK312 := n3_; have HB := n4_; clear n0_ n1_ n2_ n3_ n4_; (try clear hb); (try clear hb2); (try clear hk); (try clear hi); have hcz71_0 : w70.cell? ⟨gb306, 0, none⟩ = some (.int .i64 x307000_3) := (blk_cell BK306.out 0).trans rfl; have hcz71_1 : w70.cell? ⟨gb306, 1, none⟩ = some (.slice Ao69 x307001_3.length co69) := (blk_cell BK306.out 1).trans rfl; have hfz71_0 := blk_frozen BK306.out 0; have hfz71_1 := blk_frozen BK306.out 1; have hcz72_0 : w70.cell? ⟨gb312, 0, none⟩ = some (.int .i64 ((rd_T53 l1 x56_3).f0)) := (blk_cell BK312.out 0).trans rfl; have hcz72_1 : w70.cell? ⟨gb312, 1, none⟩ = some (.int .i64 ((rd_T53 l1 x56_3).f1)) := (blk_cell BK312.out 1).trans rfl; have hcz72_2 : w70.cell? ⟨gb312, 2, none⟩ = some (.int .i64 ((rd_T53 l1 x56_3).f2)) := (blk_cell BK312.out 2).trans rfl; have hfz72_0 := blk_frozen BK312.out 0; have hfz72_1 := blk_frozen BK312.out 1; have hfz72_2 := blk_frozen BK312.out 2) | ((with_reducible refine gate_callee (f := 55) rfl ?_); refine goesL_ (some 70) rfl rfl Try.func55 (by kernel_rfl) rfl #[.agg #[.int .i64 x307000_3, .slice Ao69 x307001_3.length co69], .agg #[.int .i64 ((rd_T53 l1 x56_3).f0), .int .i64 ((rd_T53 l1 x56_3).f1), .int .i64 ((rd_T53 l1 x56_3).f2)]] rfl (by (try simp only [List.map_toArray, List.map_cons, List.map_nil]); first | done | rfl | (simp only [List.length_drop, List.length_take]; rfl)) ?_; (with_reducible refine (impl_Table_learn.calls k3 x307000_3 _ _ x307001_3 ((rd_T53 l1 x56_3).f0) ((rd_T53 l1 x56_3).f1) ((rd_T53 l1 x56_3).f2) t314 t315 _ ?side1 ?side2 A62.out).mono ?_); (case side1 => repeat (first | exact (Kd.R_reads' HO_307001.out).2.2 | (with_reducible refine Kd.C_alloc ?_ _) | (with_reducible refine Kd.C_drewN ?_ _) | (with_reducible refine Kd.C_drew ?_))); (case side2 => exact (Kd.R_reads' HO_307001.out).2.1); rintro e w73 ⟨v316, rfl, ho0, hb⟩; refine ⟨_, rfl, ?_⟩; have n0_ := Aside0.mk (Kd.R_elder' (by (with_reducible repeat (first | apply Kd.R_alloc | apply Kd.R_drewN | apply Kd.R_drew)); exact HO_307001.out) (Kd.R_base ho0) hb); have n1_ := Aside0.mk (Kd.R_lower (Kd.R_newB (Kd.R_new' ho0 (Kd.R_lt (by (with_reducible repeat (first | apply Kd.R_alloc | apply Kd.R_drewN | apply Kd.R_drew)); exact HO_307001.out))) (g := gb312) (o := .cells #[.int .i64 ((rd_T53 l1 x56_3).f0), .int .i64 ((rd_T53 l1 x56_3).f1), .int .i64 ((rd_T53 l1 x56_3).f2)] 53 (0, 0)) (by (with_reducible repeat (first | refine blk_drewN ?_ _ | refine blk_drew ?_ | refine blk_alloc ?_ _)); exact BK312.out)) (below_size (by repeat (first | (with_reducible first | exact HB.out | apply below_alloc | apply pw_below_drewN | apply below_drew1 | refine below_set ?_ GE300.out | refine below_set ?_ GE306.out | refine below_set ?_ GE312.out) | exact HB.out)))); have n2_ := Aside0.mk (blk_below (g := gb300) (o := .cells #[.int .i64 x301000_2, .slice none 0 0] 24 (0, 0)) (by (with_reducible repeat (first | refine blk_drewN ?_ _ | refine blk_drew ?_ | refine blk_alloc ?_ _)); exact BK300.out) hb); have n3_ := Aside0.mk (blk_below (g := gb306) (o := .cells #[.int .i64 x307000_3, .slice Ao69 x307001_3.length co69] 24 (0, 0)) (by (with_reducible repeat (first | refine blk_drewN ?_ _ | refine blk_drew ?_ | refine blk_alloc ?_ _)); exact BK306.out) hb); have n4_ := Aside0.mk (blk_below (g := gb312) (o := .cells #[.int .i64 ((rd_T53 l1 x56_3).f0), .int .i64 ((rd_T53 l1 x56_3).f1), .int .i64 ((rd_T53 l1 x56_3).f2)] 53 (0, 0)) (by (with_reducible repeat (first | refine blk_drewN ?_ _ | refine blk_drew ?_ | refine blk_alloc ?_ _)); exact BK312.out) hb); have n5_ := Aside0.mk (below_step (by repeat (first | (with_reducible first | exact HB.out | apply below_alloc | apply pw_below_drewN | apply below_drew1 | refine below_set ?_ GE300.out | refine below_set ?_ GE306.out | refine below_set ?_ GE312.out) | exact HB.out)) hb); clear HO_307001; clear BK300; clear BK306; clear BK312; clear HB; have HO_307001 := n0_; have HO317 := n1_; have BK300 := n2_; have BK306 := n3_; have BK312 := n4_; have HB := n5_; clear n0_ n1_ n2_ n3_ n4_ n5_; (try clear hb); (try clear hb2); (try clear hk); (try clear hi); (try clear ho0); have hcz74_0 : w73.cell? ⟨gb306, 0, none⟩ = some (.int .i64 x307000_3) := (blk_cell BK306.out 0).trans rfl; have hcz74_1 : w73.cell? ⟨gb306, 1, none⟩ = some (.slice Ao69 x307001_3.length co69) := (blk_cell BK306.out 1).trans rfl; have hfz74_0 := blk_frozen BK306.out 0; have hfz74_1 := blk_frozen BK306.out 1; obtain ⟨Ao75, co75, eo75⟩ := Kd.R_slice HO317.out; subst eo75))
             go_roundg k3
             case measure => have := HJ3.out; have := HK2.out; have := HK3.out; omega
             case rel => exact ⟨(wrap64 (x11_3 + 1)), (wrap64 (x56_3 + 1)), (t314), (t315), (.slice Ao75 t315.length co75), (by first | rfl | (simp; done) | (simp [*]; done)), (by first | rfl | (simp; done) | (simp [*]; done)), H', ⟨by have := HJ3.out; have := HK2.out; have := HK3.out; omega⟩, ⟨by (with_reducible repeat (first | apply Kd.R_alloc | apply Kd.R_drewN | apply Kd.R_drew)); exact Kd.R_mono (Kd.R_far (p := ⟨gb306, 1, none⟩) (Kd.R_far (p := ⟨gb306, 0, none⟩) (Kd.R_types HO317.out BK306.out (by decide)) (fun _ hk => hk.2) (.int .i64 t314)) (fun _ hk => hk.2) (.slice Ao75 t315.length co75)) (fun _ hk => trivial)⟩, ⟨by (with_reducible repeat (first | refine blk_drewN ?_ _ | refine blk_drew ?_ | refine blk_alloc ?_ _)); refine blk_far ?_ NB300_306.out _; (with_reducible repeat (first | refine blk_drewN ?_ _ | refine blk_drew ?_ | refine blk_alloc ?_ _)); refine blk_far ?_ NB300_306.out _; (with_reducible repeat (first | refine blk_drewN ?_ _ | refine blk_drew ?_ | refine blk_alloc ?_ _)); exact BK300.out⟩, ⟨by (with_reducible repeat (first | refine blk_drewN ?_ _ | refine blk_drew ?_ | refine blk_alloc ?_ _)); refine blk_put (cs := #[.int .i64 t314, .slice Ao69 x307001_3.length co69]) ?_ 1 _ rfl; (with_reducible repeat (first | refine blk_drewN ?_ _ | refine blk_drew ?_ | refine blk_alloc ?_ _)); refine blk_put (cs := #[.int .i64 x307000_3, .slice Ao69 x307001_3.length co69]) ?_ 0 _ rfl; (with_reducible repeat (first | refine blk_drewN ?_ _ | refine blk_drew ?_ | refine blk_alloc ?_ _)); exact BK306.out⟩, ⟨by repeat (first | (with_reducible first | exact HB.out | apply below_alloc | apply pw_below_drewN | apply below_drew1 | refine below_set ?_ GE300.out | refine below_set ?_ GE306.out | refine below_set ?_ GE312.out) | exact HB.out)⟩⟩
            ·rw [if_neg c61] at H
             have c61b0 : decide (0 ≤ t313) = false := decide_eq_false c61
             clear c61
             replace H := Option.bind_eq_some_iff.mp H
             obtain ⟨⟨t318, t319⟩, A760, H⟩ := H
             replace H : (impl_heard.l1 k3 x11_3 l1 (l1.length : Int) (wrap64 (x56_3 + 1)) t318 t319) = some (r1, r2, r3, r4) := H
             have A76 := Aside0.mk A760
             clear A760
             have H' := Aside0.mk H
             clear H
             have p311 : 0 ≤ (x56_3 : Int) := of_decide_eq_true (by first | (with_reducible assumption) | assumption)
             have q311 : x56_3 < (l1.length : Int) := of_decide_eq_true (by first | (with_reducible assumption) | assumption)
             obtain ⟨ad311, e311, hx311_0, hx311_1, hx311_2⟩ := at_T53 HR1.out x56_3 p311 q311
             cases e311
             replace hx311_0 := (HB.out.cell (World.block_lt_of_cell? w _ hx311_0)).trans hx311_0
             replace hx311_1 := (HB.out.cell (World.block_lt_of_cell? w _ hx311_1)).trans hx311_1
             replace hx311_2 := (HB.out.cell (World.block_lt_of_cell? w _ hx311_2)).trans hx311_2
             replace p311 := eq_true p311
             replace q311 := eq_true q311
             go_wp2_with (first | ((with_reducible refine gate_dst (N := 13) rfl ?_); (try (refine gate_guard (by rfl) ?_; dsimp only)); refine box_event ?hg (N := 13) ?hd (cs := #[.int .i64 0, .int .i64 0, .int .i64 0]) (t := 53) ?hr ?_; (case hd => rfl); (case hg => rfl); (case hr => first | (go_simp; done) | (go_simp; rfl)); intro gb312 hg w77 hbox hb; have n0_ := Aside0.mk (Kd.R_below (Kd.R_elderB (by (with_reducible repeat (first | apply Kd.R_alloc | apply Kd.R_drewN | apply Kd.R_drew)); exact HO_307001.out) gb312 (Nat.le_of_eq hg.symm)) hb); have n1_ := Aside0.mk (blk_below (g := gb300) (o := .cells #[.int .i64 x301000_2, .slice none 0 0] 24 (0, 0)) (by (with_reducible repeat (first | refine blk_drewN ?_ _ | refine blk_drew ?_ | refine blk_alloc ?_ _)); exact BK300.out) hb); have n2_ := Aside0.mk (blk_below (g := gb306) (o := .cells #[.int .i64 x307000_3, u307001] 24 (0, 0)) (by (with_reducible repeat (first | refine blk_drewN ?_ _ | refine blk_drew ?_ | refine blk_alloc ?_ _)); exact BK306.out) hb); have n3_ := Aside0.mk (below_step (by repeat (first | (with_reducible first | exact HB.out | apply below_alloc | apply pw_below_drewN | apply below_drew1 | refine below_set ?_ GE300.out | refine below_set ?_ GE306.out) | exact HB.out)) hb); have n4_ := Aside0.mk (hbox); have n5_ := Aside0.mk ((by rw [hg]; exact (below_size (by repeat (first | (with_reducible first | exact HB.out | apply below_alloc | apply pw_below_drewN | apply below_drew1 | refine below_set ?_ GE300.out | refine below_set ?_ GE306.out) | exact HB.out))) : w.heap.size ≤ gb312)); have n6_ := Aside0.mk ((by rw [hg]; exact (below_size (by repeat (first | (with_reducible first | exact HB.out | apply below_alloc | apply pw_below_drewN | apply below_drew1 | refine below_set ?_ GE300.out | refine below_set ?_ GE306.out) | exact HB.out))) : w.heap.size ≤ gb312)); have n7_ := Aside0.mk ((by rw [hg]; exact Nat.ne_of_lt (blk_lt (g := gb300) (o := .cells #[.int .i64 x301000_2, .slice none 0 0] 24 (0, 0)) (by (with_reducible repeat (first | refine blk_drewN ?_ _ | refine blk_drew ?_ | refine blk_alloc ?_ _)); exact BK300.out)) : gb300 ≠ gb312)); have n8_ := Aside0.mk ((by rw [hg]; exact Nat.ne_of_gt (blk_lt (g := gb300) (o := .cells #[.int .i64 x301000_2, .slice none 0 0] 24 (0, 0)) (by (with_reducible repeat (first | refine blk_drewN ?_ _ | refine blk_drew ?_ | refine blk_alloc ?_ _)); exact BK300.out)) : gb312 ≠ gb300)); have n9_ := Aside0.mk ((by rw [hg]; exact Nat.ne_of_lt (blk_lt (g := gb306) (o := .cells #[.int .i64 x307000_3, u307001] 24 (0, 0)) (by (with_reducible repeat (first | refine blk_drewN ?_ _ | refine blk_drew ?_ | refine blk_alloc ?_ _)); exact BK306.out)) : gb306 ≠ gb312)); have n10_ := Aside0.mk ((by rw [hg]; exact Nat.ne_of_gt (blk_lt (g := gb306) (o := .cells #[.int .i64 x307000_3, u307001] 24 (0, 0)) (by (with_reducible repeat (first | refine blk_drewN ?_ _ | refine blk_drew ?_ | refine blk_alloc ?_ _)); exact BK306.out)) : gb312 ≠ gb306)); clear HO_307001; clear BK300; clear BK306; clear HB; have HO_307001 := n0_; have BK300 := n1_; have BK306 := n2_; have HB := n3_; have BK312 := n4_; have GW312 := n5_; have GE312 := n6_; have NB300_312 := n7_; have NB312_300 := n8_; have NB306_312 := n9_; have NB312_306 := n10_; clear n0_ n1_ n2_ n3_ n4_ n5_ n6_ n7_ n8_ n9_ n10_; clear hb hbox hg; have hnb78 := NB312_300.out; have hnc78 := NB300_312.out; have hnb79 := NB312_306.out; have hnc79 := NB306_312.out; have hcz80_0 : w77.cell? ⟨gb312, 0, none⟩ = some (.int .i64 0) := (blk_cell BK312.out 0).trans rfl; have hcz80_1 : w77.cell? ⟨gb312, 1, none⟩ = some (.int .i64 0) := (blk_cell BK312.out 1).trans rfl; have hcz80_2 : w77.cell? ⟨gb312, 2, none⟩ = some (.int .i64 0) := (blk_cell BK312.out 2).trans rfl; have hfz80_0 := blk_frozen BK312.out 0; have hfz80_1 := blk_frozen BK312.out 1; have hfz80_2 := blk_frozen BK312.out 2; have hnb81 := NB306_300.out; have hnc81 := NB300_306.out; have hcz82_0 : w77.cell? ⟨gb306, 0, none⟩ = some (.int .i64 x307000_3) := (blk_cell BK306.out 0).trans rfl; have hcz82_1 : w77.cell? ⟨gb306, 1, none⟩ = some (u307001) := (blk_cell BK306.out 1).trans rfl; have hfz82_0 := blk_frozen BK306.out 0; have hfz82_1 := blk_frozen BK306.out 1; obtain ⟨Ao83, co83, eo83⟩ := Kd.R_slice HO_307001.out; subst eo83) | ((with_reducible refine gate_callee (f := 46) rfl ?_); refine goesL_ (some 64) rfl rfl Try.func46 (by kernel_rfl) rfl #[.slice Ao83 x307001_3.length co83, .int .i64 ((rd_T53 l1 x56_3).f0)] rfl (by (try simp only [List.map_toArray, List.map_cons, List.map_nil]); first | done | rfl | (simp only [List.length_drop, List.length_take]; rfl)) ?_; (with_reducible refine (impl_row.calls _ _ x307001_3 ((rd_T53 l1 x56_3).f0) t313 _ ?side1 ?side2 A60.out).mono ?_); (case side1 => refine (Kd.R_reads' (e := 53) (base := w.heap.size) (ok := fun k_ => (True ∧ k_ ≠ gb312)) (n := x307001_3.length) (c := co83) ?_).2.2; exact (by (with_reducible repeat (first | apply Kd.R_alloc | apply Kd.R_drewN | apply Kd.R_drew)); exact (Kd.R_mono (Kd.R_far (p := ⟨gb312, 2, none⟩) (Kd.R_far (p := ⟨gb312, 1, none⟩) (Kd.R_far (p := ⟨gb312, 0, none⟩) (Kd.R_mono HO_307001.out (fun k_ hk => (⟨hk, hk.2⟩ : _ ∧ k_ ≠ gb312))) (fun _ hk => hk.2) (.int .i64 ((rd_T53 l1 x56_3).f0))) (fun _ hk => hk.2) (.int .i64 ((rd_T53 l1 x56_3).f1))) (fun _ hk => hk.2) (.int .i64 ((rd_T53 l1 x56_3).f2))) (fun _ h_ => h_.1)))); (case side2 => exact (Kd.R_reads' HO_307001.out).2.1); rintro e w84 ⟨rfl, hb⟩; refine ⟨_, rfl, ?_⟩; have n0_ := Aside0.mk (Kd.R_below (by (with_reducible repeat (first | apply Kd.R_alloc | apply Kd.R_drewN | apply Kd.R_drew)); exact (Kd.R_mono (Kd.R_far (p := ⟨gb312, 2, none⟩) (Kd.R_far (p := ⟨gb312, 1, none⟩) (Kd.R_far (p := ⟨gb312, 0, none⟩) (Kd.R_mono HO_307001.out (fun k_ hk => (⟨hk, hk.2⟩ : _ ∧ k_ ≠ gb312))) (fun _ hk => hk.2) (.int .i64 ((rd_T53 l1 x56_3).f0))) (fun _ hk => hk.2) (.int .i64 ((rd_T53 l1 x56_3).f1))) (fun _ hk => hk.2) (.int .i64 ((rd_T53 l1 x56_3).f2))) (fun _ h_ => h_.1))) hb); have n1_ := Aside0.mk (blk_below (g := gb300) (o := .cells #[.int .i64 x301000_2, .slice none 0 0] 24 (0, 0)) (by (with_reducible repeat (first | refine blk_drewN ?_ _ | refine blk_drew ?_ | refine blk_alloc ?_ _)); refine blk_far ?_ NB300_312.out _; (with_reducible repeat (first | refine blk_drewN ?_ _ | refine blk_drew ?_ | refine blk_alloc ?_ _)); refine blk_far ?_ NB300_312.out _; (with_reducible repeat (first | refine blk_drewN ?_ _ | refine blk_drew ?_ | refine blk_alloc ?_ _)); refine blk_far ?_ NB300_312.out _; (with_reducible repeat (first | refine blk_drewN ?_ _ | refine blk_drew ?_ | refine blk_alloc ?_ _)); exact BK300.out) hb); have n2_ := Aside0.mk (blk_below (g := gb306) (o := .cells #[.int .i64 x307000_3, .slice Ao83 x307001_3.length co83] 24 (0, 0)) (by (with_reducible repeat (first | refine blk_drewN ?_ _ | refine blk_drew ?_ | refine blk_alloc ?_ _)); refine blk_far ?_ NB306_312.out _; (with_reducible repeat (first | refine blk_drewN ?_ _ | refine blk_drew ?_ | refine blk_alloc ?_ _)); refine blk_far ?_ NB306_312.out _; (with_reducible repeat (first | refine blk_drewN ?_ _ | refine blk_drew ?_ | refine blk_alloc ?_ _)); refine blk_far ?_ NB306_312.out _; (with_reducible repeat (first | refine blk_drewN ?_ _ | refine blk_drew ?_ | refine blk_alloc ?_ _)); exact BK306.out) hb); have n3_ := Aside0.mk (blk_below (g := gb312) (o := .cells #[.int .i64 ((rd_T53 l1 x56_3).f0), .int .i64 ((rd_T53 l1 x56_3).f1), .int .i64 ((rd_T53 l1 x56_3).f2)] 53 (0, 0)) (by (with_reducible repeat (first | refine blk_drewN ?_ _ | refine blk_drew ?_ | refine blk_alloc ?_ _)); refine blk_put (cs := #[.int .i64 ((rd_T53 l1 x56_3).f0), .int .i64 ((rd_T53 l1 x56_3).f1), .int .i64 0]) ?_ 2 _ rfl; (with_reducible repeat (first | refine blk_drewN ?_ _ | refine blk_drew ?_ | refine blk_alloc ?_ _)); refine blk_put (cs := #[.int .i64 ((rd_T53 l1 x56_3).f0), .int .i64 0, .int .i64 0]) ?_ 1 _ rfl; (with_reducible repeat (first | refine blk_drewN ?_ _ | refine blk_drew ?_ | refine blk_alloc ?_ _)); refine blk_put (cs := #[.int .i64 0, .int .i64 0, .int .i64 0]) ?_ 0 _ rfl; (with_reducible repeat (first | refine blk_drewN ?_ _ | refine blk_drew ?_ | refine blk_alloc ?_ _)); exact BK312.out) hb); have n4_ := Aside0.mk (below_step (by repeat (first | (with_reducible first | exact HB.out | apply below_alloc | apply pw_below_drewN | apply below_drew1 | refine below_set ?_ GE300.out | refine below_set ?_ GE306.out | refine below_set ?_ GE312.out) | exact HB.out)) hb); clear HO_307001; clear BK300; clear BK306; clear BK312; clear HB; have HO_307001 := n0_; have BK300 := n1_; have BK306 := n2_; have BK312 := n3_; have HB := n4_; clear n0_ n1_ n2_ n3_ n4_; (try clear hb); (try clear hb2); (try clear hk); (try clear hi); have hcz85_0 : w84.cell? ⟨gb306, 0, none⟩ = some (.int .i64 x307000_3) := (blk_cell BK306.out 0).trans rfl; have hcz85_1 : w84.cell? ⟨gb306, 1, none⟩ = some (.slice Ao83 x307001_3.length co83) := (blk_cell BK306.out 1).trans rfl; have hfz85_0 := blk_frozen BK306.out 0; have hfz85_1 := blk_frozen BK306.out 1; have hcz86_0 : w84.cell? ⟨gb312, 0, none⟩ = some (.int .i64 ((rd_T53 l1 x56_3).f0)) := (blk_cell BK312.out 0).trans rfl; have hcz86_1 : w84.cell? ⟨gb312, 1, none⟩ = some (.int .i64 ((rd_T53 l1 x56_3).f1)) := (blk_cell BK312.out 1).trans rfl; have hcz86_2 : w84.cell? ⟨gb312, 2, none⟩ = some (.int .i64 ((rd_T53 l1 x56_3).f2)) := (blk_cell BK312.out 2).trans rfl; have hfz86_0 := blk_frozen BK312.out 0; have hfz86_1 := blk_frozen BK312.out 1; have hfz86_2 := blk_frozen BK312.out 2) | ((with_reducible refine gate_callee (f := 55) rfl ?_); refine goesL_ (some 70) rfl rfl Try.func55 (by kernel_rfl) rfl #[.agg #[.int .i64 x307000_3, .slice Ao83 x307001_3.length co83], .agg #[.int .i64 ((rd_T53 l1 x56_3).f0), .int .i64 ((rd_T53 l1 x56_3).f1), .int .i64 ((rd_T53 l1 x56_3).f2)]] rfl (by (try simp only [List.map_toArray, List.map_cons, List.map_nil]); first | done | rfl | (simp only [List.length_drop, List.length_take]; rfl)) ?_; (with_reducible refine (impl_Table_learn.calls k3 x307000_3 _ _ x307001_3 ((rd_T53 l1 x56_3).f0) ((rd_T53 l1 x56_3).f1) ((rd_T53 l1 x56_3).f2) t318 t319 _ ?side1 ?side2 A76.out).mono ?_); (case side1 => repeat (first | exact (Kd.R_reads' HO_307001.out).2.2 | (with_reducible refine Kd.C_alloc ?_ _) | (with_reducible refine Kd.C_drewN ?_ _) | (with_reducible refine Kd.C_drew ?_))); (case side2 => exact (Kd.R_reads' HO_307001.out).2.1); rintro e w87 ⟨v320, rfl, ho0, hb⟩; refine ⟨_, rfl, ?_⟩; have n0_ := Aside0.mk (Kd.R_elder' (by (with_reducible repeat (first | apply Kd.R_alloc | apply Kd.R_drewN | apply Kd.R_drew)); exact HO_307001.out) (Kd.R_base ho0) hb); have n1_ := Aside0.mk (Kd.R_lower (Kd.R_newB (Kd.R_new' ho0 (Kd.R_lt (by (with_reducible repeat (first | apply Kd.R_alloc | apply Kd.R_drewN | apply Kd.R_drew)); exact HO_307001.out))) (g := gb312) (o := .cells #[.int .i64 ((rd_T53 l1 x56_3).f0), .int .i64 ((rd_T53 l1 x56_3).f1), .int .i64 ((rd_T53 l1 x56_3).f2)] 53 (0, 0)) (by (with_reducible repeat (first | refine blk_drewN ?_ _ | refine blk_drew ?_ | refine blk_alloc ?_ _)); exact BK312.out)) (below_size (by repeat (first | (with_reducible first | exact HB.out | apply below_alloc | apply pw_below_drewN | apply below_drew1 | refine below_set ?_ GE300.out | refine below_set ?_ GE306.out | refine below_set ?_ GE312.out) | exact HB.out)))); have n2_ := Aside0.mk (blk_below (g := gb300) (o := .cells #[.int .i64 x301000_2, .slice none 0 0] 24 (0, 0)) (by (with_reducible repeat (first | refine blk_drewN ?_ _ | refine blk_drew ?_ | refine blk_alloc ?_ _)); exact BK300.out) hb); have n3_ := Aside0.mk (blk_below (g := gb306) (o := .cells #[.int .i64 x307000_3, .slice Ao83 x307001_3.length co83] 24 (0, 0)) (by (with_reducible repeat (first | refine blk_drewN ?_ _ | refine blk_drew ?_ | refine blk_alloc ?_ _)); exact BK306.out) hb); have n4_ := Aside0.mk (blk_below (g := gb312) (o := .cells #[.int .i64 ((rd_T53 l1 x56_3).f0), .int .i64 ((rd_T53 l1 x56_3).f1), .int .i64 ((rd_T53 l1 x56_3).f2)] 53 (0, 0)) (by (with_reducible repeat (first | refine blk_drewN ?_ _ | refine blk_drew ?_ | refine blk_alloc ?_ _)); exact BK312.out) hb); have n5_ := Aside0.mk (below_step (by repeat (first | (with_reducible first | exact HB.out | apply below_alloc | apply pw_below_drewN | apply below_drew1 | refine below_set ?_ GE300.out | refine below_set ?_ GE306.out | refine below_set ?_ GE312.out) | exact HB.out)) hb); clear HO_307001; clear BK300; clear BK306; clear BK312; clear HB; have HO_307001 := n0_; have HO321 := n1_; have BK300 := n2_; have BK306 := n3_; have BK312 := n4_; have HB := n5_; clear n0_ n1_ n2_ n3_ n4_ n5_; (try clear hb); (try clear hb2); (try clear hk); (try clear hi); (try clear ho0); have hcz88_0 : w87.cell? ⟨gb306, 0, none⟩ = some (.int .i64 x307000_3) := (blk_cell BK306.out 0).trans rfl; have hcz88_1 : w87.cell? ⟨gb306, 1, none⟩ = some (.slice Ao83 x307001_3.length co83) := (blk_cell BK306.out 1).trans rfl; have hfz88_0 := blk_frozen BK306.out 0; have hfz88_1 := blk_frozen BK306.out 1; obtain ⟨Ao89, co89, eo89⟩ := Kd.R_slice HO321.out; subst eo89))
             go_roundg k3
             case measure => have := HJ3.out; have := HK2.out; have := HK3.out; omega
             case rel => exact ⟨(x11_3), (wrap64 (x56_3 + 1)), (t318), (t319), (.slice Ao89 t319.length co89), (by first | rfl | (simp; done) | (simp [*]; done)), (by first | rfl | (simp; done) | (simp [*]; done)), H', ⟨by have := HJ3.out; have := HK2.out; have := HK3.out; omega⟩, ⟨by (with_reducible repeat (first | apply Kd.R_alloc | apply Kd.R_drewN | apply Kd.R_drew)); exact Kd.R_mono (Kd.R_far (p := ⟨gb306, 1, none⟩) (Kd.R_far (p := ⟨gb306, 0, none⟩) (Kd.R_types HO321.out BK306.out (by decide)) (fun _ hk => hk.2) (.int .i64 t318)) (fun _ hk => hk.2) (.slice Ao89 t319.length co89)) (fun _ hk => trivial)⟩, ⟨by (with_reducible repeat (first | refine blk_drewN ?_ _ | refine blk_drew ?_ | refine blk_alloc ?_ _)); refine blk_far ?_ NB300_306.out _; (with_reducible repeat (first | refine blk_drewN ?_ _ | refine blk_drew ?_ | refine blk_alloc ?_ _)); refine blk_far ?_ NB300_306.out _; (with_reducible repeat (first | refine blk_drewN ?_ _ | refine blk_drew ?_ | refine blk_alloc ?_ _)); exact BK300.out⟩, ⟨by (with_reducible repeat (first | refine blk_drewN ?_ _ | refine blk_drew ?_ | refine blk_alloc ?_ _)); refine blk_put (cs := #[.int .i64 t318, .slice Ao83 x307001_3.length co83]) ?_ 1 _ rfl; (with_reducible repeat (first | refine blk_drewN ?_ _ | refine blk_drew ?_ | refine blk_alloc ?_ _)); refine blk_put (cs := #[.int .i64 x307000_3, .slice Ao83 x307001_3.length co83]) ?_ 0 _ rfl; (with_reducible repeat (first | refine blk_drewN ?_ _ | refine blk_drew ?_ | refine blk_alloc ?_ _)); exact BK306.out⟩, ⟨by repeat (first | (with_reducible first | exact HB.out | apply below_alloc | apply pw_below_drewN | apply below_drew1 | refine below_set ?_ GE300.out | refine below_set ?_ GE306.out | refine below_set ?_ GE312.out) | exact HB.out)⟩⟩
           ·rw [if_neg c59] at H
            exact absurd H (by simp)
          ·rw [if_neg c58] at H
           exact absurd H (by simp)
         ·rw [if_neg c57] at H
          have c57b0 : decide (x56_3 < (l1.length : Int)) = false := decide_eq_false c57
          clear c57
          simp only [Option.some.injEq, Prod.mk.injEq] at H
          obtain ⟨rfl, rfl, rfl, rfl⟩ := H
          have hnb90 := NB306_300.out
          have hnc90 := NB300_306.out
          have hcz91_0 : wr.cell? ⟨gb306, 0, none⟩ = some (.int .i64 x307000_3) := (blk_cell BK306.out 0).trans rfl
          have hcz91_1 : wr.cell? ⟨gb306, 1, none⟩ = some (u307001) := (blk_cell BK306.out 1).trans rfl
          have hfz91_0 := blk_frozen BK306.out 0
          have hfz91_1 := blk_frozen BK306.out 1
          have hcz92_0 : wr.cell? ⟨gb300, 0, none⟩ = some (.int .i64 x301000_2) := (blk_cell BK300.out 0).trans rfl
          have hcz92_1 : wr.cell? ⟨gb300, 1, none⟩ = some (.slice none 0 0) := (blk_cell BK300.out 1).trans rfl
          have hfz92_0 := blk_frozen BK300.out 0
          have hfz92_1 := blk_frozen BK300.out 1
          obtain ⟨Ao93, co93, eo93⟩ := Kd.R_slice HO_307001.out
          subst eo93
          go_wp2
          refine bodyPost_ret (results_ctt rfl _ _ gb300 24 #[.int .i64 x307000_3, .slice Ao93 x307001_3.length co93] (0, 0) _ rfl (by (with_reducible repeat (first | refine blk_drewN ?_ _ | refine blk_drew ?_ | refine blk_alloc ?_ _)); refine blk_put (cs := #[.int .i64 x307000_3, .slice none 0 0]) ?_ 1 _ rfl; (with_reducible repeat (first | refine blk_drewN ?_ _ | refine blk_drew ?_ | refine blk_alloc ?_ _)); refine blk_put (cs := #[.int .i64 x301000_2, .slice none 0 0]) ?_ 0 _ rfl; (with_reducible repeat (first | refine blk_drewN ?_ _ | refine blk_drew ?_ | refine blk_alloc ?_ _)); exact BK300.out) Try.underlying24 rfl (by kernel_rfl)) rfl ?_
          exact ⟨_, by first | rfl | (simp [errW_none, errW_some] <;> rfl) | (simp [*, errW_none, errW_some] <;> rfl), by (with_reducible repeat (first | apply Kd.R_alloc | apply Kd.R_drewN | apply Kd.R_drew)); exact Kd.R_mono (Kd.R_far (p := ⟨gb300, 1, none⟩) (Kd.R_far (p := ⟨gb300, 0, none⟩) (Kd.R_types HO_307001.out BK300.out (by decide)) (fun _ hk => hk.2) (.int .i64 x307000_3)) (fun _ hk => hk.2) (.slice Ao93 x307001_3.length co93)) (fun _ hk => trivial), by repeat (first | (with_reducible first | exact HB.out | apply below_alloc | apply pw_below_drewN | apply below_drew1 | refine below_set ?_ GE300.out | refine below_set ?_ GE306.out) | exact HB.out)⟩
end Go.Proofs.Ytcbofebikbbknaa.P

namespace Go.Proofs.Ytcbofebikbbknaa.P
open Go.RowKit Go.Proofs.YtcbofebikbbknaaW.PrintWords Go.Proofs.YtcbofebikbbknaaW.PrintLast Go.Proofs.YtcbofebikbbknaaW.PrintMore
attribute [local go_sem] max2_int min2_int max_two min_two max_three min_three max_four min_four   -- for this text's walks alone
set_option linter.unusedVariables false
set_option linter.unusedSimpArgs false
def impl_HitsIn.f (k : Nat) (a0 : Int) (l1 : List (S53)) : Option (Int × Bool) := (impl_heard.f k a0 l1).bind fun bt322 => (some (bt322.2.2.1, bt322.2.2.2))
set_option maxHeartbeats 8000000 in
set_option maxRecDepth 100000 in
theorem impl_HitsIn.calls (k : Nat) (a0 : Int) (A1 : Option Addr) (c1 : Nat) (l1 : List (S53)) (r1 : Int) (r2 : Bool) (w : World) (hr1 : Kd.C k53 w A1 l1.length l1) (hc1 : l1.length ≤ c1) (h : impl_HitsIn.f k a0 l1 = some (r1, r2)) :
  Calls Try.prog 26 #[.int .i64 a0, .slice A1 l1.length c1] w fun e w' => e = .returned (.tuple #[.int .i64 r1, .bool r2]) ∧ Below w.heap.size w w' := by
 have hu24 := Try.underlying24
 have HR1 := Aside0.mk hr1
 have HC1 := Aside0.mk hc1
 clear hr1 hc1
 have HB := Aside0.mk (Below.refl w.heap.size w)
 have H : ((impl_heard.f k a0 l1).bind fun bt322 => (some (bt322.2.2.1, bt322.2.2.2))) = some (r1, r2) := h
 clear h
 replace H := Option.bind_eq_some_iff.mp H
 obtain ⟨⟨t322, t323, t326, t327⟩, A30, H⟩ := H
 replace H : (some (t326, t327)) = some (r1, r2) := H
 have A3 := Aside0.mk A30
 clear A30
 simp only [Option.some.injEq, Prod.mk.injEq] at H
 obtain ⟨rfl, rfl⟩ := H
 go_enter Try.func26, Try.ntmps26
 go_wp2_with (first | ((with_reducible refine gate_callee (f := 50) rfl ?_); refine goesL_ (some 12) rfl rfl Try.func50 (by kernel_rfl) rfl #[.int .i64 a0, .slice A1 l1.length c1] rfl (by (try simp only [List.map_toArray, List.map_cons, List.map_nil]); first | done | rfl | (simp only [List.length_drop, List.length_take]; rfl)) ?_; (with_reducible refine (impl_heard.calls k a0 _ _ l1 t322 t323 t326 t327 _ ?side1 ?side2 A3.out).mono ?_); (case side1 => repeat (first | exact HR1.out | (with_reducible refine Kd.C_alloc ?_ _) | (with_reducible refine Kd.C_drewN ?_ _) | (with_reducible refine Kd.C_drew ?_))); (case side2 => exact HC1.out); rintro e w4 ⟨v324, rfl, ho0, hb⟩; refine ⟨_, rfl, ?_⟩; have n0_ := Aside0.mk (Kd.R_lower ho0 (below_size (by repeat (first | (with_reducible first | exact HB.out | apply below_alloc | apply pw_below_drewN | apply below_drew1) | exact HB.out)))); have n1_ := Aside0.mk (below_step (by repeat (first | (with_reducible first | exact HB.out | apply below_alloc | apply pw_below_drewN | apply below_drew1) | exact HB.out)) hb); clear HB; have HO325 := n0_; have HB := n1_; clear n0_ n1_; (try clear hb); (try clear hb2); (try clear hk); (try clear hi); (try clear ho0)) | ((with_reducible refine gate_dst (N := 6) rfl ?_); refine box_event ?hg (N := 6) ?hd (cs := #[.int .i64 0, .slice none 0 0]) (t := 24) ?hr ?_; (case hd => rfl); (case hg => rfl); (case hr => first | (go_simp; done) | (go_simp; rfl)); intro gb328 hg w5 hbox hb; have n0_ := Aside0.mk (Kd.R_below (by (with_reducible repeat (first | apply Kd.R_alloc | apply Kd.R_drewN | apply Kd.R_drew)); exact HO325.out) hb); have n1_ := Aside0.mk (below_step (by repeat (first | (with_reducible first | exact HB.out | apply below_alloc | apply pw_below_drewN | apply below_drew1) | exact HB.out)) hb); have n2_ := Aside0.mk (hbox); have n3_ := Aside0.mk ((by rw [hg]; exact (below_size (by repeat (first | (with_reducible first | exact HB.out | apply below_alloc | apply pw_below_drewN | apply below_drew1) | exact HB.out))) : w.heap.size ≤ gb328)); have n4_ := Aside0.mk ((by rw [hg]; exact (below_size (by repeat (first | (with_reducible first | exact HB.out | apply below_alloc | apply pw_below_drewN | apply below_drew1) | exact HB.out))) : w.heap.size ≤ gb328)); clear HO325; clear HB; have HO325 := n0_; have HB := n1_; have BK328 := n2_; have GW328 := n3_; have GE328 := n4_; clear n0_ n1_ n2_ n3_ n4_; clear hb hbox hg; have hcz6_0 : w5.cell? ⟨gb328, 0, none⟩ = some (.int .i64 0) := (blk_cell BK328.out 0).trans rfl; have hcz6_1 : w5.cell? ⟨gb328, 1, none⟩ = some (.slice none 0 0) := (blk_cell BK328.out 1).trans rfl; have hfz6_0 := blk_frozen BK328.out 0; have hfz6_1 := blk_frozen BK328.out 1; obtain ⟨Ao7, co7, eo7⟩ := Kd.R_slice HO325.out; subst eo7))
 go_ret2
 exact ⟨by first | rfl | (simp [errW_none, errW_some] <;> rfl) | (simp [*, errW_none, errW_some] <;> rfl), by repeat (first | (with_reducible first | exact HB.out | apply below_alloc | apply pw_below_drewN | apply below_drew1 | refine below_set ?_ GE328.out) | exact HB.out)⟩
def laws_FnExactHitsIn.j0 : Nat → List (S51) → List (S53) → Bool → Option (Bool)
 | 0, _, _, _ => none
 | k + 1, x1, x8, x38 => if x38 = true then (some false) else ((laws_toSeenS.f k x1).bind fun t340 => ((laws_eqSeenS.f k x8 t340).bind fun t343 => (if t343 = true then (some true) else (some false))))
def laws_FnExactHitsIn.f (k : Nat) (a0 : Int) (l1 : List (S51)) : Option (Bool) := (laws_szSeenS.f l1 1048576).bind fun t329 => (if t329 < 0 then (some true) else ((laws_toSeenS.f k l1).bind fun t330 => ((spec_HitsIn.f k a0 t330).bind fun bt333 => ((laws_toSeenS.f k l1).bind fun t335 => ((impl_HitsIn.f k a0 t335).bind fun bt338 => (if bt338.1 = bt333.1 then (laws_FnExactHitsIn.j0 k l1 t335 (bt338.2 != bt333.2)) else (laws_FnExactHitsIn.j0 k l1 t335 true)))))))
set_option maxHeartbeats 8000000 in
set_option maxRecDepth 100000 in
theorem laws_FnExactHitsIn.calls (k : Nat) (a0 : Int) (A1 : Option Addr) (c1 : Nat) (l1 : List (S51)) (r : Bool) (w : World) (hr1 : Kd.C k51 w A1 l1.length l1) (hc1 : l1.length ≤ c1) (h : laws_FnExactHitsIn.f k a0 l1 = some r) :
  Calls Try.prog 6 #[.int .i64 a0, .slice A1 l1.length c1] w fun e w' => e = .returned (.bool r) ∧ Below w.heap.size w w' := by
 have HR1 := Aside0.mk hr1
 have HC1 := Aside0.mk hc1
 clear hr1 hc1
 have HB := Aside0.mk (Below.refl w.heap.size w)
 have H : ((laws_szSeenS.f l1 1048576).bind fun t329 => (if t329 < 0 then (some true) else ((laws_toSeenS.f k l1).bind fun t330 => ((spec_HitsIn.f k a0 t330).bind fun bt333 => ((laws_toSeenS.f k l1).bind fun t335 => ((impl_HitsIn.f k a0 t335).bind fun bt338 => (if bt338.1 = bt333.1 then (laws_FnExactHitsIn.j0 k l1 t335 (bt338.2 != bt333.2)) else (laws_FnExactHitsIn.j0 k l1 t335 true)))))))) = some r := h
 clear h
 replace H := Option.bind_eq_some_iff.mp H
 obtain ⟨t329, A30, H⟩ := H
 replace H : (if t329 < 0 then (some true) else ((laws_toSeenS.f k l1).bind fun t330 => ((spec_HitsIn.f k a0 t330).bind fun bt333 => ((laws_toSeenS.f k l1).bind fun t335 => ((impl_HitsIn.f k a0 t335).bind fun bt338 => (if bt338.1 = bt333.1 then (laws_FnExactHitsIn.j0 k l1 t335 (bt338.2 != bt333.2)) else (laws_FnExactHitsIn.j0 k l1 t335 true))))))) = some r := H
 have A3 := Aside0.mk A30
 clear A30
 by_cases c4 : t329 < 0
 ·rw [if_pos c4] at H
  have c4b0 : decide (t329 < 0) = true := decide_eq_true c4
  clear c4
  obtain rfl := Option.some.inj H
  go_enter Try.func6, Try.ntmps6
  go_wp2_with (first | ((with_reducible refine gate_callee (f := 23) rfl ?_); refine goesL_ (some 13) rfl rfl Try.func23 (by kernel_rfl) rfl #[.slice A1 l1.length c1, .int .i64 1048576] rfl (by (try simp only [List.map_toArray, List.map_cons, List.map_nil]); first | done | rfl | (simp only [List.length_drop, List.length_take]; rfl)) ?_; (with_reducible refine (laws_szSeenS.calls _ _ l1 1048576 t329 _ ?side1 ?side2 A3.out).mono ?_); (case side1 => repeat (first | exact HR1.out | (with_reducible refine Kd.C_alloc ?_ _) | (with_reducible refine Kd.C_drewN ?_ _) | (with_reducible refine Kd.C_drew ?_))); (case side2 => exact HC1.out); rintro e w' ⟨rfl, ⟨nd, rfl⟩⟩; refine ⟨_, rfl, ?_⟩))
  go_ret
  exact ⟨by first | rfl | (simp [errW_none, errW_some] <;> rfl) | (simp [*, errW_none, errW_some] <;> rfl), by repeat (first | (with_reducible first | exact HB.out | apply below_alloc | apply pw_below_drewN | apply below_drew1) | exact HB.out)⟩
 ·rw [if_neg c4] at H
  have c4b0 : decide (t329 < 0) = false := decide_eq_false c4
  clear c4
  replace H := Option.bind_eq_some_iff.mp H
  obtain ⟨t330, A50, H⟩ := H
  replace H : ((spec_HitsIn.f k a0 t330).bind fun bt333 => ((laws_toSeenS.f k l1).bind fun t335 => ((impl_HitsIn.f k a0 t335).bind fun bt338 => (if bt338.1 = bt333.1 then (laws_FnExactHitsIn.j0 k l1 t335 (bt338.2 != bt333.2)) else (laws_FnExactHitsIn.j0 k l1 t335 true))))) = some r := H
  have A5 := Aside0.mk A50
  clear A50
  replace H := Option.bind_eq_some_iff.mp H
  obtain ⟨⟨t333, t334⟩, A60, H⟩ := H
  replace H : ((laws_toSeenS.f k l1).bind fun t335 => ((impl_HitsIn.f k a0 t335).bind fun bt338 => (if bt338.1 = t333 then (laws_FnExactHitsIn.j0 k l1 t335 (bt338.2 != t334)) else (laws_FnExactHitsIn.j0 k l1 t335 true)))) = some r := H
  have A6 := Aside0.mk A60
  clear A60
  replace H := Option.bind_eq_some_iff.mp H
  obtain ⟨t335, A70, H⟩ := H
  replace H : ((impl_HitsIn.f k a0 t335).bind fun bt338 => (if bt338.1 = t333 then (laws_FnExactHitsIn.j0 k l1 t335 (bt338.2 != t334)) else (laws_FnExactHitsIn.j0 k l1 t335 true))) = some r := H
  have A7 := Aside0.mk A70
  clear A70
  replace H := Option.bind_eq_some_iff.mp H
  obtain ⟨⟨t338, t339⟩, A80, H⟩ := H
  replace H : (if t338 = t333 then (laws_FnExactHitsIn.j0 k l1 t335 (t339 != t334)) else (laws_FnExactHitsIn.j0 k l1 t335 true)) = some r := H
  have A8 := Aside0.mk A80
  clear A80
  have HC9 := Aside0.mk H
  clear H
  go_enter Try.func6, Try.ntmps6
  go_upto_region 8 with (first | ((with_reducible refine gate_callee (f := 23) rfl ?_); refine goesL_ (some 13) rfl rfl Try.func23 (by kernel_rfl) rfl #[.slice A1 l1.length c1, .int .i64 1048576] rfl (by (try simp only [List.map_toArray, List.map_cons, List.map_nil]); first | done | rfl | (simp only [List.length_drop, List.length_take]; rfl)) ?_; (with_reducible refine (laws_szSeenS.calls _ _ l1 1048576 t329 _ ?side1 ?side2 A3.out).mono ?_); (case side1 => repeat (first | exact HR1.out | (with_reducible refine Kd.C_alloc ?_ _) | (with_reducible refine Kd.C_drewN ?_ _) | (with_reducible refine Kd.C_drew ?_))); (case side2 => exact HC1.out); rintro e w' ⟨rfl, ⟨nd, rfl⟩⟩; refine ⟨_, rfl, ?_⟩) | ((with_reducible refine gate_callee (f := 25) rfl ?_); refine goesL_ (some 19) rfl rfl Try.func25 (by kernel_rfl) rfl #[.slice A1 l1.length c1] rfl (by (try simp only [List.map_toArray, List.map_cons, List.map_nil]); first | done | rfl | (simp only [List.length_drop, List.length_take]; rfl)) ?_; (with_reducible refine (laws_toSeenS.calls k _ _ l1 t330 _ ?side1 ?side2 A5.out).mono ?_); (case side1 => repeat (first | exact HR1.out | (with_reducible refine Kd.C_alloc ?_ _) | (with_reducible refine Kd.C_drewN ?_ _) | (with_reducible refine Kd.C_drew ?_))); (case side2 => exact HC1.out); rintro e w10 ⟨v331, rfl, ho0, hb⟩; refine ⟨_, rfl, ?_⟩; have n0_ := Aside0.mk (Kd.R_lower ho0 (below_size (by repeat (first | (with_reducible first | exact HB.out | apply below_alloc | apply pw_below_drewN | apply below_drew1) | exact HB.out)))); have n1_ := Aside0.mk (below_step (by repeat (first | (with_reducible first | exact HB.out | apply below_alloc | apply pw_below_drewN | apply below_drew1) | exact HB.out)) hb); clear HB; have HO332 := n0_; have HB := n1_; clear n0_ n1_; (try clear hb); (try clear hb2); (try clear hk); (try clear hi); (try clear ho0); obtain ⟨Ao11, co11, eo11⟩ := Kd.R_slice HO332.out; subst eo11) | ((with_reducible refine gate_callee (f := 24) rfl ?_); refine goesL_ (some 20) rfl rfl Try.func24 (by kernel_rfl) rfl #[.int .i64 a0, .slice Ao11 t330.length co11] rfl (by (try simp only [List.map_toArray, List.map_cons, List.map_nil]); first | done | rfl | (simp only [List.length_drop, List.length_take]; rfl)) ?_; (with_reducible refine (spec_HitsIn.calls k a0 _ _ t330 t333 t334 _ ?side1 ?side2 A6.out).mono ?_); (case side1 => repeat (first | exact (Kd.R_reads' HO332.out).2.2 | (with_reducible refine Kd.C_alloc ?_ _) | (with_reducible refine Kd.C_drewN ?_ _) | (with_reducible refine Kd.C_drew ?_))); (case side2 => exact (Kd.R_reads' HO332.out).2.1); rintro e w12 ⟨rfl, hb⟩; refine ⟨_, rfl, ?_⟩; have n0_ := Aside0.mk (Kd.R_below (by (with_reducible repeat (first | apply Kd.R_alloc | apply Kd.R_drewN | apply Kd.R_drew)); exact HO332.out) hb); have n1_ := Aside0.mk (below_step (by repeat (first | (with_reducible first | exact HB.out | apply below_alloc | apply pw_below_drewN | apply below_drew1) | exact HB.out)) hb); clear HO332; clear HB; have HO332 := n0_; have HB := n1_; clear n0_ n1_; (try clear hb); (try clear hb2); (try clear hk); (try clear hi)) | ((with_reducible refine gate_callee (f := 25) rfl ?_); refine goesL_ (some 24) rfl rfl Try.func25 (by kernel_rfl) rfl #[.slice A1 l1.length c1] rfl (by (try simp only [List.map_toArray, List.map_cons, List.map_nil]); first | done | rfl | (simp only [List.length_drop, List.length_take]; rfl)) ?_; (with_reducible refine (laws_toSeenS.calls k _ _ l1 t335 _ ?side1 ?side2 A7.out).mono ?_); (case side1 => repeat (first | exact (Kd.C_below HR1.out HB.out) | (with_reducible refine Kd.C_alloc ?_ _) | (with_reducible refine Kd.C_drewN ?_ _) | (with_reducible refine Kd.C_drew ?_))); (case side2 => exact HC1.out); rintro e w13 ⟨v336, rfl, ho0, hb⟩; refine ⟨_, rfl, ?_⟩; have n0_ := Aside0.mk (Kd.R_elder' (by (with_reducible repeat (first | apply Kd.R_alloc | apply Kd.R_drewN | apply Kd.R_drew)); exact HO332.out) (Kd.R_base ho0) hb); have n1_ := Aside0.mk (Kd.R_lower (Kd.R_new' ho0 (Kd.R_lt (by (with_reducible repeat (first | apply Kd.R_alloc | apply Kd.R_drewN | apply Kd.R_drew)); exact HO332.out))) (below_size (by repeat (first | (with_reducible first | exact HB.out | apply below_alloc | apply pw_below_drewN | apply below_drew1) | exact HB.out)))); have n2_ := Aside0.mk (below_step (by repeat (first | (with_reducible first | exact HB.out | apply below_alloc | apply pw_below_drewN | apply below_drew1) | exact HB.out)) hb); clear HO332; clear HB; have HO332 := n0_; have HO337 := n1_; have HB := n2_; clear n0_ n1_ n2_; (try clear hb); (try clear hb2); (try clear hk); (try clear hi); (try clear ho0); obtain ⟨Ao14, co14, eo14⟩ := Kd.R_slice HO337.out; subst eo14) | ((with_reducible refine gate_callee (f := 26) rfl ?_); refine goesL_ (some 28) rfl rfl Try.func26 (by kernel_rfl) rfl #[.int .i64 a0, .slice Ao14 t335.length co14] rfl (by (try simp only [List.map_toArray, List.map_cons, List.map_nil]); first | done | rfl | (simp only [List.length_drop, List.length_take]; rfl)) ?_; (with_reducible refine (impl_HitsIn.calls k a0 _ _ t335 t338 t339 _ ?side1 ?side2 A8.out).mono ?_); (case side1 => repeat (first | exact (Kd.R_reads' HO337.out).2.2 | (with_reducible refine Kd.C_alloc ?_ _) | (with_reducible refine Kd.C_drewN ?_ _) | (with_reducible refine Kd.C_drew ?_))); (case side2 => exact (Kd.R_reads' HO337.out).2.1); rintro e w15 ⟨rfl, hb⟩; refine ⟨_, rfl, ?_⟩; have n0_ := Aside0.mk (Kd.R_below (by (with_reducible repeat (first | apply Kd.R_alloc | apply Kd.R_drewN | apply Kd.R_drew)); exact HO332.out) hb); have n1_ := Aside0.mk (Kd.R_below (by (with_reducible repeat (first | apply Kd.R_alloc | apply Kd.R_drewN | apply Kd.R_drew)); exact HO337.out) hb); have n2_ := Aside0.mk (below_step (by repeat (first | (with_reducible first | exact HB.out | apply below_alloc | apply pw_below_drewN | apply below_drew1) | exact HB.out)) hb); clear HO332; clear HO337; clear HB; have HO332 := n0_; have HO337 := n1_; have HB := n2_; clear n0_ n1_ n2_; (try clear hb); (try clear hb2); (try clear hk); (try clear hi)))
  (try simp only [Act.put, List.setIfInBounds_toArray, List.set_cons_zero, List.set_cons_succ])
  go_cut [38] (fun v38 wc => ∃ (kq : Nat) (x38_8 : Bool), v38 = .bool x38_8 ∧ Aside0 (laws_FnExactHitsIn.j0 kq l1 t335 x38_8 = some r) ∧ Aside0 (kq ≤ k) ∧ Aside0 (Kd.R k53 53 wc w.heap.size (fun _ => True) (.slice Ao14 t335.length co14) t335) ∧ Aside0 (Below w.heap.size w wc))
  case first =>
   have H := HC9.out
   clear HC9
   by_cases c16 : t338 = t333
   ·rw [if_pos c16] at H
    have c16b0 : (t338 == t333) = true := beq_iff_eq.mpr c16
    have c16b1 : (t338 != t333) = false := bne_eq_false_iff_eq.mpr c16
    clear c16
    (first | rw [c16b0] | (simp only [i64_w, i32_w]; rw [c16b0]) | skip)
    have H' := Aside0.mk H
    clear H
    go_wp2
    go_meet
    case rel => exact ⟨_, ((t339 != t334)), (by first | rfl | (simp; done) | (simp [*]; done)), H', ⟨by first | omega | exact Nat.le_refl _⟩, ⟨by (with_reducible repeat (first | apply Kd.R_alloc | apply Kd.R_drewN | apply Kd.R_drew)); exact Kd.R_mono HO337.out (fun _ hk => trivial)⟩, ⟨by repeat (first | (with_reducible first | exact HB.out | apply below_alloc | apply pw_below_drewN | apply below_drew1) | exact HB.out)⟩⟩
   ·rw [if_neg c16] at H
    have c16b0 : (t338 == t333) = false := beq_eq_false_iff_ne.mpr c16
    have c16b1 : (t338 != t333) = true := bne_iff_ne.mpr c16
    (first | rw [c16b0] | (simp only [i64_w, i32_w]; rw [c16b0]) | skip)
    have H' := Aside0.mk H
    clear H
    go_wp2
    go_meet
    case rel => exact ⟨_, (true), (by first | rfl | (simp; done) | (simp [*]; done)), H', ⟨by first | omega | exact Nat.le_refl _⟩, ⟨by (with_reducible repeat (first | apply Kd.R_alloc | apply Kd.R_drewN | apply Kd.R_drew)); exact Kd.R_mono HO337.out (fun _ hk => trivial)⟩, ⟨by repeat (first | (with_reducible first | exact HB.out | apply below_alloc | apply pw_below_drewN | apply below_drew1) | exact HB.out)⟩⟩
  case rest =>
   clear HC9
   try clear c1
   try clear c2
   try clear p2
   try clear c4
   try clear c4b0
   try clear c6
   try clear c16
   try clear c16b0
   try clear c16b1
   obtain ⟨kq, x38_8, rfl, HA, HJ8, HO_8, HB⟩ := hcut
   cases kq with
   | zero => exact absurd HA.out (by simp [laws_FnExactHitsIn.j0])
   | succ kj8 =>
    have H := HA.out
    clear HA
    simp only [laws_FnExactHitsIn.j0] at H
    by_cases c17 : x38_8 = true
    ·subst c17
     have H1 : (some false) = some r := by rw [if_pos rfl] at H; exact H
     clear H
     have H := H1
     clear H1
     obtain rfl := Option.some.inj H
     go_wp2
     go_ret
     exact ⟨by first | rfl | (simp [errW_none, errW_some] <;> rfl) | (simp [*, errW_none, errW_some] <;> rfl), by repeat (first | (with_reducible first | exact HB.out | apply below_alloc | apply pw_below_drewN | apply below_drew1) | exact HB.out)⟩
    ·replace c17 := Bool.eq_false_iff.mpr c17
     subst c17
     have H1 : ((laws_toSeenS.f kj8 l1).bind fun t340 => ((laws_eqSeenS.f kj8 t335 t340).bind fun t343 => (if t343 = true then (some true) else (some false)))) = some r := by rw [if_neg (show ¬ (false = true) by decide)] at H; exact H
     clear H
     have H := H1
     clear H1
     replace H := Option.bind_eq_some_iff.mp H
     obtain ⟨t340, A180, H⟩ := H
     replace H : ((laws_eqSeenS.f kj8 t335 t340).bind fun t343 => (if t343 = true then (some true) else (some false))) = some r := H
     have A18 := Aside0.mk A180
     clear A180
     replace H := Option.bind_eq_some_iff.mp H
     obtain ⟨t343, A190, H⟩ := H
     replace H : (if t343 = true then (some true) else (some false)) = some r := H
     have A19 := Aside0.mk A190
     clear A190
     by_cases c20 : t343 = true
     ·subst c20
      have H1 : (some true) = some r := by rw [if_pos rfl] at H; exact H
      clear H
      have H := H1
      clear H1
      obtain rfl := Option.some.inj H
      go_wp2_with (first | ((with_reducible refine gate_callee (f := 25) rfl ?_); refine goesL_ (some 41) rfl rfl Try.func25 (by kernel_rfl) rfl #[.slice A1 l1.length c1] rfl (by (try simp only [List.map_toArray, List.map_cons, List.map_nil]); first | done | rfl | (simp only [List.length_drop, List.length_take]; rfl)) ?_; (with_reducible refine (laws_toSeenS.calls kj8 _ _ l1 t340 _ ?side1 ?side2 A18.out).mono ?_); (case side1 => repeat (first | exact (Kd.C_below HR1.out HB.out) | (with_reducible refine Kd.C_alloc ?_ _) | (with_reducible refine Kd.C_drewN ?_ _) | (with_reducible refine Kd.C_drew ?_))); (case side2 => exact HC1.out); rintro e w21 ⟨v341, rfl, ho0, hb⟩; refine ⟨_, rfl, ?_⟩; have n0_ := Aside0.mk (Kd.R_elder' (by (with_reducible repeat (first | apply Kd.R_alloc | apply Kd.R_drewN | apply Kd.R_drew)); exact HO_8.out) (Kd.R_base ho0) hb); have n1_ := Aside0.mk (Kd.R_lower (Kd.R_new' ho0 (Kd.R_lt (by (with_reducible repeat (first | apply Kd.R_alloc | apply Kd.R_drewN | apply Kd.R_drew)); exact HO_8.out))) (below_size (by repeat (first | (with_reducible first | exact HB.out | apply below_alloc | apply pw_below_drewN | apply below_drew1) | exact HB.out)))); have n2_ := Aside0.mk (below_step (by repeat (first | (with_reducible first | exact HB.out | apply below_alloc | apply pw_below_drewN | apply below_drew1) | exact HB.out)) hb); clear HO_8; clear HB; have HO_8 := n0_; have HO342 := n1_; have HB := n2_; clear n0_ n1_ n2_; (try clear hb); (try clear hb2); (try clear hk); (try clear hi); (try clear ho0); obtain ⟨Ao22, co22, eo22⟩ := Kd.R_slice HO342.out; subst eo22) | ((with_reducible refine gate_callee (f := 27) rfl ?_); refine goesL_ (some 42) rfl rfl Try.func27 (by kernel_rfl) rfl #[.slice Ao14 t335.length co14, .slice Ao22 t340.length co22] rfl (by (try simp only [List.map_toArray, List.map_cons, List.map_nil]); first | done | rfl | (simp only [List.length_drop, List.length_take]; rfl)) ?_; (with_reducible refine (laws_eqSeenS.calls kj8 _ _ t335 _ _ t340 true _ ?side1 ?side2 ?side3 ?side4 A19.out).mono ?_); (case side1 => repeat (first | exact (Kd.R_reads' HO_8.out).2.2 | (with_reducible refine Kd.C_alloc ?_ _) | (with_reducible refine Kd.C_drewN ?_ _) | (with_reducible refine Kd.C_drew ?_))); (case side2 => exact (Kd.R_reads' HO_8.out).2.1); (case side3 => repeat (first | exact (Kd.R_reads' HO342.out).2.2 | (with_reducible refine Kd.C_alloc ?_ _) | (with_reducible refine Kd.C_drewN ?_ _) | (with_reducible refine Kd.C_drew ?_))); (case side4 => exact (Kd.R_reads' HO342.out).2.1); rintro e w23 ⟨rfl, hb⟩; refine ⟨_, rfl, ?_⟩; have n0_ := Aside0.mk (Kd.R_below (by (with_reducible repeat (first | apply Kd.R_alloc | apply Kd.R_drewN | apply Kd.R_drew)); exact HO_8.out) hb); have n1_ := Aside0.mk (Kd.R_below (by (with_reducible repeat (first | apply Kd.R_alloc | apply Kd.R_drewN | apply Kd.R_drew)); exact HO342.out) hb); have n2_ := Aside0.mk (below_step (by repeat (first | (with_reducible first | exact HB.out | apply below_alloc | apply pw_below_drewN | apply below_drew1) | exact HB.out)) hb); clear HO_8; clear HO342; clear HB; have HO_8 := n0_; have HO342 := n1_; have HB := n2_; clear n0_ n1_ n2_; (try clear hb); (try clear hb2); (try clear hk); (try clear hi)))
      go_ret
      exact ⟨by first | rfl | (simp [errW_none, errW_some] <;> rfl) | (simp [*, errW_none, errW_some] <;> rfl), by repeat (first | (with_reducible first | exact HB.out | apply below_alloc | apply pw_below_drewN | apply below_drew1) | exact HB.out)⟩
     ·replace c20 := Bool.eq_false_iff.mpr c20
      subst c20
      have H1 : (some false) = some r := by rw [if_neg (show ¬ (false = true) by decide)] at H; exact H
      clear H
      have H := H1
      clear H1
      obtain rfl := Option.some.inj H
      go_wp2_with (first | ((with_reducible refine gate_callee (f := 25) rfl ?_); refine goesL_ (some 41) rfl rfl Try.func25 (by kernel_rfl) rfl #[.slice A1 l1.length c1] rfl (by (try simp only [List.map_toArray, List.map_cons, List.map_nil]); first | done | rfl | (simp only [List.length_drop, List.length_take]; rfl)) ?_; (with_reducible refine (laws_toSeenS.calls kj8 _ _ l1 t340 _ ?side1 ?side2 A18.out).mono ?_); (case side1 => repeat (first | exact (Kd.C_below HR1.out HB.out) | (with_reducible refine Kd.C_alloc ?_ _) | (with_reducible refine Kd.C_drewN ?_ _) | (with_reducible refine Kd.C_drew ?_))); (case side2 => exact HC1.out); rintro e w24 ⟨v341, rfl, ho0, hb⟩; refine ⟨_, rfl, ?_⟩; have n0_ := Aside0.mk (Kd.R_elder' (by (with_reducible repeat (first | apply Kd.R_alloc | apply Kd.R_drewN | apply Kd.R_drew)); exact HO_8.out) (Kd.R_base ho0) hb); have n1_ := Aside0.mk (Kd.R_lower (Kd.R_new' ho0 (Kd.R_lt (by (with_reducible repeat (first | apply Kd.R_alloc | apply Kd.R_drewN | apply Kd.R_drew)); exact HO_8.out))) (below_size (by repeat (first | (with_reducible first | exact HB.out | apply below_alloc | apply pw_below_drewN | apply below_drew1) | exact HB.out)))); have n2_ := Aside0.mk (below_step (by repeat (first | (with_reducible first | exact HB.out | apply below_alloc | apply pw_below_drewN | apply below_drew1) | exact HB.out)) hb); clear HO_8; clear HB; have HO_8 := n0_; have HO342 := n1_; have HB := n2_; clear n0_ n1_ n2_; (try clear hb); (try clear hb2); (try clear hk); (try clear hi); (try clear ho0); obtain ⟨Ao25, co25, eo25⟩ := Kd.R_slice HO342.out; subst eo25) | ((with_reducible refine gate_callee (f := 27) rfl ?_); refine goesL_ (some 42) rfl rfl Try.func27 (by kernel_rfl) rfl #[.slice Ao14 t335.length co14, .slice Ao25 t340.length co25] rfl (by (try simp only [List.map_toArray, List.map_cons, List.map_nil]); first | done | rfl | (simp only [List.length_drop, List.length_take]; rfl)) ?_; (with_reducible refine (laws_eqSeenS.calls kj8 _ _ t335 _ _ t340 false _ ?side1 ?side2 ?side3 ?side4 A19.out).mono ?_); (case side1 => repeat (first | exact (Kd.R_reads' HO_8.out).2.2 | (with_reducible refine Kd.C_alloc ?_ _) | (with_reducible refine Kd.C_drewN ?_ _) | (with_reducible refine Kd.C_drew ?_))); (case side2 => exact (Kd.R_reads' HO_8.out).2.1); (case side3 => repeat (first | exact (Kd.R_reads' HO342.out).2.2 | (with_reducible refine Kd.C_alloc ?_ _) | (with_reducible refine Kd.C_drewN ?_ _) | (with_reducible refine Kd.C_drew ?_))); (case side4 => exact (Kd.R_reads' HO342.out).2.1); rintro e w26 ⟨rfl, hb⟩; refine ⟨_, rfl, ?_⟩; have n0_ := Aside0.mk (Kd.R_below (by (with_reducible repeat (first | apply Kd.R_alloc | apply Kd.R_drewN | apply Kd.R_drew)); exact HO_8.out) hb); have n1_ := Aside0.mk (Kd.R_below (by (with_reducible repeat (first | apply Kd.R_alloc | apply Kd.R_drewN | apply Kd.R_drew)); exact HO342.out) hb); have n2_ := Aside0.mk (below_step (by repeat (first | (with_reducible first | exact HB.out | apply below_alloc | apply pw_below_drewN | apply below_drew1) | exact HB.out)) hb); clear HO_8; clear HO342; clear HB; have HO_8 := n0_; have HO342 := n1_; have HB := n2_; clear n0_ n1_ n2_; (try clear hb); (try clear hb2); (try clear hk); (try clear hi)))
      go_ret
      exact ⟨by first | rfl | (simp [errW_none, errW_some] <;> rfl) | (simp [*, errW_none, errW_some] <;> rfl), by repeat (first | (with_reducible first | exact HB.out | apply below_alloc | apply pw_below_drewN | apply below_drew1) | exact HB.out)⟩
end Go.Proofs.Ytcbofebikbbknaa.P

namespace Go.Proofs.Ytcbofebikbbknaa.P
open Go.RowKit Go.Proofs.YtcbofebikbbknaaW.PrintWords Go.Proofs.YtcbofebikbbknaaW.PrintLast
def wfS51 (s : S51) : Prop := (fun n : Int => (Lit.int .i64 n).wf = true) s.f0 ∧ (fun n : Int => (Lit.int .i64 n).wf = true) s.f1 ∧ (fun n : Int => (Lit.int .i64 n).wf = true) s.f2
/-- The one pure statement of laws_FnExactHitsIn. -/
def laws_FnExactHitsIn.Pure : Prop := ∀ (a0 : Int) (l1 : List (S51)), (fun n : Int => (Lit.int .i64 n).wf = true) a0 → (fun l : List (S51) => l.length ≤ maxLen ∧ ∀ x ∈ l, wfS51 x) l1 → ∃ k, laws_FnExactHitsIn.f k a0 l1 = some true
end Go.Proofs.Ytcbofebikbbknaa.P

namespace Go.Proofs.Ytcbofebikbbknaa.P
open Go.RowKit Go.Proofs.YtcbofebikbbknaaW.PrintWords
set_option linter.unusedVariables false
set_option linter.unusedSimpArgs false
theorem wrap_id {x : Int} (h0 : -9223372036854775808 ≤ x) (h1 : x ≤ 9223372036854775807) : wrap64 x = x := by unfold wrap64; omega
theorem Ev.succ {α : Type} {g : Nat → Option α} {r : α} (h : Ev (fun k => g (k + 1)) r) : Ev g r := Ev.step (fun _ => rfl) h
theorem Ev.some_ {α : Type} {r s : α} (h : r = s) : Ev (fun _ => some r) s := h ▸ Ev.now r
theorem getD_mid {α : Type} (d : α) (pre : List α) (x : α) (suf : List α) : (pre ++ x :: suf).getD ((pre.length : Int)).toNat d = x := by simp
theorem app_one {α : Type} (pre : List α) (x : α) (suf : List α) : pre ++ x :: suf = (pre ++ [x]) ++ suf := by simp
theorem len_mid {α : Type} (pre : List α) (x : α) (suf : List α) : ((pre ++ x :: suf).length : Int) = pre.length + suf.length + 1 := by simp; omega
theorem len_one {α : Type} (pre : List α) (x : α) : ((pre ++ [x]).length : Int) = pre.length + 1 := by simp
theorem nil_or_snoc {α : Type} (l : List α) : l = [] ∨ ∃ p y, l = p ++ [y] := by
 rcases List.eq_nil_or_concat l with rfl | ⟨p, y, rfl⟩
 ·exact .inl rfl
 ·exact .inr ⟨p, y, by simp⟩
end Go.Proofs.Ytcbofebikbbknaa.P

namespace Go.Proofs.Ytcbofebikbbknaa.P
open Go.RowKit Go.Proofs.YtcbofebikbbknaaW.PrintWords Go.Proofs.YtcbofebikbbknaaW.PrintLast
set_option linter.unusedVariables false
set_option linter.unusedSimpArgs false
theorem rdSeen_mid (pre : List S53) (x : S53) (suf : List S53) : rd_T53 (pre ++ x :: suf) (pre.length : Int) = x := getD_mid _ pre x suf
theorem rdLSeen_mid (pre : List S51) (x : S51) (suf : List S51) : rd_T51 (pre ++ x :: suf) (pre.length : Int) = x := getD_mid _ pre x suf
instance decSeen : DecidableEq S53 := fun a b => decidable_of_iff (a.f0 = b.f0 ∧ a.f1 = b.f1 ∧ a.f2 = b.f2) (by cases a; cases b; simp)
def cvSeen (x : S51) : S53 := ⟨x.f0, x.f1, x.f2⟩
theorem toSeenS_l (suf : List S51) : ∀ (pre : List S51) (k : Nat), suf.length < k → (pre.length : Int) + suf.length ≤ 1099511627776 →
  laws_toSeenS.l0 k (pre ++ suf) (pre.map cvSeen ++ List.replicate suf.length z53) (pre.length : Int) = some ((pre ++ suf).map cvSeen) := by
 induction suf with
 | nil =>
  intro pre k hk hb
  obtain ⟨k, rfl⟩ : ∃ m, k = m + 1 := ⟨k - 1, by omega⟩
  simp only [laws_toSeenS.l0]
  rw [if_neg (by simp)]
  simp
 | cons x suf ih =>
  intro pre k hk hb
  simp only [List.length_cons] at hk hb
  obtain ⟨k, rfl⟩ : ∃ m, k = m + 1 := ⟨k - 1, by omega⟩
  have h := ih (pre ++ [x]) k (by omega) (by simp; omega)
  simp only [laws_toSeenS.l0]
  rw [if_pos (by simp; omega), if_pos (by omega), rdLSeen_mid]
  simp only [laws_toSeen.f, Option.bind_some]
  rw [if_pos (by simp; omega), wrap_id (by omega) (by omega)]
  have e : (pre.map cvSeen ++ List.replicate (x :: suf).length z53).set ((pre.length : Int)).toNat (⟨x.f0, x.f1, x.f2⟩ : S53) = (pre ++ [x]).map cvSeen ++ List.replicate suf.length z53 := by
   simp [List.replicate_succ, cvSeen]
  rw [e]
  simpa using h
theorem toSeenS_ev (l : List S51) (hl : l.length ≤ 1048576) : Ev (fun k => laws_toSeenS.f k l) (l.map cvSeen) := by
 refine ⟨l.length + 1, fun k hk => ?_⟩
 have h := toSeenS_l l [] k (by omega) (by simp; omega)
 show laws_toSeenS.f k l = _
 unfold laws_toSeenS.f
 rw [if_pos (by omega), if_pos (by simp; omega)]
 simpa using h
theorem eqSeen_is (a b : S53) : laws_eqSeen.f a.f0 a.f1 a.f2 b.f0 b.f1 b.f2 = some (decide (a = b)) := by
 cases a; cases b
 unfold laws_eqSeen.f
 simp only [S53.mk.injEq]
 split
 ·split
  ·split
   ·rename_i h1 h2 h3; simp [h1, h2, h3]
   ·rename_i h1 h2 h3; simp [h3]
  ·rename_i h1 h2; simp [h2]
 ·rename_i h1; simp [h1]
theorem eqSeenS_l (s : List S53) : ∀ (t pre qre : List S53) (k : Nat), s.length < k → pre.length = qre.length → s.length = t.length → (pre.length : Int) + s.length ≤ 1099511627776 →
  laws_eqSeenS.l0 k (pre ++ s) (qre ++ t) (pre.length : Int) = some (decide (s = t)) := by
 induction s with
 | nil =>
  intro t pre qre k hk hq hl hb
  obtain ⟨k, rfl⟩ : ∃ m, k = m + 1 := ⟨k - 1, by omega⟩
  obtain rfl : t = [] := List.eq_nil_of_length_eq_zero (by simpa using hl.symm)
  simp only [laws_eqSeenS.l0]
  rw [if_neg (by simp)]
  simp
 | cons x s ih =>
  intro t pre qre k hk hq hl hb
  cases t with
  | nil => simp at hl
  | cons y t =>
   simp only [List.length_cons] at hk hl hb
   obtain ⟨k, rfl⟩ : ∃ m, k = m + 1 := ⟨k - 1, by omega⟩
   have h := ih t (pre ++ [x]) (qre ++ [y]) k (by omega) (by simp; omega) (by omega) (by simp; omega)
   have hy : rd_T53 (qre ++ y :: t) (pre.length : Int) = y := by rw [hq]; exact rdSeen_mid qre y t
   simp only [laws_eqSeenS.l0]
   rw [if_pos (by simp; omega), if_pos (by omega), if_pos (by simp; omega), rdSeen_mid, hy, eqSeen_is, wrap_id (by omega) (by omega)]
   simp only [Option.bind_some]
   by_cases e : x = y
   ·subst e
    rw [if_pos (by simp)]
    simpa using h
   ·rw [if_neg (by simpa using e)]
    simp [e]
theorem eqSeenS_ev (s t : List S53) (hs : s.length ≤ 1099511627776) : Ev (fun k => laws_eqSeenS.f k s t) (decide (s = t)) := by
 refine ⟨s.length + 1, fun k hk => ?_⟩
 show laws_eqSeenS.f k s t = _
 unfold laws_eqSeenS.f
 by_cases hl : s.length = t.length
 ·rw [if_pos (by omega)]
  exact eqSeenS_l s t [] [] k (by omega) rfl hl (by simp; omega)
 ·rw [if_neg (by omega)]
  have : s ≠ t := fun e => hl (by rw [e])
  simp [this]
theorem szSeenS_is (l : List S51) (hl : l.length ≤ maxLen) (a : Int) (h0 : 0 ≤ a) (h1 : a ≤ 1048576) : laws_szSeenS.f l a = some (if a - l.length < 0 then -1 else a - l.length) := by
 have hm : l.length ≤ 9223372036854775807 := by unfold maxLen at hl; exact hl
 unfold laws_szSeenS.f
 rw [wrap_id (by omega) (by omega)]
 split <;> rfl
end Go.Proofs.Ytcbofebikbbknaa.P

namespace Go.Proofs.Ytcbofebikbbknaa.P
open Go.RowKit Go.Proofs.YtcbofebikbbknaaW.PrintWords Go.Proofs.YtcbofebikbbknaaW.PrintLast
set_option linter.unusedVariables false
set_option linter.unusedSimpArgs false
theorem specIn3 (a b c : Int) : spec_l1In.f a b c = some (decide (b ≤ a ∧ a ≤ c)) := by
 unfold spec_l1In.f
 by_cases h : a ≥ b
 ·rw [if_pos h]
  congr 1
  by_cases h2 : a ≤ c
  ·rw [decide_eq_true h2, decide_eq_true ⟨h, h2⟩]
  ·rw [decide_eq_false h2, decide_eq_false (fun hc => h2 hc.2)]
 ·rw [if_neg h, decide_eq_false (fun hc => h hc.1)]
theorem implIn3 (a b c : Int) : impl_in.f a b c = some (decide (b ≤ a ∧ a ≤ c)) := specIn3 a b c
def okSeen (x : S53) : Bool := decide (1 ≤ x.f0 ∧ x.f0 ≤ 99) && (decide (0 ≤ x.f1 ∧ x.f1 ≤ 9) && decide (0 ≤ x.f2 ∧ x.f2 ≤ 10000))
theorem specRow3 (x : S53) : spec_l13Row.f x.f0 x.f1 x.f2 = some (okSeen x) := by
 unfold spec_l13Row.f okSeen
 simp only [specIn3, Option.bind_some]
 by_cases h1 : 1 ≤ x.f0 ∧ x.f0 ≤ 99
 ·by_cases h2 : 0 ≤ x.f1 ∧ x.f1 ≤ 9
  ·simp only [h1, h2, and_self, decide_true, if_true, Bool.true_and]
  ·simp only [h1, h2, and_self, decide_true, decide_false, if_true, Bool.true_and, Bool.false_and, Bool.false_eq_true, if_false]
 ·simp only [h1, decide_false, Bool.false_and, Bool.false_eq_true, if_false]
theorem implSeen3 (x : S53) : impl_isSeen.f x.f0 x.f1 x.f2 = some (okSeen x) := specRow3 x
theorem eta3 (x : S53) : (⟨x.f0, x.f1, x.f2⟩ : S53) = x := rfl
end Go.Proofs.Ytcbofebikbbknaa.P

namespace Go.Proofs.Ytcbofebikbbknaa.P
open Go.RowKit Go.Proofs.YtcbofebikbbknaaW.PrintWords Go.Proofs.YtcbofebikbbknaaW.PrintLast
set_option linter.unusedVariables false
set_option linter.unusedSimpArgs false
theorem kept_l (p : S53 → Bool) (a : Int) (suf : List S53) : ∀ (pre out : List S53), ((pre ++ suf).length : Int) ≤ 1048576 → out.length ≤ pre.length →
  Ev (fun k => impl_Table_kept.l0 p k (pre ++ suf) ((pre ++ suf).length : Int) pre.length a out) (a, out ++ suf.filter p) := by
 induction suf with
 | nil =>
  intro pre out h ho
  refine Ev.succ ?_
  simp only [impl_Table_kept.l0, List.append_nil, Int.lt_irrefl, if_false, List.filter_nil]
  exact Ev.now _
 | cons x suf ih =>
  intro pre out h ho
  refine Ev.succ ?_
  rw [len_mid] at h ⊢
  have := fun o ho => ih (pre ++ [x]) o (by rw [← app_one, len_mid]; exact h) ho
  rw [← app_one, len_mid, len_one] at this
  simp only [impl_Table_kept.l0]
  simp only [if_pos (show ((pre.length : Int) < pre.length + suf.length + 1) by omega), if_pos (show (0 : Int) ≤ pre.length by omega), len_mid, rdSeen_mid, wrap_id (show (-9223372036854775808 : Int) ≤ pre.length + 1 by omega) (show ((pre.length : Int) + 1 ≤ 9223372036854775807) by omega), Option.bind_some, eta3]
  cases hp : p x with
  | true =>
   simp only [if_true, if_pos (show out.length < 5864062014805 by omega)]
   rw [List.filter_cons_of_pos hp, app_one out x (suf.filter p)]
   exact this (out ++ [x]) (by simp only [List.length_append, List.length_singleton]; omega)
  | false =>
   simp only [Bool.false_eq_true, if_false]
   rw [List.filter_cons_of_neg (by rw [hp]; exact Bool.false_ne_true)]
   exact this out (by rw [List.length_append]; omega)
theorem kept_ev (p : S53 → Bool) (a : Int) (l : List S53) (hl : l.length ≤ 1048576) : Ev (fun k => impl_Table_kept.f k a l p) (a, l.filter p) := by
 have := kept_l p a l [] [] (by rw [List.nil_append]; omega) (by simp)
 exact this
def learnM (a : Int) (l : List S53) (x : S53) : List S53 := (x :: l.filter fun y => y.f0 != x.f0).take a.toNat
theorem learnM_len (a : Int) (l : List S53) (x : S53) : (learnM a l x).length ≤ a.toNat := List.length_take_le ..
theorem implLearn_ev (a : Int) (l : List S53) (x : S53) (ha : 0 ≤ a) (hl : l.length ≤ 1048575) : Ev (fun k => impl_Table_learn.f k a l x.f0 x.f1 x.f2) (a, learnM a l x) := by
 unfold impl_Table_learn.f
 refine Ev.bind (kept_ev _ a l (by omega)) ?_
 have hf := List.length_filter_le (fun y : S53 => y.f0 != x.f0) l
 simp only [Option.bind_some, eta3, List.length_singleton, if_pos (show 1 + (l.filter fun y => y.f0 != x.f0).length < 5864062014805 by omega), List.singleton_append]
 have hmn : mn ((x :: l.filter fun y => y.f0 != x.f0).length : Int) a = min ((x :: l.filter fun y => y.f0 != x.f0).length : Int) a := by
  unfold mn
  split
  ·rw [Int.min_eq_right (by omega)]
  ·rw [Int.min_eq_left (by omega)]
 rw [hmn]
 simp only [if_pos (show 0 ≤ min ((x :: l.filter fun y => y.f0 != x.f0).length : Int) a by omega), if_pos (show min ((x :: l.filter fun y => y.f0 != x.f0).length : Int) a ≤ ((x :: l.filter fun y => y.f0 != x.f0).length : Int) by omega)]
 refine Ev.some_ ?_
 unfold learnM
 congr 1
 generalize (x :: l.filter fun y => y.f0 != x.f0) = L
 by_cases h : (L.length : Int) ≤ a
 ·rw [Int.min_eq_left h, Int.toNat_natCast, List.take_length, List.take_of_length_le (by omega)]
 ·rw [Int.min_eq_right (by omega)]
theorem specLearn_l (a : Int) (l0 : List S53) (x : S53) (suf : List S53) : ∀ (pre out : List S53), ((pre ++ suf).length : Int) ≤ 1048576 → out.length ≤ pre.length + 1 → (out.length : Int) ≤ a →
  Ev (fun k => spec_l13Learn.l0 k (pre ++ suf) ((pre ++ suf).length : Int) pre.length a l0 x.f0 x.f1 x.f2 a out) (a, (out ++ suf.filter fun y => y.f0 != x.f0).take a.toNat) := by
 induction suf with
 | nil =>
  intro pre out h ho ha
  refine Ev.succ ?_
  simp only [spec_l13Learn.l0, List.append_nil, Int.lt_irrefl, if_false, List.filter_nil]
  rw [List.take_of_length_le (by omega)]
  exact Ev.now _
 | cons y suf ih =>
  intro pre out h ho ha
  refine Ev.succ ?_
  rw [len_mid] at h ⊢
  have := fun o ho => ih (pre ++ [y]) o (by rw [← app_one, len_mid]; exact h) ho
  rw [← app_one, len_mid, len_one] at this
  simp only [spec_l13Learn.l0]
  simp only [if_pos (show ((pre.length : Int) < pre.length + suf.length + 1) by omega), if_pos (show (0 : Int) ≤ pre.length by omega), len_mid, rdSeen_mid, wrap_id (show (-9223372036854775808 : Int) ≤ pre.length + 1 by omega) (show ((pre.length : Int) + 1 ≤ 9223372036854775807) by omega), eta3]
  by_cases h1 : y.f0 = x.f0
  ·simp only [if_pos h1]
   rw [List.filter_cons_of_neg (by simp [h1])]
   exact this out (by rw [List.length_append]; omega) ha
  ·simp only [if_neg h1]
   rw [List.filter_cons_of_pos (by simp [h1])]
   by_cases h2 : (out.length : Int) < a
   ·simp only [if_pos h2, if_pos (show out.length < 5864062014805 by omega)]
    rw [app_one out y (suf.filter fun y => y.f0 != x.f0)]
    exact this (out ++ [y]) (by simp only [List.length_append, List.length_singleton]; omega) (by rw [len_one]; omega)
   ·simp only [if_neg h2]
    have h3 := this out (by rw [List.length_append]; omega) ha
    rw [List.take_append_of_le_length (by omega)] at h3 ⊢
    exact h3
theorem specLearn_ev (a : Int) (l : List S53) (x : S53) (ha : 1 ≤ a) (hl : l.length ≤ 1048576) : Ev (fun k => spec_l13Learn.f k a l x.f0 x.f1 x.f2) (a, learnM a l x) := by
 have := specLearn_l a l x l [] [x] (by rw [List.nil_append]; omega) (by simp) (by simpa using ha)
 exact this
/-- the row of a host -/
def findM (l : List S53) (h : Int) : Int := ixF53 (fun x => x.f0 == h) l 0
theorem specFind_l (h : Int) (suf : List S53) : ∀ (pre : List S53), ((pre ++ suf).length : Int) ≤ 1099511627776 →
  Ev (fun k => spec_l13Find.l0 k h (pre ++ suf) ((pre ++ suf).length : Int) pre.length) (ixF53 (fun x => x.f0 == h) suf pre.length) := by
 induction suf with
 | nil =>
  intro pre hl
  refine Ev.succ ?_
  simp only [spec_l13Find.l0, List.append_nil, Int.lt_irrefl, if_false, ixF53]
  exact Ev.now _
 | cons y suf ih =>
  intro pre hl
  refine Ev.succ ?_
  rw [len_mid] at hl ⊢
  have := ih (pre ++ [y]) (by rw [← app_one, len_mid]; exact hl)
  rw [← app_one, len_mid, len_one] at this
  simp only [spec_l13Find.l0, ixF53]
  simp only [if_pos (show ((pre.length : Int) < pre.length + suf.length + 1) by omega), if_pos (show (0 : Int) ≤ pre.length by omega), len_mid, rdSeen_mid, wrap_id (show (-9223372036854775808 : Int) ≤ pre.length + 1 by omega) (show ((pre.length : Int) + 1 ≤ 9223372036854775807) by omega), beq_iff_eq]
  by_cases h1 : y.f0 = h
  ·simp only [if_pos h1]
   exact Ev.now _
  ·simp only [if_neg h1]
   exact this
theorem specFind_ev (a : Int) (l : List S53) (h : Int) (hl : l.length ≤ 1048576) : Ev (fun k => spec_l13Find.f k a l h) (findM l h) := by
 have := specFind_l h l [] (by rw [List.nil_append]; omega)
 exact this
end Go.Proofs.Ytcbofebikbbknaa.P

namespace Go.Proofs.Ytcbofebikbbknaa.P
open Go.RowKit Go.Proofs.YtcbofebikbbknaaW.PrintWords Go.Proofs.YtcbofebikbbknaaW.PrintLast
set_option linter.unusedVariables false
set_option linter.unusedSimpArgs false
def earlier (o : Option S53) (x : S53) : Bool := match o with
 | none => true
 | some y => !decide (y.f2 > x.f2)
def goH (o : Option S53) : List S53 → Bool
 | [] => true
 | x :: r => okSeen x && (earlier o x && goH (some x) r)
def goodH (a : Int) (l : List S53) : Bool := goH none l && (decide (1 ≤ a ∧ a ≤ 8) && decide ((l.length : Int) ≤ 60))
def hitOf (l : List S53) (x : S53) (n : Int) : Int := if findM l x.f0 ≥ 0 then wrap64 (n + 1) else n
def playM (a : Int) : List S53 → List S53 → List S53
 | t, [] => t
 | t, x :: r => playM a (learnM a t x) r
def hitsM (a : Int) : List S53 → Int → List S53 → Int
 | _, n, [] => n
 | t, n, x :: r => hitsM a (learnM a t x) (hitOf t x n) r
theorem specHeard_l (a : Int) (l : List S53) (hl : l.length ≤ 1048576) (suf : List S53) : ∀ (pre : List S53), pre ++ suf = l →
  Ev (fun k => spec_l13Heard.l0 k a l l (l.length : Int) pre.length) (goH pre.getLast? suf && (decide (1 ≤ a ∧ a ≤ 8) && decide ((l.length : Int) ≤ 60))) := by
 induction suf with
 | nil =>
  intro pre h
  rw [List.append_nil] at h
  subst h
  refine Ev.succ ?_
  simp only [spec_l13Heard.l0, Int.lt_irrefl, if_false, specIn3, Option.bind_some]
  rw [show goH pre.getLast? [] = true by cases pre.getLast? <;> rfl, Bool.true_and]
  by_cases h1 : 1 ≤ a ∧ a ≤ 8
  ·simp only [h1, and_self, decide_true, if_true, Bool.true_and]
   exact Ev.now _
  ·simp only [h1, decide_false, Bool.false_eq_true, if_false, Bool.false_and]
   exact Ev.now _
 | cons x suf ih =>
  intro pre h
  have h' := ih (pre ++ [x]) (by rw [← app_one]; exact h)
  rw [len_one, List.getLast?_concat] at h'
  refine Ev.succ ?_
  have hlen : (l.length : Int) = pre.length + suf.length + 1 := by rw [← h, len_mid]
  have hx : rd_T53 l (pre.length : Int) = x := by rw [← h]; exact rdSeen_mid pre x suf
  simp only [spec_l13Heard.l0]
  simp only [if_pos (show ((pre.length : Int) < l.length) by omega), if_pos (show (0 : Int) ≤ pre.length by omega), hx, specRow3, Option.bind_some, wrap_id (show (-9223372036854775808 : Int) ≤ pre.length + 1 by omega) (show ((pre.length : Int) + 1 ≤ 9223372036854775807) by omega)]
  generalize (decide (1 ≤ a ∧ a ≤ 8) && decide ((l.length : Int) ≤ 60)) = fin at h' ⊢
  have eg : goH pre.getLast? (x :: suf) = (okSeen x && (earlier pre.getLast? x && goH (some x) suf)) := by cases pre.getLast? <;> rfl
  rw [eg]
  cases hk : okSeen x with
  | false =>
   simp only [Bool.false_eq_true, if_false, Bool.false_and]
   exact Ev.now _
  | true =>
   simp only [if_true, Bool.true_and]
   rcases nil_or_snoc pre with rfl | ⟨p, y, rfl⟩
   ·simp only [List.length_nil, Int.ofNat_zero, gt_iff_lt, Int.lt_irrefl, if_false, List.getLast?_nil, earlier, Bool.true_and] at h' ⊢
    exact h'
   ·have hy : rd_T53 l (wrap64 (((p ++ [y]).length : Int) - 1)) = y := by
     rw [wrap_id (by omega) (by omega), len_one, show (p.length : Int) + 1 - 1 = p.length by omega, ← h, ← app_one]
     exact rdSeen_mid p y _
    have h0 : (0 : Int) ≤ wrap64 (((p ++ [y]).length : Int) - 1) ∧ wrap64 (((p ++ [y]).length : Int) - 1) < l.length := by
     rw [wrap_id (by omega) (by omega)]
     rw [len_one] at hlen ⊢
     omega
    simp only [if_pos (show (((p ++ [y]).length : Int)) > 0 by rw [len_one]; omega), if_pos h0.1, if_pos h0.2, hy]
    have hlast : (p ++ [y]).getLast? = some y := by simp
    by_cases ht : y.f2 > x.f2
    ·simp only [if_pos ht, hlast, earlier, decide_eq_true ht, Bool.not_true, Bool.false_and]
     exact Ev.now _
    ·simp only [if_neg ht, hlast, earlier, decide_eq_false ht, Bool.not_false, Bool.true_and]
     exact h'
theorem specHeard_ev (a : Int) (l : List S53) (hl : l.length ≤ 1048576) : Ev (fun k => spec_l13Heard.f k a l) (goodH a l) := specHeard_l a l hl l [] rfl
theorem implHeard_l1 (a : Int) (ha : 1 ≤ a ∧ a ≤ 8) (suf : List S53) : ∀ (pre t : List S53) (n : Int), ((pre ++ suf).length : Int) ≤ 1048576 → t.length ≤ 8 →
  Ev (fun k => impl_heard.l1 k n (pre ++ suf) ((pre ++ suf).length : Int) pre.length a t) (a, playM a t suf, hitsM a t n suf, true) := by
 induction suf with
 | nil =>
  intro pre t n h ht
  refine Ev.succ ?_
  simp only [impl_heard.l1, List.append_nil, Int.lt_irrefl, if_false, playM, hitsM]
  exact Ev.now _
 | cons x suf ih =>
  intro pre t n h ht
  refine Ev.succ ?_
  rw [len_mid] at h ⊢
  have := fun t n ht => ih (pre ++ [x]) t n (by rw [← app_one, len_mid]; exact h) ht
  rw [← app_one, len_mid, len_one] at this
  have hl := learnM_len a t x
  have hlearn := implLearn_ev a t x (by omega) (by omega)
  simp only [impl_heard.l1]
  simp only [if_pos (show ((pre.length : Int) < pre.length + suf.length + 1) by omega), if_pos (show (0 : Int) ≤ pre.length by omega), len_mid, rdSeen_mid, wrap_id (show (-9223372036854775808 : Int) ≤ pre.length + 1 by omega) (show ((pre.length : Int) + 1 ≤ 9223372036854775807) by omega), show impl_row.f t x.f0 = some (findM t x.f0) from rfl, Option.bind_some, playM, hitsM, hitOf]
  by_cases h1 : findM t x.f0 ≥ 0
  ·simp only [if_pos h1]
   exact Ev.bind hlearn (this (learnM a t x) _ (by omega))
  ·simp only [if_neg h1]
   exact Ev.bind hlearn (this (learnM a t x) _ (by omega))
theorem specHits_l (a : Int) (ha : 1 ≤ a ∧ a ≤ 8) (suf : List S53) : ∀ (pre t : List S53) (n : Int), ((pre ++ suf).length : Int) ≤ 1048576 → t.length ≤ 8 →
  Ev (fun k => spec_HitsIn.l0 k n (pre ++ suf) ((pre ++ suf).length : Int) pre.length a t) (hitsM a t n suf, true) := by
 induction suf with
 | nil =>
  intro pre t n h ht
  refine Ev.succ ?_
  simp only [spec_HitsIn.l0, List.append_nil, Int.lt_irrefl, if_false, hitsM]
  exact Ev.now _
 | cons x suf ih =>
  intro pre t n h ht
  refine Ev.succ ?_
  rw [len_mid] at h ⊢
  have := fun t n ht => ih (pre ++ [x]) t n (by rw [← app_one, len_mid]; exact h) ht
  rw [← app_one, len_mid, len_one] at this
  have hl := learnM_len a t x
  have hlearn := specLearn_ev a t x (by omega) (by omega)
  simp only [spec_HitsIn.l0]
  simp only [if_pos (show ((pre.length : Int) < pre.length + suf.length + 1) by omega), if_pos (show (0 : Int) ≤ pre.length by omega), len_mid, rdSeen_mid, wrap_id (show (-9223372036854775808 : Int) ≤ pre.length + 1 by omega) (show ((pre.length : Int) + 1 ≤ 9223372036854775807) by omega), hitsM, hitOf]
  refine Ev.bind (specFind_ev a t x.f0 (by omega)) ?_
  by_cases h1 : findM t x.f0 ≥ 0
  ·simp only [if_pos h1]
   exact Ev.bind hlearn (this (learnM a t x) _ (by omega))
  ·simp only [if_neg h1]
   exact Ev.bind hlearn (this (learnM a t x) _ (by omega))
theorem implHeard_l0 (a : Int) (ha : 1 ≤ a ∧ a ≤ 8) (l : List S53) (hl : l.length ≤ 1048576) (suf : List S53) : ∀ (pre : List S53), pre ++ suf = l →
  Ev (fun k => impl_heard.l0 k l l (l.length : Int) pre.length a []) (if goH pre.getLast? suf = true then (a, playM a [] l, hitsM a [] 0 l, true) else (0, [], 0, false)) := by
 induction suf with
 | nil =>
  intro pre h
  rw [List.append_nil] at h
  subst h
  refine Ev.succ ?_
  simp only [impl_heard.l0, Int.lt_irrefl, if_false]
  rw [show goH pre.getLast? [] = true by cases pre.getLast? <;> rfl, if_pos rfl]
  have := implHeard_l1 a ha pre [] [] 0 (by rw [List.nil_append]; omega) (by simp)
  exact this
 | cons x suf ih =>
  intro pre h
  have h' := ih (pre ++ [x]) (by rw [← app_one]; exact h)
  rw [len_one, List.getLast?_concat] at h'
  refine Ev.succ ?_
  have hlen : (l.length : Int) = pre.length + suf.length + 1 := by rw [← h, len_mid]
  have hx : rd_T53 l (pre.length : Int) = x := by rw [← h]; exact rdSeen_mid pre x suf
  simp only [impl_heard.l0]
  simp only [if_pos (show ((pre.length : Int) < l.length) by omega), if_pos (show (0 : Int) ≤ pre.length by omega), hx, implSeen3, Option.bind_some, wrap_id (show (-9223372036854775808 : Int) ≤ pre.length + 1 by omega) (show ((pre.length : Int) + 1 ≤ 9223372036854775807) by omega)]
  have eg : goH pre.getLast? (x :: suf) = (okSeen x && (earlier pre.getLast? x && goH (some x) suf)) := by cases pre.getLast? <;> rfl
  rw [eg]
  cases hk : okSeen x with
  | false =>
   simp only [Bool.false_eq_true, if_false, Bool.false_and]
   exact Ev.now _
  | true =>
   simp only [if_true, Bool.true_and]
   rcases nil_or_snoc pre with rfl | ⟨p, y, rfl⟩
   ·simp only [List.length_nil, Int.ofNat_zero, gt_iff_lt, Int.lt_irrefl, if_false, List.getLast?_nil, earlier, Bool.true_and] at h' ⊢
    exact h'
   ·have hy : rd_T53 l (wrap64 (((p ++ [y]).length : Int) - 1)) = y := by
     rw [wrap_id (by omega) (by omega), len_one, show (p.length : Int) + 1 - 1 = p.length by omega, ← h, ← app_one]
     exact rdSeen_mid p y _
    have h0 : (0 : Int) ≤ wrap64 (((p ++ [y]).length : Int) - 1) ∧ wrap64 (((p ++ [y]).length : Int) - 1) < l.length := by
     rw [wrap_id (by omega) (by omega)]
     rw [len_one] at hlen ⊢
     omega
    simp only [if_pos (show (((p ++ [y]).length : Int)) > 0 by rw [len_one]; omega), if_pos h0.1, if_pos h0.2, hy]
    have hlast : (p ++ [y]).getLast? = some y := by simp
    by_cases ht : y.f2 > x.f2
    ·simp only [if_pos ht, hlast, earlier, decide_eq_true ht, Bool.not_true, Bool.false_and, Bool.false_eq_true, if_false]
     exact Ev.now _
    ·simp only [if_neg ht, hlast, earlier, decide_eq_false ht, Bool.not_false, Bool.true_and]
     exact h'
def heardM (a : Int) (l : List S53) : Int × List S53 × Int × Bool := if goodH a l = true then (a, playM a [] l, hitsM a [] 0 l, true) else (0, [], 0, false)
theorem implHeard_ev (a : Int) (l : List S53) (hl : l.length ≤ 1048576) : Ev (fun k => impl_heard.f k a l) (heardM a l) := by
 unfold impl_heard.f heardM goodH impl_NewTable.f
 have bad : ∀ (b : Int) (t : List S53), Ev (fun k => impl_heard.j0 k l true b t) ((0 : Int), ([] : List S53), (0 : Int), false) := by
  intro b t
  refine Ev.succ ?_
  simp only [impl_heard.j0, if_true]
  exact Ev.now _
 simp only [implIn3, Option.bind_some]
 by_cases h1 : 1 ≤ a ∧ a ≤ 8
 ·simp only [h1, and_self, decide_true, if_true, Option.bind_some, Bool.true_and]
  by_cases h2 : (l.length : Int) > 60
  ·rw [decide_eq_true h2, decide_eq_false (show ¬ (l.length : Int) ≤ 60 by omega), Bool.and_false, if_neg Bool.false_ne_true]
   exact bad _ _
  ·rw [decide_eq_false h2, decide_eq_true (show (l.length : Int) ≤ 60 by omega), Bool.and_true]
   refine Ev.succ ?_
   simp only [impl_heard.j0, Bool.false_eq_true, if_false]
   exact implHeard_l0 a h1 l hl l [] rfl
 ·simp only [h1, decide_false, Bool.false_eq_true, if_false, Option.bind_some, Bool.false_and, Bool.and_false]
  exact bad _ _
theorem specHits_ev (a : Int) (l : List S53) (hl : l.length ≤ 1048576) : Ev (fun k => spec_HitsIn.f k a l) ((heardM a l).2.2.1, (heardM a l).2.2.2) := by
 unfold spec_HitsIn.f heardM
 refine Ev.bind (specHeard_ev a l hl) ?_
 by_cases h : goodH a l = true
 ·have h' := h
  unfold goodH at h'
  rw [Bool.and_eq_true, Bool.and_eq_true, decide_eq_true_eq] at h'
  simp only [if_pos h]
  have := specHits_l a h'.2.1 l [] [] 0 (by rw [List.nil_append]; omega) (by simp)
  exact this
 ·simp only [if_neg h]
  exact Ev.now _
theorem implHits_ev (a : Int) (l : List S53) (hl : l.length ≤ 1048576) : Ev (fun k => impl_HitsIn.f k a l) ((heardM a l).2.2.1, (heardM a l).2.2.2) := by
 unfold impl_HitsIn.f
 exact Ev.bind (implHeard_ev a l hl) (Ev.now _)
end Go.Proofs.Ytcbofebikbbknaa.P

namespace Go.Proofs.Ytcbofebikbbknaa.Pure
open Go.RowKit Go.Proofs.Ytcbofebikbbknaa.P Go.Proofs.YtcbofebikbbknaaW.PrintWords Go.Proofs.YtcbofebikbbknaaW.PrintLast
set_option linter.unusedVariables false
set_option linter.unusedSimpArgs false
theorem FnExactHitsIn : laws_FnExactHitsIn.Pure := by
 intro a l _ ⟨hm, _⟩
 refine Ev.rounds ?_
 unfold laws_FnExactHitsIn.f
 rw [szSeenS_is l hm 1048576 (by omega) (by omega)]
 simp only [Option.bind_some]
 by_cases h : (1048576 : Int) - l.length < 0
 ·simp only [if_pos h]
  exact Ev.now _
 ·have hl : l.length ≤ 1048576 := by omega
  have hl2 : (l.map cvSeen).length ≤ 1048576 := by simpa using hl
  simp only [if_neg h]
  refine Ev.bind (toSeenS_ev l hl) ?_
  refine Ev.bind (specHits_ev a _ hl2) ?_
  refine Ev.bind (toSeenS_ev l hl) ?_
  refine Ev.bind (implHits_ev a _ hl2) ?_
  simp only [if_true, bne_self_eq_false]
  refine Ev.succ ?_
  simp only [laws_FnExactHitsIn.j0, Bool.false_eq_true, if_false]
  refine Ev.bind (toSeenS_ev l hl) ?_
  refine Ev.bind (eqSeenS_ev _ _ (by omega)) ?_
  simp only [decide_true, if_true]
  exact Ev.now _
end Go.Proofs.Ytcbofebikbbknaa.Pure
