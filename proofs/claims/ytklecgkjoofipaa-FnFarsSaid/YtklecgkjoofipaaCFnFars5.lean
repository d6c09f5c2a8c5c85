/- Functions, walks and plain lemmas that the law FnFars reaches, part 5. -/
import Derived.Test.YtklecgkjoofipaaCFnFars4
import Derived.Below
import Derived.Deep.Draws
import Derived.Deep.AppendLies
import Derived.Maps.AppendAt
import Derived.OwnWalk
import Derived.Laws.BytesArg
import Derived.Laws.MakeOwn
import Derived.Laws.OwnMore
import Derived.Deep.OwnRows
import Derived.Tactics
import Derived.Lib.ConvBytes
import Derived.Laws.Slices
import Derived.WalkKit
import Derived.KernelRfl
import Derived.RowKit3
import Derived.Deep.LoopGhost
import Derived.Deep.QuietTactic
import Derived.BigQuiet
import Derived.WideLaws
import Derived.Deep.DeepCutAuto
import Derived.Deep.CutBlock
import Derived.Deep.RegionHeld3
import Derived.Laws.Rows
import Derived.Lib.AppendStr
import Derived.ArgAppend
import Derived.Laws.IdiomCopy
import Derived.OrdersHeld
import Derived.Laws.BitsLemmas
import Derived.RowKit
import Derived.WalkSpells
import Derived.Lib.SliceRun
import Derived.Shelf.Abstract
import Derived.ProofKit
import Derived.OpenShut
import Derived.ShutString
import Derived.ChangeOld
import Derived.SizedLaws
namespace Go.Proofs.Ytklecgkjoofipaa.P
open Go.RowKit Go.Proofs.YtklecgkjoofipaaW.PrintWords Go.Proofs.YtklecgkjoofipaaW.PrintLast Go.Proofs.YtklecgkjoofipaaW.PrintMore
attribute [local go_sem] max2_int min2_int max_two min_two max_three min_three max_four min_four   -- for this text's walks alone
set_option linter.unusedVariables false
set_option linter.unusedSimpArgs false
def impl_groupsOf.l0 : Nat → Int → List (List Int) → List (S67) → Int → Int → Option (List Int)
 | 0, _, _, _, _, _ => none
 | k + 1, x0, x5, x8, x9, x10 => if x10 < x9 then (if 0 ≤ x10 then (if x10 < (x8.length : Int) then (if x5.length < 5864062014805 then (impl_groupsOf.l0 k x0 (x5 ++ [(([(rd_T67 x8 x10).f0, (rd_T67 x8 x10).f1] : List Int))]) x8 x9 (wrap64 (x10 + 1))) else (none)) else (none)) else (none)) else ((impl_groups.f k x0 x5).bind fun t710 => (some t710))
def impl_groupsOf.f (k : Nat) (a0 : Int) (l1 : List (S67)) : Option (List Int) := impl_groupsOf.l0 k a0 ([] : List (List Int)) l1 (l1.length : Int) 0
set_option maxHeartbeats 8000000 in
set_option maxRecDepth 100000 in
theorem impl_groupsOf.calls (k : Nat) (a0 : Int) (A1 : Option Addr) (c1 : Nat) (l1 : List (S67)) (r : List Int) (w : World) (hr1 : Kd.C k67 w A1 l1.length l1) (hc1 : l1.length ≤ c1) (h : impl_groupsOf.f k a0 l1 = some r) :
  Calls Try.prog 64 #[.int .i64 a0, .slice A1 l1.length c1] w fun e w' => ∃ v0_ : Value, e = .returned (v0_) ∧ Kd.R (Kd.int .i64) 3 w' w.heap.size (fun _ => True) v0_ r ∧ Below w.heap.size w w' := by
 have hu67 := Try.underlying67
 have HR1 := Aside0.mk hr1
 have HC1 := Aside0.mk hc1
 clear hr1 hc1
 have HB := Aside0.mk (Below.refl w.heap.size w)
 have H : (impl_groupsOf.l0 k a0 ([] : List (List Int)) l1 (l1.length : Int) 0) = some r := h
 clear h
 have H' := Aside0.mk H
 clear H
 go_enter Try.func64, Try.ntmps64
 go_wp2
 go_loopg [5, 10] k (fun kq v5 v10 w' => ∃ (x5_1 : List (List Int)) (x10_1 : Int), v10 = .int .i64 x10_1 ∧ Aside0 (impl_groupsOf.l0 kq a0 x5_1 l1 (l1.length : Int) x10_1 = some r) ∧ Aside0 (kq ≤ k) ∧ Aside0 (Kd.S (Kd.slice 3 (Kd.int .i64)) 23 w' w.heap.size (fun _ => True) v5 x5_1) ∧ Aside0 (Below w.heap.size w w'))
 case atStart => exact ⟨(([] : List (List Int))), (0), (by first | rfl | (simp; done) | (simp [*]; done)), H', ⟨Nat.le_refl _⟩, ⟨by first | exact Kd.S_nil _ _ _ _ _ | exact Kd.N_nil _ _ _ _ _ | exact Kd.V_nil _ _ _ _ _ | exact Kd.Q_nil _ _ _ _ _ | exact Kd.R_nil _ _ _ _ _⟩, ⟨by repeat (first | (with_reducible first | exact HB.out | apply below_alloc | apply pw_below_drewN | apply below_drew1) | exact HB.out)⟩⟩
 case round =>
  clear H'
  try clear c1
  try clear p2
  obtain ⟨x5_1, x10_1, rfl, HA, HK1, HO_5, HB⟩ := hrel
  cases gk with
  | zero => exact absurd HA.out (by simp [impl_groupsOf.l0])
  | succ k1 =>
   have H := HA.out
   clear HA
   simp only [impl_groupsOf.l0] at H
   by_cases c3 : x10_1 < (l1.length : Int)
   ·rw [if_pos c3] at H
    have c3b0 : decide (x10_1 < (l1.length : Int)) = true := decide_eq_true c3
    clear c3
    by_cases c4 : 0 ≤ x10_1
    ·rw [if_pos c4] at H
     have c4b0 : decide (0 ≤ x10_1) = true := decide_eq_true c4
     clear c4
     by_cases c5 : x10_1 < (l1.length : Int)
     ·rw [if_pos c5] at H
      have c5b0 : decide (x10_1 < (l1.length : Int)) = true := decide_eq_true c5
      clear c5
      obtain ⟨y704, hy704⟩ : ∃ y_ : List Int, y_ = (([(rd_T67 l1 x10_1).f0, (rd_T67 l1 x10_1).f1] : List Int)) := ⟨_, rfl⟩
      replace H : (if x5_1.length < 5864062014805 then (impl_groupsOf.l0 k1 a0 (x5_1 ++ [y704]) l1 (l1.length : Int) (wrap64 (x10_1 + 1))) else (none)) = some r := by first | (rw [hy704]; with_reducible exact H) | (have H2_ := (Option.bind_some _ _).symm.trans H; rw [hy704]; with_reducible exact H2_) | (have H2_ := (Option.bind_some _ _).symm.trans H; with_reducible exact H2_) | with_reducible exact H | (rw [hy704]; exact H) | exact H
      have Ny704 := Aside0.mk hy704
      clear hy704
      by_cases c6 : x5_1.length < 5864062014805
      ·rw [if_pos c6] at H
       have LMc6 := Aside0.mk c6
       clear c6
       obtain ⟨y707, hy707⟩ : ∃ y_ : List (List Int), y_ = (x5_1 ++ [y704]) := ⟨_, rfl⟩
       replace H : (impl_groupsOf.l0 k1 a0 y707 l1 (l1.length : Int) (wrap64 (x10_1 + 1))) = some r := by first | (rw [hy707]; with_reducible exact H) | (have H2_ := (Option.bind_some _ _).symm.trans H; rw [hy707]; with_reducible exact H2_) | (have H2_ := (Option.bind_some _ _).symm.trans H; with_reducible exact H2_) | with_reducible exact H | (rw [hy707]; exact H) | exact H
       have Ny707 := Aside0.mk hy707
       clear hy707
       have H' := Aside0.mk H
       clear H
       have p702 : 0 ≤ (x10_1 : Int) := of_decide_eq_true (by first | (with_reducible assumption) | assumption)
       have q702 : x10_1 < (l1.length : Int) := of_decide_eq_true (by first | (with_reducible assumption) | assumption)
       obtain ⟨ad702, e702, hx702_0, hx702_1, hx702_2⟩ := at_T67 HR1.out x10_1 p702 q702
       cases e702
       replace hx702_0 := (HB.out.cell (World.block_lt_of_cell? w _ hx702_0)).trans hx702_0
       replace hx702_1 := (HB.out.cell (World.block_lt_of_cell? w _ hx702_1)).trans hx702_1
       replace hx702_2 := (HB.out.cell (World.block_lt_of_cell? w _ hx702_2)).trans hx702_2
       replace p702 := eq_true p702
       replace q702 := eq_true q702
       go_wp2_with (first | ((with_reducible refine gate_dst (N := 7) rfl ?_); refine box_event ?hg (N := 7) ?hd (cs := #[.int .i64 0, .int .i64 0, .int .i64 0]) (t := 67) ?hr ?_; (case hd => rfl); (case hg => rfl); (case hr => first | (go_simp; done) | (go_simp; rfl)); intro gb703 hg w7 hbox hb; have n0_ := Aside0.mk (Kd.S_below (by (with_reducible repeat (first | apply Kd.S_alloc | apply Kd.S_drewN | apply Kd.S_drew)); exact HO_5.out) hb); have n1_ := Aside0.mk (below_step (by repeat (first | (with_reducible first | exact HB.out | apply below_alloc | apply pw_below_drewN | apply below_drew1) | exact HB.out)) hb); have n2_ := Aside0.mk (hbox); have n3_ := Aside0.mk ((by rw [hg]; exact (below_size (by repeat (first | (with_reducible first | exact HB.out | apply below_alloc | apply pw_below_drewN | apply below_drew1) | exact HB.out))) : w.heap.size ≤ gb703)); have n4_ := Aside0.mk ((by rw [hg]; exact (below_size (by repeat (first | (with_reducible first | exact HB.out | apply below_alloc | apply pw_below_drewN | apply below_drew1) | exact HB.out))) : w.heap.size ≤ gb703)); clear HO_5; clear HB; have HO_5 := n0_; have HB := n1_; have BK703 := n2_; have GW703 := n3_; have GE703 := n4_; clear n0_ n1_ n2_ n3_ n4_; clear hb hbox hg; have hcz8_0 : w7.cell? ⟨gb703, 0, none⟩ = some (.int .i64 0) := (blk_cell BK703.out 0).trans rfl; have hcz8_1 : w7.cell? ⟨gb703, 1, none⟩ = some (.int .i64 0) := (blk_cell BK703.out 1).trans rfl; have hcz8_2 : w7.cell? ⟨gb703, 2, none⟩ = some (.int .i64 0) := (blk_cell BK703.out 2).trans rfl; have hfz8_0 := blk_frozen BK703.out 0; have hfz8_1 := blk_frozen BK703.out 1; have hfz8_2 := blk_frozen BK703.out 2) | ((with_reducible refine gate_dst (N := 19) rfl ?_); refine Kd.R_lit (Kd.int .i64) _ 3 ?hg (N := 19) ?hd (xs := ([(rd_T67 l1 x10_1).f0, (rd_T67 l1 x10_1).f1] : List Int)) (inner := [.int .i64 ((rd_T67 l1 x10_1).f0), .int .i64 ((rd_T67 l1 x10_1).f1)]) (ok := fun _ => True) (okp := fun _ => True) ?hr ?hp (fun _ hk => hk) trivial (Below.refl _ _) (Nat.le_refl _) (by simp) ?_; (case hd => rfl); (case hg => rfl); (case hr => first | (go_simp; done) | (go_simp; rfl)); (case hp => exact (Reps.one (show Kd.M (Kd.int .i64) _ _ _ ((rd_T67 l1 x10_1).f0) [.int .i64 ((rd_T67 l1 x10_1).f0)] from rfl) (Reps.one (show Kd.M (Kd.int .i64) _ _ _ ((rd_T67 l1 x10_1).f1) [.int .i64 ((rd_T67 l1 x10_1).f1)] from rfl) (Reps.none _ _)))); intro v705 w9 ho10 hb hg_ hnew_; clear hg_ hnew_; (first | rw [← Ny704.out] at ho10 | (simp only [Int.reduceToNat] at ho10; rw [← Ny704.out] at ho10)); have n0_ := Aside0.mk (Kd.S_elder' (by (with_reducible repeat (first | apply Kd.S_alloc | apply Kd.S_drewN | apply Kd.S_drew)); exact (Kd.S_mono (Kd.S_far (p := ⟨gb703, 2, none⟩) (Kd.S_far (p := ⟨gb703, 1, none⟩) (Kd.S_far (p := ⟨gb703, 0, none⟩) (Kd.S_types HO_5.out BK703.out (by decide)) (fun _ hk => hk.2) (.int .i64 ((rd_T67 l1 x10_1).f0))) (fun _ hk => hk.2) (.int .i64 ((rd_T67 l1 x10_1).f1))) (fun _ hk => hk.2) (.int .i64 ((rd_T67 l1 x10_1).f2))) (fun _ h_ => h_.1))) (Kd.R_base ho10) hb); have n1_ := Aside0.mk (Kd.R_lower ho10 (below_size (by repeat (first | (with_reducible first | exact HB.out | apply below_alloc | apply pw_below_drewN | apply below_drew1 | refine below_set ?_ GE703.out) | exact HB.out)))); have n2_ := Aside0.mk (blk_below (g := gb703) (o := .cells #[.int .i64 ((rd_T67 l1 x10_1).f0), .int .i64 ((rd_T67 l1 x10_1).f1), .int .i64 ((rd_T67 l1 x10_1).f2)] 67 (0, 0)) (by (with_reducible repeat (first | refine blk_drewN ?_ _ | refine blk_drew ?_ | refine blk_alloc ?_ _)); refine blk_put (cs := #[.int .i64 ((rd_T67 l1 x10_1).f0), .int .i64 ((rd_T67 l1 x10_1).f1), .int .i64 0]) ?_ 2 _ rfl; (with_reducible repeat (first | refine blk_drewN ?_ _ | refine blk_drew ?_ | refine blk_alloc ?_ _)); refine blk_put (cs := #[.int .i64 ((rd_T67 l1 x10_1).f0), .int .i64 0, .int .i64 0]) ?_ 1 _ rfl; (with_reducible repeat (first | refine blk_drewN ?_ _ | refine blk_drew ?_ | refine blk_alloc ?_ _)); refine blk_put (cs := #[.int .i64 0, .int .i64 0, .int .i64 0]) ?_ 0 _ rfl; (with_reducible repeat (first | refine blk_drewN ?_ _ | refine blk_drew ?_ | refine blk_alloc ?_ _)); exact BK703.out) hb); have n3_ := Aside0.mk (below_step (by repeat (first | (with_reducible first | exact HB.out | apply below_alloc | apply pw_below_drewN | apply below_drew1 | refine below_set ?_ GE703.out) | exact HB.out)) hb); clear HO_5; clear BK703; clear HB; have HO_5 := n0_; have HO706 := n1_; have BK703 := n2_; have HB := n3_; clear n0_ n1_ n2_ n3_; clear hb ho10; obtain ⟨Ao12, co12, eo12⟩ := Kd.R_slice HO706.out; subst eo12) | ((with_reducible refine gate_builtin (b := .append) (xs := #[.tmp 14, .tmp 20]) rfl ?_); at_builtin; refine Kd.S_append (Kd.slice 3 (Kd.int .i64)) (w0 := w) w.heap.size rfl (.tmp 14) (.tmp 20) 89 23 (.slice none 0 0) 24 rfl Try.underlying89 info23 rfl (by decide) (by omega) u5 x5_1 y704 [.slice Ao12 y704.length co12] (fun _ => True) (fun k_ => some k_ = (.slice Ao12 y704.length co12 : Value).ownBlock) rfl rfl ?aP (fun k_ hk_ => ((Kd.R_mono (ok' := fun k_ => ((fun _ => True)) k_ ∧ some k_ ≠ (u5 : Value).ownBlock) (Kd.R_apart' (HO706.out) (Kd.S_typed HO_5.out) (by decide)) (fun k_ hk => ⟨trivial, hk.2⟩))).1 k_ hk_.symm) ?aF ?aO ?aB ?aS ?aL ?_; (case aP => exact Kd.M_row (Kd.R_mono (Kd.R_tight rfl (Kd.R_mono (ok' := fun k_ => ((fun _ => True)) k_ ∧ some k_ ≠ (u5 : Value).ownBlock) (Kd.R_apart' (HO706.out) (Kd.S_typed HO_5.out) (by decide)) (fun k_ hk => ⟨trivial, hk.2⟩))) (fun _ h_ => h_))); (case aB => exact (by repeat (first | (with_reducible first | exact HB.out | apply below_alloc | apply pw_below_drewN | apply below_drew1 | refine below_set ?_ GE703.out) | exact HB.out))); (case aF => exact (fun _ _ => trivial)); (case aO => exact (by (with_reducible repeat (first | apply Kd.S_alloc | apply Kd.S_drewN | apply Kd.S_drew)); exact Kd.S_mono HO_5.out (fun k_ hk => ⟨trivial, fun e_ => hk.2 e_⟩))); (case aS => exact (below_size (by repeat (first | (with_reducible first | exact HB.out | apply below_alloc | apply pw_below_drewN | apply below_drew1 | refine below_set ?_ GE703.out) | exact HB.out)))); (case aL => have := LMc6.out; omega); intro v708 w11 ho hb hg hat; rw [← Ny707.out] at ho; have n0_ := Aside0.mk (blk_grown (g := gb703) (o := .cells #[.int .i64 ((rd_T67 l1 x10_1).f0), .int .i64 ((rd_T67 l1 x10_1).f1), .int .i64 ((rd_T67 l1 x10_1).f2)] 67 (0, 0)) (by (with_reducible repeat (first | refine blk_drewN ?_ _ | refine blk_drew ?_ | refine blk_alloc ?_ _)); exact BK703.out) hg (Kd.S_ne HO_5.out BK703.out (by decide))); have n1_ := Aside0.mk (hb); have n2_ := Aside0.mk (ho); clear BK703; clear HB; clear HO_5; clear HO706; have BK703 := n0_; have HB := n1_; have HO709 := n2_; clear n0_ n1_ n2_; clear ho hb hg hat))
       go_roundg k1
       case measure => have := HK1.out; omega
       case rel => exact ⟨(y707), (wrap64 (x10_1 + 1)), (by first | rfl | (simp; done) | (simp [*]; done)), H', ⟨by have := HK1.out; omega⟩, ⟨by (with_reducible repeat (first | apply Kd.S_alloc | apply Kd.S_drewN | apply Kd.S_drew)); exact HO709.out⟩, ⟨by repeat (first | (with_reducible first | exact HB.out | apply below_alloc | apply pw_below_drewN | apply below_drew1 | refine below_set ?_ GE703.out) | exact HB.out)⟩⟩
      ·rw [if_neg c6] at H
       exact absurd H (by simp)
     ·rw [if_neg c5] at H
      exact absurd H (by simp)
    ·rw [if_neg c4] at H
     exact absurd H (by simp)
   ·rw [if_neg c3] at H
    have c3b0 : decide (x10_1 < (l1.length : Int)) = false := decide_eq_false c3
    clear c3
    replace H := Option.bind_eq_some_iff.mp H
    obtain ⟨t710, A130, H⟩ := H
    replace H : (some t710) = some r := H
    have A13 := Aside0.mk A130
    clear A130
    obtain rfl := Option.some.inj H
    obtain ⟨Ao14, co14, eo14⟩ := Kd.S_slice HO_5.out
    subst eo14
    go_wp2_with (first | ((with_reducible refine gate_callee (f := 75) rfl ?_); refine goesL_ (some 25) rfl rfl Try.func75 (by kernel_rfl) rfl #[.int .i64 a0, .slice Ao14 x5_1.length co14] rfl (by (try simp only [List.map_toArray, List.map_cons, List.map_nil]); first | done | rfl | (simp only [List.length_drop, List.length_take]; rfl)) ?_; (with_reducible refine (impl_groups.calls k1 a0 _ _ x5_1 t710 _ ?side1 ?side2 A13.out).mono ?_); (case side1 => repeat (first | exact (Kd.S_reads' HO_5.out).2.2 | (with_reducible refine Kd.C_alloc ?_ _) | (with_reducible refine Kd.C_drewN ?_ _) | (with_reducible refine Kd.C_drew ?_))); (case side2 => exact (Kd.S_reads' HO_5.out).2.1); rintro e w15 ⟨v711, rfl, ho0, hb⟩; refine ⟨_, rfl, ?_⟩; have n0_ := Aside0.mk (Kd.S_elder' (by (with_reducible repeat (first | apply Kd.S_alloc | apply Kd.S_drewN | apply Kd.S_drew)); exact HO_5.out) (Kd.R_base ho0) hb); have n1_ := Aside0.mk (Kd.R_lower ho0 (below_size (by repeat (first | (with_reducible first | exact HB.out | apply below_alloc | apply pw_below_drewN | apply below_drew1) | exact HB.out)))); have n2_ := Aside0.mk (below_step (by repeat (first | (with_reducible first | exact HB.out | apply below_alloc | apply pw_below_drewN | apply below_drew1) | exact HB.out)) hb); clear HO_5; clear HB; have HO_5 := n0_; have HO712 := n1_; have HB := n2_; clear n0_ n1_ n2_; (try clear hb); (try clear hb2); (try clear hk); (try clear hi); (try clear ho0)))
    go_ret
    exact ⟨_, by first | rfl | (simp [errW_none, errW_some] <;> rfl) | (simp [*, errW_none, errW_some] <;> rfl), by (with_reducible repeat (first | apply Kd.R_alloc | apply Kd.R_drewN | apply Kd.R_drew)); exact HO712.out, by repeat (first | (with_reducible first | exact HB.out | apply below_alloc | apply pw_below_drewN | apply below_drew1) | exact HB.out)⟩
def impl_GroupsOf.f (k : Nat) (a0 : Int) (l1 : List (S67)) : Option (List Int × Bool) := (impl_GoodEdges.f k a0 l1).bind fun t713 => (if t713 = true then ((impl_groupsOf.f k a0 l1).bind fun t714 => (some (t714, true))) else (some (([] : List Int), false)))
set_option maxHeartbeats 8000000 in
set_option maxRecDepth 100000 in
theorem impl_GroupsOf.calls (k : Nat) (a0 : Int) (A1 : Option Addr) (c1 : Nat) (l1 : List (S67)) (r1 : List Int) (r2 : Bool) (w : World) (hr1 : Kd.C k67 w A1 l1.length l1) (hc1 : l1.length ≤ c1) (h : impl_GroupsOf.f k a0 l1 = some (r1, r2)) :
  Calls Try.prog 36 #[.int .i64 a0, .slice A1 l1.length c1] w fun e w' => ∃ v0_ : Value, e = .returned (.tuple #[v0_, .bool r2]) ∧ Kd.R (Kd.int .i64) 3 w' w.heap.size (fun _ => True) v0_ r1 ∧ Below w.heap.size w w' := by
 have HR1 := Aside0.mk hr1
 have HC1 := Aside0.mk hc1
 clear hr1 hc1
 have HB := Aside0.mk (Below.refl w.heap.size w)
 have H : ((impl_GoodEdges.f k a0 l1).bind fun t713 => (if t713 = true then ((impl_groupsOf.f k a0 l1).bind fun t714 => (some (t714, true))) else (some (([] : List Int), false)))) = some (r1, r2) := h
 clear h
 replace H := Option.bind_eq_some_iff.mp H
 obtain ⟨t713, A30, H⟩ := H
 replace H : (if t713 = true then ((impl_groupsOf.f k a0 l1).bind fun t714 => (some (t714, true))) else (some (([] : List Int), false))) = some (r1, r2) := H
 have A3 := Aside0.mk A30
 clear A30
 by_cases c4 : t713 = true
 ·subst c4
  have H1 : ((impl_groupsOf.f k a0 l1).bind fun t714 => (some (t714, true))) = some (r1, r2) := by rw [if_pos rfl] at H; exact H
  clear H
  have H := H1
  clear H1
  replace H := Option.bind_eq_some_iff.mp H
  obtain ⟨t714, A50, H⟩ := H
  replace H : (some (t714, true)) = some (r1, r2) := H
  have A5 := Aside0.mk A50
  clear A50
  simp only [Option.some.injEq, Prod.mk.injEq] at H
  obtain ⟨rfl, rfl⟩ := H
  go_enter Try.func36, Try.ntmps36
  go_wp2_with (first | ((with_reducible refine gate_callee (f := 54) rfl ?_); refine goesL_ (some 8) rfl rfl Try.func54 (by kernel_rfl) rfl #[.int .i64 a0, .slice A1 l1.length c1] rfl (by (try simp only [List.map_toArray, List.map_cons, List.map_nil]); first | done | rfl | (simp only [List.length_drop, List.length_take]; rfl)) ?_; (with_reducible refine (impl_GoodEdges.calls k a0 _ _ l1 true _ ?side1 ?side2 A3.out).mono ?_); (case side1 => repeat (first | exact HR1.out | (with_reducible refine Kd.C_alloc ?_ _) | (with_reducible refine Kd.C_drewN ?_ _) | (with_reducible refine Kd.C_drew ?_))); (case side2 => exact HC1.out); rintro e w6 ⟨rfl, hb⟩; refine ⟨_, rfl, ?_⟩; have n0_ := Aside0.mk (below_step (by repeat (first | (with_reducible first | exact HB.out | apply below_alloc | apply pw_below_drewN | apply below_drew1) | exact HB.out)) hb); clear HB; have HB := n0_; clear n0_; (try clear hb); (try clear hb2); (try clear hk); (try clear hi)) | ((with_reducible refine gate_callee (f := 64) rfl ?_); refine goesL_ (some 12) rfl rfl Try.func64 (by kernel_rfl) rfl #[.int .i64 a0, .slice A1 l1.length c1] rfl (by (try simp only [List.map_toArray, List.map_cons, List.map_nil]); first | done | rfl | (simp only [List.length_drop, List.length_take]; rfl)) ?_; (with_reducible refine (impl_groupsOf.calls k a0 _ _ l1 t714 _ ?side1 ?side2 A5.out).mono ?_); (case side1 => repeat (first | exact (Kd.C_below HR1.out HB.out) | (with_reducible refine Kd.C_alloc ?_ _) | (with_reducible refine Kd.C_drewN ?_ _) | (with_reducible refine Kd.C_drew ?_))); (case side2 => exact HC1.out); rintro e w7 ⟨v715, rfl, ho0, hb⟩; refine ⟨_, rfl, ?_⟩; have n0_ := Aside0.mk (Kd.R_lower ho0 (below_size (by repeat (first | (with_reducible first | exact HB.out | apply below_alloc | apply pw_below_drewN | apply below_drew1) | exact HB.out)))); have n1_ := Aside0.mk (below_step (by repeat (first | (with_reducible first | exact HB.out | apply below_alloc | apply pw_below_drewN | apply below_drew1) | exact HB.out)) hb); clear HB; have HO716 := n0_; have HB := n1_; clear n0_ n1_; (try clear hb); (try clear hb2); (try clear hk); (try clear hi); (try clear ho0)))
  go_ret2
  exact ⟨_, by first | rfl | (simp [errW_none, errW_some] <;> rfl) | (simp [*, errW_none, errW_some] <;> rfl), by (with_reducible repeat (first | apply Kd.R_alloc | apply Kd.R_drewN | apply Kd.R_drew)); exact HO716.out, by repeat (first | (with_reducible first | exact HB.out | apply below_alloc | apply pw_below_drewN | apply below_drew1) | exact HB.out)⟩
 ·replace c4 := Bool.eq_false_iff.mpr c4
  subst c4
  have H1 : (some (([] : List Int), false)) = some (r1, r2) := by rw [if_neg (show ¬ (false = true) by decide)] at H; exact H
  clear H
  have H := H1
  clear H1
  simp only [Option.some.injEq, Prod.mk.injEq] at H
  obtain ⟨rfl, rfl⟩ := H
  go_enter Try.func36, Try.ntmps36
  go_wp2_with (first | ((with_reducible refine gate_callee (f := 54) rfl ?_); refine goesL_ (some 8) rfl rfl Try.func54 (by kernel_rfl) rfl #[.int .i64 a0, .slice A1 l1.length c1] rfl (by (try simp only [List.map_toArray, List.map_cons, List.map_nil]); first | done | rfl | (simp only [List.length_drop, List.length_take]; rfl)) ?_; (with_reducible refine (impl_GoodEdges.calls k a0 _ _ l1 false _ ?side1 ?side2 A3.out).mono ?_); (case side1 => repeat (first | exact HR1.out | (with_reducible refine Kd.C_alloc ?_ _) | (with_reducible refine Kd.C_drewN ?_ _) | (with_reducible refine Kd.C_drew ?_))); (case side2 => exact HC1.out); rintro e w8 ⟨rfl, hb⟩; refine ⟨_, rfl, ?_⟩; have n0_ := Aside0.mk (below_step (by repeat (first | (with_reducible first | exact HB.out | apply below_alloc | apply pw_below_drewN | apply below_drew1) | exact HB.out)) hb); clear HB; have HB := n0_; clear n0_; (try clear hb); (try clear hb2); (try clear hk); (try clear hi)))
  go_ret2
  exact ⟨_, by first | rfl | (simp [errW_none, errW_some] <;> rfl) | (simp [*, errW_none, errW_some] <;> rfl), by first | exact Kd.R_nil _ _ _ _ _ | exact Kd.N_nil _ _ _ _ _ | exact Kd.V_nil _ _ _ _ _ | exact Kd.Q_nil _ _ _ _ _ | exact Kd.S_nil _ _ _ _ _, by repeat (first | (with_reducible first | exact HB.out | apply below_alloc | apply pw_below_drewN | apply below_drew1) | exact HB.out)⟩
def spec_DrawRelaxAll.l0 : Nat → Int → List (S67) → List Int → Int → List Int → Int → Int → Option (Int × (List (S67)) × List Int)
 | 0, _, _, _, _, _, _, _ => none
 | k + 1, x6, x7, x8, x9, x718000, x718001, x718002 => if x9 < x6 then ((spec_l1Cur_pick.f x718000 x718001 x718002 30).bind fun bt724 => ((spec_l1Cur_among.f x718000 bt724.2.1 bt724.2.2 (([0, 3, 9, 100000, bt724.1] : List Int))).bind fun bt730 => (if x8.length < 17592186044416 then (spec_DrawRelaxAll.l0 k x6 x7 (x8 ++ [bt730.1]) (wrap64 (x9 + 1)) x718000 bt730.2.1 bt730.2.2) else (none)))) else (if (x8.length : Int) > 0 then ((spec_l1Cur_one.f x718000 x718001 x718002 20).bind fun bt736 => (if bt736.1 = true then ((spec_l1Cur_among.f x718000 bt736.2.1 bt736.2.2 (([(-1), 100001] : List Int))).bind fun bt742 => (if 0 < (x8.length : Int) then (some (x6, x7, (x8.set (0 : Int).toNat bt742.1))) else (none))) else (some (x6, x7, x8)))) else (some (x6, x7, x8)))
def spec_DrawRelaxAll.f (k : Nat) (l0 : List Int) : Option (Int × (List (S67)) × List Int) := (spec_l1Cur_edges.f k l0 0 0).bind fun bt718 => (spec_DrawRelaxAll.l0 k bt718.1 bt718.2.1 ([] : List Int) 0 l0 bt718.2.2.1 bt718.2.2.2)
set_option maxHeartbeats 8000000 in
set_option maxRecDepth 100000 in
theorem spec_DrawRelaxAll.calls (k : Nat) (A0 : Option Addr) (c0 : Nat) (l0 : List Int) (r1 : Int) (r2 : List (S67)) (r3 : List Int) (w : World) (hr0 : Kd.C (Kd.int .u8) w A0 l0.length l0) (hc0 : l0.length ≤ c0) (h : spec_DrawRelaxAll.f k l0 = some (r1, r2, r3)) :
  Calls Try.prog 37 #[.slice A0 l0.length c0] w fun e w' => ∃ v1_ v2_ : Value, e = .returned (.tuple #[.int .i64 r1, v1_, v2_]) ∧ Kd.R k67 67 w' w.heap.size (fun _ => True) v1_ r2 ∧ Kd.R (Kd.int .i64) 3 w' w.heap.size (fun _ => True) v2_ r3 ∧ Below w.heap.size w w' := by
 have hu81 := Try.underlying81
 have HR0 := Aside0.mk hr0
 have HC0 := Aside0.mk hc0
 clear hr0 hc0
 have HB := Aside0.mk (Below.refl w.heap.size w)
 have H : ((spec_l1Cur_edges.f k l0 0 0).bind fun bt718 => (spec_DrawRelaxAll.l0 k bt718.1 bt718.2.1 ([] : List Int) 0 l0 bt718.2.2.1 bt718.2.2.2)) = some (r1, r2, r3) := h
 clear h
 replace H := Option.bind_eq_some_iff.mp H
 obtain ⟨⟨t718, t719, t722, t723⟩, A20, H⟩ := H
 replace H : (spec_DrawRelaxAll.l0 k t718 t719 ([] : List Int) 0 l0 t722 t723) = some (r1, r2, r3) := H
 have A2 := Aside0.mk A20
 clear A20
 have H' := Aside0.mk H
 clear H
 go_enter Try.func37, Try.ntmps37
 go_wp2_with (first | ((with_reducible refine gate_dst (N := 12) rfl ?_); refine box_event ?hg (N := 12) ?hd (cs := #[.slice A0 l0.length c0, .int .i64 0, .int .u64 0]) (t := 81) ?hr ?_; (case hd => rfl); (case hg => rfl); (case hr => first | (go_simp; done) | (go_simp; rfl)); intro gb717 hg w3 hbox hb; have n0_ := Aside0.mk (below_step (by repeat (first | (with_reducible first | exact HB.out | apply below_alloc | apply pw_below_drewN | apply below_drew1) | exact HB.out)) hb); have n1_ := Aside0.mk ((by rw [hg]; exact (below_size (by repeat (first | (with_reducible first | exact HB.out | apply below_alloc | apply pw_below_drewN | apply below_drew1) | exact HB.out))) : w.heap.size ≤ gb717)); have n2_ := Aside0.mk ((by rw [hg]; exact (below_size (by repeat (first | (with_reducible first | exact HB.out | apply below_alloc | apply pw_below_drewN | apply below_drew1) | exact HB.out))) : w.heap.size ≤ gb717)); have n3_ := Aside0.mk ((show IsS81 w _ gb717 l0 0 0 from ⟨_, _, hbox, (by rw [hg]; exact (below_size (by repeat (first | (with_reducible first | exact HB.out | apply below_alloc | apply pw_below_drewN | apply below_drew1) | exact HB.out))) : w.heap.size ≤ gb717), HR0.out⟩)); clear HB; have HB := n0_; have GW717 := n1_; have GE717 := n2_; have HI717 := n3_; clear n0_ n1_ n2_ n3_; clear hb hbox hg) | ((with_reducible refine gate_callee (f := 65) rfl ?_); refine goesL_ (some 15) rfl rfl Try.func65 (by kernel_rfl) rfl #[.pointer (some ⟨gb717, 0, none⟩)] rfl (by (try simp only [List.map_toArray, List.map_cons, List.map_nil]); first | done | rfl | (simp only [List.length_drop, List.length_take]; rfl)) ?_; (with_reducible refine (spec_l1Cur_edges.calls k gb717 l0 0 0 t718 t719 t722 t723 w _ ?side1 ?side2 A2.out).mono ?_); (case side1 => repeat (first | (with_reducible first | exact HI717.out | apply IsS81.alloc | apply IsS81.drewN | apply IsS81.drew | apply IsS81.set_1 | apply IsS81.set_2) | exact HI717.out)); (case side2 => repeat (first | (with_reducible first | exact HB.out | apply below_alloc | apply pw_below_drewN | apply below_drew1 | refine below_set ?_ (IsS81.ge HI717.out)) | exact HB.out)); rintro e w4 ⟨v720, rfl, ho0, hi, hb, hk⟩; refine ⟨_, rfl, ?_⟩; have n0_ := Aside0.mk (Kd.R_lower ho0 (below_size (by repeat (first | (with_reducible first | exact HB.out | apply below_alloc | apply pw_below_drewN | apply below_drew1 | refine below_set ?_ (IsS81.ge HI717.out)) | exact HB.out)))); have n1_ := Aside0.mk (hb); have n2_ := Aside0.mk (hi); clear HB; clear HI717; have HO721 := n0_; have HB := n1_; have HI717 := n2_; clear n0_ n1_ n2_; (try clear hb); (try clear hb2); (try clear hk); (try clear hi); (try clear ho0)))
 go_loopg [8, 9] k (fun kq v8 v9 w' => ∃ (x8_1 : List Int) (x9_1 : Int) (x718001_1 : Int) (x718002_1 : Int), v9 = .int .i64 x9_1 ∧ Aside0 (spec_DrawRelaxAll.l0 kq t718 t719 x8_1 x9_1 l0 x718001_1 x718002_1 = some (r1, r2, r3)) ∧ Aside0 (kq ≤ k) ∧ Aside0 (Kd.R k67 67 w' w.heap.size (fun _ => True) v720 t719) ∧ Aside0 (Kd.R (Kd.int .i64) 3 w' w.heap.size (fun _ => True) v8 x8_1) ∧ Aside0 (IsS81 w w' gb717 l0 x718001_1 x718002_1) ∧ Aside0 (Below w.heap.size w w'))
 case atStart => exact ⟨(([] : List Int)), (0), (t722), (t723), (by first | rfl | (simp; done) | (simp [*]; done)), H', ⟨Nat.le_refl _⟩, ⟨by (with_reducible repeat (first | apply Kd.R_alloc | apply Kd.R_drewN | apply Kd.R_drew)); exact HO721.out⟩, ⟨by first | exact Kd.R_nil _ _ _ _ _ | exact Kd.N_nil _ _ _ _ _ | exact Kd.V_nil _ _ _ _ _ | exact Kd.Q_nil _ _ _ _ _ | exact Kd.S_nil _ _ _ _ _⟩, ⟨by repeat (first | (with_reducible first | exact HI717.out | apply IsS81.alloc | apply IsS81.drewN | apply IsS81.drew | apply IsS81.set_1 | apply IsS81.set_2) | exact HI717.out)⟩, ⟨by repeat (first | (with_reducible first | exact HB.out | apply below_alloc | apply pw_below_drewN | apply below_drew1 | refine below_set ?_ (IsS81.ge HI717.out)) | exact HB.out)⟩⟩
 case round =>
  clear H'
  try clear p2
  try clear c3
  obtain ⟨x8_1, x9_1, x718001_1, x718002_1, rfl, HA, HK1, HO_7, HO_8, HI717, HB⟩ := hrel
  cases gk with
  | zero => exact absurd HA.out (by simp [spec_DrawRelaxAll.l0])
  | succ k1 =>
   have H := HA.out
   clear HA
   simp only [spec_DrawRelaxAll.l0] at H
   by_cases c5 : x9_1 < t718
   ·rw [if_pos c5] at H
    have c5b0 : decide (x9_1 < t718) = true := decide_eq_true c5
    clear c5
    replace H := Option.bind_eq_some_iff.mp H
    obtain ⟨⟨t724, t725, t726⟩, A60, H⟩ := H
    replace H : ((spec_l1Cur_among.f l0 t725 t726 (([0, 3, 9, 100000, t724] : List Int))).bind fun bt730 => (if x8_1.length < 17592186044416 then (spec_DrawRelaxAll.l0 k1 t718 t719 (x8_1 ++ [bt730.1]) (wrap64 (x9_1 + 1)) l0 bt730.2.1 bt730.2.2) else (none))) = some (r1, r2, r3) := H
    have A6 := Aside0.mk A60
    clear A60
    obtain ⟨y727, hy727⟩ : ∃ y_ : List Int, y_ = (([0, 3, 9, 100000, t724] : List Int)) := ⟨_, rfl⟩
    replace H : ((spec_l1Cur_among.f l0 t725 t726 y727).bind fun bt730 => (if x8_1.length < 17592186044416 then (spec_DrawRelaxAll.l0 k1 t718 t719 (x8_1 ++ [bt730.1]) (wrap64 (x9_1 + 1)) l0 bt730.2.1 bt730.2.2) else (none))) = some (r1, r2, r3) := by first | (rw [hy727]; with_reducible exact H) | (have H2_ := (Option.bind_some _ _).symm.trans H; rw [hy727]; with_reducible exact H2_) | (have H2_ := (Option.bind_some _ _).symm.trans H; with_reducible exact H2_) | with_reducible exact H | (rw [hy727]; exact H) | exact H
    have Ny727 := Aside0.mk hy727
    clear hy727
    replace H := Option.bind_eq_some_iff.mp H
    obtain ⟨⟨t730, t731, t732⟩, A70, H⟩ := H
    replace H : (if x8_1.length < 17592186044416 then (spec_DrawRelaxAll.l0 k1 t718 t719 (x8_1 ++ [t730]) (wrap64 (x9_1 + 1)) l0 t731 t732) else (none)) = some (r1, r2, r3) := H
    have A7 := Aside0.mk A70
    clear A70
    by_cases c8 : x8_1.length < 17592186044416
    ·rw [if_pos c8] at H
     have LMc8 := Aside0.mk c8
     clear c8
     obtain ⟨y733, hy733⟩ : ∃ y_ : List Int, y_ = (x8_1 ++ [t730]) := ⟨_, rfl⟩
     replace H : (spec_DrawRelaxAll.l0 k1 t718 t719 y733 (wrap64 (x9_1 + 1)) l0 t731 t732) = some (r1, r2, r3) := by first | (rw [hy733]; with_reducible exact H) | (have H2_ := (Option.bind_some _ _).symm.trans H; rw [hy733]; with_reducible exact H2_) | (have H2_ := (Option.bind_some _ _).symm.trans H; with_reducible exact H2_) | with_reducible exact H | (rw [hy733]; exact H) | exact H
     have Ny733 := Aside0.mk hy733
     clear hy733
     have H' := Aside0.mk H
     clear H
     go_wp2_with (first | ((with_reducible refine gate_callee (f := 67) rfl ?_); refine goesL_ (some 26) rfl rfl Try.func67 (by kernel_rfl) rfl #[.pointer (some ⟨gb717, 0, none⟩), .int .i64 30] rfl (by (try simp only [List.map_toArray, List.map_cons, List.map_nil]); first | done | rfl | (simp only [List.length_drop, List.length_take]; rfl)) ?_; (with_reducible refine (spec_l1Cur_pick.calls gb717 l0 x718001_1 x718002_1 30 t724 t725 t726 w _ ?side1 ?side2 A6.out).mono ?_); (case side1 => repeat (first | (with_reducible first | exact HI717.out | apply IsS81.alloc | apply IsS81.drewN | apply IsS81.drew | apply IsS81.set_1 | apply IsS81.set_2) | exact HI717.out)); (case side2 => repeat (first | (with_reducible first | exact HB.out | apply below_alloc | apply pw_below_drewN | apply below_drew1 | refine below_set ?_ (IsS81.ge HI717.out)) | exact HB.out)); rintro e w9 ⟨rfl, hi, hb, hk⟩; refine ⟨_, rfl, ?_⟩; have n0_ := Aside0.mk (Kd.R_mono (Kd.R_keep (IsS81.apart (show IsS81 w _ gb717 l0 x718001_1 x718002_1 from by repeat (first | (with_reducible first | exact HI717.out | apply IsS81.alloc | apply IsS81.drewN | apply IsS81.drew | apply IsS81.set_1 | apply IsS81.set_2) | exact HI717.out)) (by (with_reducible repeat (first | apply Kd.R_alloc | apply Kd.R_drewN | apply Kd.R_drew)); exact HO_7.out) (by decide)) hk (fun _ h => h.2)) (fun _ h => h.1)); have n1_ := Aside0.mk (Kd.R_mono (Kd.R_keep (IsS81.apart (show IsS81 w _ gb717 l0 x718001_1 x718002_1 from by repeat (first | (with_reducible first | exact HI717.out | apply IsS81.alloc | apply IsS81.drewN | apply IsS81.drew | apply IsS81.set_1 | apply IsS81.set_2) | exact HI717.out)) (by (with_reducible repeat (first | apply Kd.R_alloc | apply Kd.R_drewN | apply Kd.R_drew)); exact HO_8.out) (by decide)) hk (fun _ h => h.2)) (fun _ h => h.1)); have n2_ := Aside0.mk (hb); have n3_ := Aside0.mk (hi); clear HO_7; clear HO_8; clear HB; clear HI717; have HO_7 := n0_; have HO_8 := n1_; have HB := n2_; have HI717 := n3_; clear n0_ n1_ n2_ n3_; (try clear hb); (try clear hb2); (try clear hk); (try clear hi)) | ((with_reducible refine gate_dst (N := 27) rfl ?_); refine Kd.R_lit (Kd.int .i64) _ 3 ?hg (N := 27) ?hd (xs := ([0, 3, 9, 100000, t724] : List Int)) (inner := [.int .i64 0, .int .i64 3, .int .i64 9, .int .i64 100000, .int .i64 t724]) (ok := fun _ => True) (okp := fun _ => True) ?hr ?hp (fun _ hk => hk) trivial (Below.refl _ _) (Nat.le_refl _) (by simp) ?_; (case hd => rfl); (case hg => rfl); (case hr => first | (go_simp; done) | (go_simp; rfl)); (case hp => exact (Reps.one (show Kd.M (Kd.int .i64) _ _ _ 0 [.int .i64 0] from rfl) (Reps.one (show Kd.M (Kd.int .i64) _ _ _ 3 [.int .i64 3] from rfl) (Reps.one (show Kd.M (Kd.int .i64) _ _ _ 9 [.int .i64 9] from rfl) (Reps.one (show Kd.M (Kd.int .i64) _ _ _ 100000 [.int .i64 100000] from rfl) (Reps.one (show Kd.M (Kd.int .i64) _ _ _ t724 [.int .i64 t724] from rfl) (Reps.none _ _))))))); intro v728 w10 ho11 hb hg_ hnew_; clear hg_ hnew_; (first | rw [← Ny727.out] at ho11 | (simp only [Int.reduceToNat] at ho11; rw [← Ny727.out] at ho11)); have n0_ := Aside0.mk (Kd.R_below (by (with_reducible repeat (first | apply Kd.R_alloc | apply Kd.R_drewN | apply Kd.R_drew)); exact HO_7.out) hb); have n1_ := Aside0.mk (Kd.R_elder' (by (with_reducible repeat (first | apply Kd.R_alloc | apply Kd.R_drewN | apply Kd.R_drew)); exact HO_8.out) (Kd.R_base ho11) hb); have n2_ := Aside0.mk (Kd.R_lower (Kd.R_new' ho11 (Kd.R_lt (by (with_reducible repeat (first | apply Kd.R_alloc | apply Kd.R_drewN | apply Kd.R_drew)); exact HO_8.out))) (below_size (by repeat (first | (with_reducible first | exact HB.out | apply below_alloc | apply pw_below_drewN | apply below_drew1 | refine below_set ?_ (IsS81.ge HI717.out)) | exact HB.out)))); have n3_ := Aside0.mk (IsS81.below (by repeat (first | (with_reducible first | exact HI717.out | apply IsS81.alloc | apply IsS81.drewN | apply IsS81.drew | apply IsS81.set_1 | apply IsS81.set_2) | exact HI717.out)) hb); have n4_ := Aside0.mk (below_step (by repeat (first | (with_reducible first | exact HB.out | apply below_alloc | apply pw_below_drewN | apply below_drew1 | refine below_set ?_ (IsS81.ge HI717.out)) | exact HB.out)) hb); clear HO_7; clear HO_8; clear HI717; clear HB; have HO_7 := n0_; have HO_8 := n1_; have HO729 := n2_; have HI717 := n3_; have HB := n4_; clear n0_ n1_ n2_ n3_ n4_; clear hb ho11; obtain ⟨Ao12, co12, eo12⟩ := Kd.R_slice HO729.out; subst eo12) | ((with_reducible refine gate_callee (f := 66) rfl ?_); refine goesL_ (some 28) rfl rfl Try.func66 (by kernel_rfl) rfl #[.pointer (some ⟨gb717, 0, none⟩), .slice Ao12 y727.length co12] rfl (by (try simp only [List.map_toArray, List.map_cons, List.map_nil]); first | done | rfl | (simp only [List.length_drop, List.length_take]; rfl)) ?_; (with_reducible refine (spec_l1Cur_among.calls gb717 l0 t725 t726 _ _ y727 t730 t731 t732 w _ ?side1 ?side2 ?side3 ?side4 ?side5 A7.out).mono ?_); (case side1 => repeat (first | (with_reducible first | exact HI717.out | apply IsS81.alloc | apply IsS81.drewN | apply IsS81.drew | apply IsS81.set_1 | apply IsS81.set_2) | exact HI717.out)); (case side2 => repeat (first | (with_reducible first | exact HB.out | apply below_alloc | apply pw_below_drewN | apply below_drew1 | refine below_set ?_ (IsS81.ge HI717.out)) | exact HB.out)); (case side3 => repeat (first | exact (Kd.R_reads' HO729.out).2.2 | (with_reducible refine Kd.C_alloc ?_ _) | (with_reducible refine Kd.C_drewN ?_ _) | (with_reducible refine Kd.C_drew ?_))); (case side4 => exact (Kd.R_reads' HO729.out).2.1); (case side5 => exact far_slice (IsS81.own_ne HI717.out HO729.out (by decide))); rintro e w13 ⟨rfl, hi, hb, hk⟩; refine ⟨_, rfl, ?_⟩; have n0_ := Aside0.mk (Kd.R_mono (Kd.R_keep (IsS81.apart (show IsS81 w _ gb717 l0 t725 t726 from by repeat (first | (with_reducible first | exact HI717.out | apply IsS81.alloc | apply IsS81.drewN | apply IsS81.drew | apply IsS81.set_1 | apply IsS81.set_2) | exact HI717.out)) (by (with_reducible repeat (first | apply Kd.R_alloc | apply Kd.R_drewN | apply Kd.R_drew)); exact HO_7.out) (by decide)) hk (fun _ h => h.2)) (fun _ h => h.1)); have n1_ := Aside0.mk (Kd.R_mono (Kd.R_keep (IsS81.apart (show IsS81 w _ gb717 l0 t725 t726 from by repeat (first | (with_reducible first | exact HI717.out | apply IsS81.alloc | apply IsS81.drewN | apply IsS81.drew | apply IsS81.set_1 | apply IsS81.set_2) | exact HI717.out)) (by (with_reducible repeat (first | apply Kd.R_alloc | apply Kd.R_drewN | apply Kd.R_drew)); exact HO_8.out) (by decide)) hk (fun _ h => h.2)) (fun _ h => h.1)); have n2_ := Aside0.mk (Kd.R_mono (Kd.R_keep (IsS81.apart (show IsS81 w _ gb717 l0 t725 t726 from by repeat (first | (with_reducible first | exact HI717.out | apply IsS81.alloc | apply IsS81.drewN | apply IsS81.drew | apply IsS81.set_1 | apply IsS81.set_2) | exact HI717.out)) (by (with_reducible repeat (first | apply Kd.R_alloc | apply Kd.R_drewN | apply Kd.R_drew)); exact HO729.out) (by decide)) hk (fun _ h => h.2)) (fun _ h => h.1)); have n3_ := Aside0.mk (hb); have n4_ := Aside0.mk (hi); clear HO_7; clear HO_8; clear HO729; clear HB; clear HI717; have HO_7 := n0_; have HO_8 := n1_; have HO729 := n2_; have HB := n3_; have HI717 := n4_; clear n0_ n1_ n2_ n3_ n4_; (try clear hb); (try clear hb2); (try clear hk); (try clear hi)) | ((with_reducible refine gate_builtin (b := .append) (xs := #[.tmp 23, .tmp 29]) rfl ?_); at_builtin; refine Kd.R_append (Kd.int .i64) (w0 := w) w.heap.size rfl (.tmp 23) (.tmp 29) 23 3 (.int .i64 0) 8 rfl Try.underlying23 info3 rfl (by decide) (by omega) u8 x8_1 t730 [.int .i64 t730] (fun k_ => some k_ ≠ (.slice Ao12 y727.length co12 : Value).ownBlock) (fun _ => False) rfl rfl ?aP (fun _ hk => hk.elim) ?aF ?aO ?aB ?aS ?aL ?_; (case aP => exact rfl); (case aB => exact (by repeat (first | (with_reducible first | exact HB.out | apply below_alloc | apply pw_below_drewN | apply below_drew1 | refine below_set ?_ (IsS81.ge HI717.out)) | exact HB.out))); (case aF => exact (fun k_ hk => Kd.fresh' (Kd.R_lt (by (with_reducible repeat (first | apply Kd.R_alloc | apply Kd.R_drewN | apply Kd.R_drew)); exact HO729.out)) k_ hk)); (case aO => exact (by (with_reducible repeat (first | apply Kd.R_alloc | apply Kd.R_drewN | apply Kd.R_drew)); exact Kd.R_mono HO_8.out (fun _ hk => hk.2))); (case aS => exact (below_size (by repeat (first | (with_reducible first | exact HB.out | apply below_alloc | apply pw_below_drewN | apply below_drew1 | refine below_set ?_ (IsS81.ge HI717.out)) | exact HB.out)))); (case aL => have := LMc8.out; omega); intro v734 w14 ho hb hg hat; rw [← Ny733.out] at ho; have n0_ := Aside0.mk (Kd.R_over' (by (with_reducible repeat (first | apply Kd.R_alloc | apply Kd.R_drewN | apply Kd.R_drew)); exact HO_7.out) (Kd.R_typed (by (with_reducible repeat (first | apply Kd.R_alloc | apply Kd.R_drewN | apply Kd.R_drew)); exact HO_8.out)) (by decide) hg); have n1_ := Aside0.mk (IsS81.grown (by repeat (first | (with_reducible first | exact HI717.out | apply IsS81.alloc | apply IsS81.drewN | apply IsS81.drew | apply IsS81.set_1 | apply IsS81.set_2) | exact HI717.out)) hg (IsS81.own_ne HI717.out HO_8.out (by decide))); have n2_ := Aside0.mk (Kd.R_after (ok := (fun _ => True)) (by (with_reducible repeat (first | apply Kd.R_alloc | apply Kd.R_drewN | apply Kd.R_drew)); exact HO729.out) hg hat); have n3_ := Aside0.mk (hb); have n4_ := Aside0.mk (ho); clear HO_7; clear HI717; clear HO729; clear HB; clear HO_8; have HO_7 := n0_; have HI717 := n1_; have HO729 := n2_; have HB := n3_; have HO735 := n4_; clear n0_ n1_ n2_ n3_ n4_; clear ho hb hg hat))
     go_roundg k1
     case measure => have := HK1.out; omega
     case rel => exact ⟨(y733), (wrap64 (x9_1 + 1)), (t731), (t732), (by first | rfl | (simp; done) | (simp [*]; done)), H', ⟨by have := HK1.out; omega⟩, ⟨by (with_reducible repeat (first | apply Kd.R_alloc | apply Kd.R_drewN | apply Kd.R_drew)); exact HO_7.out⟩, ⟨by (with_reducible repeat (first | apply Kd.R_alloc | apply Kd.R_drewN | apply Kd.R_drew)); exact Kd.R_mono HO735.out (fun _ hk => trivial)⟩, ⟨by repeat (first | (with_reducible first | exact HI717.out | apply IsS81.alloc | apply IsS81.drewN | apply IsS81.drew | apply IsS81.set_1 | apply IsS81.set_2) | exact HI717.out)⟩, ⟨by repeat (first | (with_reducible first | exact HB.out | apply below_alloc | apply pw_below_drewN | apply below_drew1 | refine below_set ?_ (IsS81.ge HI717.out)) | exact HB.out)⟩⟩
    ·rw [if_neg c8] at H
     exact absurd H (by simp)
   ·rw [if_neg c5] at H
    have c5b0 : decide (x9_1 < t718) = false := decide_eq_false c5
    clear c5
    by_cases c15 : (x8_1.length : Int) > 0
    ·rw [if_pos c15] at H
     have c15b0 : decide (0 < (x8_1.length : Int)) = true := decide_eq_true c15
     have c15b1 : decide (0 < x8_1.length) = true := decide_eq_true (by omega)
     clear c15
     replace H := Option.bind_eq_some_iff.mp H
     obtain ⟨⟨t736, t737, t738⟩, A160, H⟩ := H
     replace H : (if t736 = true then ((spec_l1Cur_among.f l0 t737 t738 (([(-1), 100001] : List Int))).bind fun bt742 => (if 0 < (x8_1.length : Int) then (some (t718, t719, (x8_1.set (0 : Int).toNat bt742.1))) else (none))) else (some (t718, t719, x8_1))) = some (r1, r2, r3) := H
     have A16 := Aside0.mk A160
     clear A160
     by_cases c17 : t736 = true
     ·subst c17
      have H1 : ((spec_l1Cur_among.f l0 t737 t738 (([(-1), 100001] : List Int))).bind fun bt742 => (if 0 < (x8_1.length : Int) then (some (t718, t719, (x8_1.set (0 : Int).toNat bt742.1))) else (none))) = some (r1, r2, r3) := by rw [if_pos rfl] at H; exact H
      clear H
      have H := H1
      clear H1
      obtain ⟨y739, hy739⟩ : ∃ y_ : List Int, y_ = (([(-1), 100001] : List Int)) := ⟨_, rfl⟩
      replace H : ((spec_l1Cur_among.f l0 t737 t738 y739).bind fun bt742 => (if 0 < (x8_1.length : Int) then (some (t718, t719, (x8_1.set (0 : Int).toNat bt742.1))) else (none))) = some (r1, r2, r3) := by first | (rw [hy739]; with_reducible exact H) | (have H2_ := (Option.bind_some _ _).symm.trans H; rw [hy739]; with_reducible exact H2_) | (have H2_ := (Option.bind_some _ _).symm.trans H; with_reducible exact H2_) | with_reducible exact H | (rw [hy739]; exact H) | exact H
      have Ny739 := Aside0.mk hy739
      clear hy739
      replace H := Option.bind_eq_some_iff.mp H
      obtain ⟨⟨t742, t743, t744⟩, A180, H⟩ := H
      replace H : (if 0 < (x8_1.length : Int) then (some (t718, t719, (x8_1.set (0 : Int).toNat t742))) else (none)) = some (r1, r2, r3) := H
      have A18 := Aside0.mk A180
      clear A180
      by_cases c19 : 0 < (x8_1.length : Int)
      ·rw [if_pos c19] at H
       have c19b0 : decide (0 < (x8_1.length : Int)) = true := decide_eq_true c19
       have c19b1 : decide (0 < x8_1.length) = true := decide_eq_true (by omega)
       clear c19
       obtain ⟨y745, hy745⟩ : ∃ y_ : List Int, y_ = (x8_1.set (0 : Int).toNat t742) := ⟨_, rfl⟩
       replace H : (some (t718, t719, y745)) = some (r1, r2, r3) := by first | (rw [hy745]; with_reducible exact H) | (have H2_ := (Option.bind_some _ _).symm.trans H; rw [hy745]; with_reducible exact H2_) | (have H2_ := (Option.bind_some _ _).symm.trans H; with_reducible exact H2_) | with_reducible exact H | (rw [hy745]; exact H) | exact H
       have Ny745 := Aside0.mk hy745
       clear hy745
       simp only [Option.some.injEq, Prod.mk.injEq] at H
       obtain ⟨rfl, rfl, rfl⟩ := H
       obtain ⟨Ao21, co21, eo21⟩ := Kd.R_slice HO_8.out
       subst eo21
       go_wp2_with (first | (go_at_call 68; (with_reducible refine (spec_l1Cur_one.calls gb717 l0 x718001_1 x718002_1 20 true t737 t738 w _ ?side1 ?side2 A16.out).mono ?_); (case side1 => repeat (first | (with_reducible first | exact HI717.out | apply IsS81.alloc | apply IsS81.drewN | apply IsS81.drew | apply IsS81.set_1 | apply IsS81.set_2) | exact HI717.out)); (case side2 => repeat (first | (with_reducible first | exact HB.out | apply below_alloc | apply pw_below_drewN | apply below_drew1 | refine below_set ?_ (IsS81.ge HI717.out)) | exact HB.out)); rintro e w22 ⟨rfl, hi, hb, hk⟩; have n0_ := Aside0.mk (Kd.R_mono (Kd.R_keep (IsS81.apart (show IsS81 w _ gb717 l0 x718001_1 x718002_1 from by repeat (first | (with_reducible first | exact HI717.out | apply IsS81.alloc | apply IsS81.drewN | apply IsS81.drew | apply IsS81.set_1 | apply IsS81.set_2) | exact HI717.out)) (by (with_reducible repeat (first | apply Kd.R_alloc | apply Kd.R_drewN | apply Kd.R_drew)); exact HO_7.out) (by decide)) hk (fun _ h => h.2)) (fun _ h => h.1)); have n1_ := Aside0.mk (Kd.R_mono (Kd.R_keep (IsS81.apart (show IsS81 w _ gb717 l0 x718001_1 x718002_1 from by repeat (first | (with_reducible first | exact HI717.out | apply IsS81.alloc | apply IsS81.drewN | apply IsS81.drew | apply IsS81.set_1 | apply IsS81.set_2) | exact HI717.out)) (by (with_reducible repeat (first | apply Kd.R_alloc | apply Kd.R_drewN | apply Kd.R_drew)); exact HO_8.out) (by decide)) hk (fun _ h => h.2)) (fun _ h => h.1)); have n2_ := Aside0.mk (hb); have n3_ := Aside0.mk (hi); clear HO_7; clear HO_8; clear HB; clear HI717; have HO_7 := n0_; have HO_8 := n1_; have HB := n2_; have HI717 := n3_; clear n0_ n1_ n2_ n3_; (try clear hb); (try clear hb2); (try clear hk); (try clear hi)) | ((with_reducible refine gate_dst (N := 40) rfl ?_); refine Kd.R_lit (Kd.int .i64) _ 3 ?hg (N := 40) ?hd (xs := ([(-1), 100001] : List Int)) (inner := [.int .i64 (-1), .int .i64 100001]) (ok := fun _ => True) (okp := fun _ => True) ?hr ?hp (fun _ hk => hk) trivial (Below.refl _ _) (Nat.le_refl _) (by simp) ?_; (case hd => rfl); (case hg => rfl); (case hr => first | (go_simp; done) | (go_simp; rfl)); (case hp => exact (Reps.one (show Kd.M (Kd.int .i64) _ _ _ (-1) [.int .i64 (-1)] from rfl) (Reps.one (show Kd.M (Kd.int .i64) _ _ _ 100001 [.int .i64 100001] from rfl) (Reps.none _ _)))); intro v740 w23 ho24 hb hg_ hnew_; clear hg_ hnew_; (first | rw [← Ny739.out] at ho24 | (simp only [Int.reduceToNat] at ho24; rw [← Ny739.out] at ho24)); have n0_ := Aside0.mk (Kd.R_below (by (with_reducible repeat (first | apply Kd.R_alloc | apply Kd.R_drewN | apply Kd.R_drew)); exact HO_7.out) hb); have n1_ := Aside0.mk (Kd.R_elder' (by (with_reducible repeat (first | apply Kd.R_alloc | apply Kd.R_drewN | apply Kd.R_drew)); exact HO_8.out) (Kd.R_base ho24) hb); have n2_ := Aside0.mk (Kd.R_lower (Kd.R_new' ho24 (Kd.R_lt (by (with_reducible repeat (first | apply Kd.R_alloc | apply Kd.R_drewN | apply Kd.R_drew)); exact HO_8.out))) (below_size (by repeat (first | (with_reducible first | exact HB.out | apply below_alloc | apply pw_below_drewN | apply below_drew1 | refine below_set ?_ (IsS81.ge HI717.out)) | exact HB.out)))); have n3_ := Aside0.mk (IsS81.below (by repeat (first | (with_reducible first | exact HI717.out | apply IsS81.alloc | apply IsS81.drewN | apply IsS81.drew | apply IsS81.set_1 | apply IsS81.set_2) | exact HI717.out)) hb); have n4_ := Aside0.mk (below_step (by repeat (first | (with_reducible first | exact HB.out | apply below_alloc | apply pw_below_drewN | apply below_drew1 | refine below_set ?_ (IsS81.ge HI717.out)) | exact HB.out)) hb); clear HO_7; clear HO_8; clear HI717; clear HB; have HO_7 := n0_; have HO_8 := n1_; have HO741 := n2_; have HI717 := n3_; have HB := n4_; clear n0_ n1_ n2_ n3_ n4_; clear hb ho24; obtain ⟨Ao25, co25, eo25⟩ := Kd.R_slice HO741.out; subst eo25) | ((with_reducible refine gate_callee (f := 66) rfl ?_); refine goesL_ (some 41) rfl rfl Try.func66 (by kernel_rfl) rfl #[.pointer (some ⟨gb717, 0, none⟩), .slice Ao25 y739.length co25] rfl (by (try simp only [List.map_toArray, List.map_cons, List.map_nil]); first | done | rfl | (simp only [List.length_drop, List.length_take]; rfl)) ?_; (with_reducible refine (spec_l1Cur_among.calls gb717 l0 t737 t738 _ _ y739 t742 t743 t744 w _ ?side1 ?side2 ?side3 ?side4 ?side5 A18.out).mono ?_); (case side1 => repeat (first | (with_reducible first | exact HI717.out | apply IsS81.alloc | apply IsS81.drewN | apply IsS81.drew | apply IsS81.set_1 | apply IsS81.set_2) | exact HI717.out)); (case side2 => repeat (first | (with_reducible first | exact HB.out | apply below_alloc | apply pw_below_drewN | apply below_drew1 | refine below_set ?_ (IsS81.ge HI717.out)) | exact HB.out)); (case side3 => repeat (first | exact (Kd.R_reads' HO741.out).2.2 | (with_reducible refine Kd.C_alloc ?_ _) | (with_reducible refine Kd.C_drewN ?_ _) | (with_reducible refine Kd.C_drew ?_))); (case side4 => exact (Kd.R_reads' HO741.out).2.1); (case side5 => exact far_slice (IsS81.own_ne HI717.out HO741.out (by decide))); rintro e w26 ⟨rfl, hi, hb, hk⟩; refine ⟨_, rfl, ?_⟩; have n0_ := Aside0.mk (Kd.R_mono (Kd.R_keep (IsS81.apart (show IsS81 w _ gb717 l0 t737 t738 from by repeat (first | (with_reducible first | exact HI717.out | apply IsS81.alloc | apply IsS81.drewN | apply IsS81.drew | apply IsS81.set_1 | apply IsS81.set_2) | exact HI717.out)) (by (with_reducible repeat (first | apply Kd.R_alloc | apply Kd.R_drewN | apply Kd.R_drew)); exact HO_7.out) (by decide)) hk (fun _ h => h.2)) (fun _ h => h.1)); have n1_ := Aside0.mk (Kd.R_mono (Kd.R_keep (IsS81.apart (show IsS81 w _ gb717 l0 t737 t738 from by repeat (first | (with_reducible first | exact HI717.out | apply IsS81.alloc | apply IsS81.drewN | apply IsS81.drew | apply IsS81.set_1 | apply IsS81.set_2) | exact HI717.out)) (by (with_reducible repeat (first | apply Kd.R_alloc | apply Kd.R_drewN | apply Kd.R_drew)); exact HO_8.out) (by decide)) hk (fun _ h => h.2)) (fun _ h => h.1)); have n2_ := Aside0.mk (Kd.R_mono (Kd.R_keep (IsS81.apart (show IsS81 w _ gb717 l0 t737 t738 from by repeat (first | (with_reducible first | exact HI717.out | apply IsS81.alloc | apply IsS81.drewN | apply IsS81.drew | apply IsS81.set_1 | apply IsS81.set_2) | exact HI717.out)) (by (with_reducible repeat (first | apply Kd.R_alloc | apply Kd.R_drewN | apply Kd.R_drew)); exact HO741.out) (by decide)) hk (fun _ h => h.2)) (fun _ h => h.1)); have n3_ := Aside0.mk (hb); have n4_ := Aside0.mk (hi); clear HO_7; clear HO_8; clear HO741; clear HB; clear HI717; have HO_7 := n0_; have HO_8 := n1_; have HO741 := n2_; have HB := n3_; have HI717 := n4_; clear n0_ n1_ n2_ n3_ n4_; (try clear hb); (try clear hb2); (try clear hk); (try clear hi); have p20 : 0 ≤ (0 : Int) := (by omega); have q20 : (0 : Int) < ((x8_1.length : Int) : Int) := of_decide_eq_true (by first | (with_reducible assumption) | assumption); have qi20 : (0 < x8_1.length) = True := eq_true (by omega); obtain ⟨go20, co20, eo20, gb20, gl20, cl20, HG20⟩ := Kd.R_form HO_8.out (by omega); (first | cases eo20 | (injection eo20 with ea_ en_ ec_; (first | subst ea_ | (injection ea_ with ea_; subst ea_)); subst ec_; clear en_)); have GB20 := Aside0.mk gb20; have GG20 := Aside0.mk HG20; clear gb20 gl20 HG20; obtain ⟨hx20_0, hf20_0⟩ := Kd.R_celln 0 HO_8.out (0 : Int) p20 q20; (try rw [show ((0 : Int)).toNat = 0 from rfl] at hx20_0); (try simp only [Nat.reduceMul, Nat.zero_mul, Nat.zero_add, Nat.reduceAdd] at hx20_0); (try rw [show ((0 : Int)).toNat = 0 from rfl] at hf20_0); (try simp only [Nat.reduceMul, Nat.zero_mul, Nat.zero_add, Nat.reduceAdd] at hf20_0); replace p20 := eq_true p20; replace q20 := eq_true q20; have n_ := Aside0.mk (Kd.R_mono (ok' := (fun k_ => some k_ ≠ (.slice Ao25 y739.length co25 : Value).ownBlock)) HO_8.out (fun k_ hk => hk.2)); clear HO_8; have HO_8 := n_; clear n_; obtain ⟨hy27_, hz27_⟩ := Kd.R_celln 0 HO_8.out (0 : Int) (by omega) (of_decide_eq_true (by first | (with_reducible assumption) | assumption)); (try simp only [Int.reduceToNat, Int.toNat_zero, Int.toNat_ofNat, Nat.reduceMul, Nat.zero_mul, Nat.zero_add] at hy27_ hz27_); (try rw [show ((0 : Int)).toNat = 0 from rfl] at hy27_); (try rw [show ((0 : Int)).toNat = 0 from rfl] at hz27_); have HP27 := Kd.R_putg HO_8.out (0 : Int) t742) | ((with_reducible refine gate_store (t := 3) (p := 42) rfl ?_); refine store_event (t := 3) (p := 42) (v := ?vo_w28) (w1 := (w26.setCell ⟨go20, (0 : Int).toNat, none⟩ (.int .i64 t742))) ?hg ?ho ?hn ?hr ?_; (case ho => rfl); (case hg => rfl); (case hn => rfl); (case hr => first | (go_simp; done) | (go_simp; rfl)); intro w28 hw; have hg : w26.grownBy w28 (some go20) := (by rw [hw]; exact HP27.2); have hp_ : Kd.R (Kd.int .i64) 3 w28 w.heap.size (fun k_ => some k_ ≠ (.slice Ao25 y739.length co25 : Value).ownBlock) (.slice (some ⟨go20, 0, none⟩) x8_1.length co21) y745 := (by rw [hw, Ny745.out]; exact HP27.1); clear HP27; have n0_ := Aside0.mk (Kd.R_over' (v := (.slice (some ⟨go20, 0, none⟩) x8_1.length co21)) (by (with_reducible repeat (first | apply Kd.R_alloc | apply Kd.R_drewN | apply Kd.R_drew)); exact HO_7.out) (Kd.R_typed HO_8.out) (by decide) hg); have n1_ := Aside0.mk (hp_); have n2_ := Aside0.mk (IsS81.grown (by repeat (first | (with_reducible first | exact HI717.out | apply IsS81.alloc | apply IsS81.drewN | apply IsS81.drew | apply IsS81.set_1 | apply IsS81.set_2) | exact HI717.out)) hg (IsS81.own_ne HI717.out HO_8.out (by decide))); have n3_ := Aside0.mk (Kd.R_after (v := (.slice (some ⟨go20, 0, none⟩) x8_1.length co21)) (v1 := (.slice (some ⟨go20, 0, none⟩) x8_1.length co21)) (ok := (fun _ => True)) (by (with_reducible repeat (first | apply Kd.R_alloc | apply Kd.R_drewN | apply Kd.R_drew)); exact HO741.out) hg (.inl rfl)); have n4_ := Aside0.mk ((by rw [hw]; exact below_set (HB.out) GB20.out : Below w.heap.size w w28)); clear HO_7; clear HO_8; clear HI717; clear HO741; clear HB; have HO_7 := n0_; have HO_8 := n1_; have HI717 := n2_; have HO741 := n3_; have HB := n4_; clear n0_ n1_ n2_ n3_ n4_; clear hg hw hp_))
       go_ret3
       exact ⟨_, _, by first | rfl | (simp [errW_none, errW_some] <;> rfl) | (simp [*, errW_none, errW_some] <;> rfl), by (with_reducible repeat (first | apply Kd.R_alloc | apply Kd.R_drewN | apply Kd.R_drew)); exact HO_7.out, by (with_reducible repeat (first | apply Kd.R_alloc | apply Kd.R_drewN | apply Kd.R_drew)); exact Kd.R_mono HO_8.out (fun _ hk => trivial), by repeat (first | (with_reducible first | exact HB.out | apply below_alloc | apply pw_below_drewN | apply below_drew1 | refine below_set ?_ (IsS81.ge HI717.out)) | exact HB.out)⟩
      ·rw [if_neg c19] at H
       exact absurd H (by simp)
     ·replace c17 := Bool.eq_false_iff.mpr c17
      subst c17
      have H1 : (some (t718, t719, x8_1)) = some (r1, r2, r3) := by rw [if_neg (show ¬ (false = true) by decide)] at H; exact H
      clear H
      have H := H1
      clear H1
      simp only [Option.some.injEq, Prod.mk.injEq] at H
      obtain ⟨rfl, rfl, rfl⟩ := H
      obtain ⟨Ao29, co29, eo29⟩ := Kd.R_slice HO_8.out
      subst eo29
      go_wp2_with (first | (go_at_call 68; (with_reducible refine (spec_l1Cur_one.calls gb717 l0 x718001_1 x718002_1 20 false t737 t738 w _ ?side1 ?side2 A16.out).mono ?_); (case side1 => repeat (first | (with_reducible first | exact HI717.out | apply IsS81.alloc | apply IsS81.drewN | apply IsS81.drew | apply IsS81.set_1 | apply IsS81.set_2) | exact HI717.out)); (case side2 => repeat (first | (with_reducible first | exact HB.out | apply below_alloc | apply pw_below_drewN | apply below_drew1 | refine below_set ?_ (IsS81.ge HI717.out)) | exact HB.out)); rintro e w30 ⟨rfl, hi, hb, hk⟩; have n0_ := Aside0.mk (Kd.R_mono (Kd.R_keep (IsS81.apart (show IsS81 w _ gb717 l0 x718001_1 x718002_1 from by repeat (first | (with_reducible first | exact HI717.out | apply IsS81.alloc | apply IsS81.drewN | apply IsS81.drew | apply IsS81.set_1 | apply IsS81.set_2) | exact HI717.out)) (by (with_reducible repeat (first | apply Kd.R_alloc | apply Kd.R_drewN | apply Kd.R_drew)); exact HO_7.out) (by decide)) hk (fun _ h => h.2)) (fun _ h => h.1)); have n1_ := Aside0.mk (Kd.R_mono (Kd.R_keep (IsS81.apart (show IsS81 w _ gb717 l0 x718001_1 x718002_1 from by repeat (first | (with_reducible first | exact HI717.out | apply IsS81.alloc | apply IsS81.drewN | apply IsS81.drew | apply IsS81.set_1 | apply IsS81.set_2) | exact HI717.out)) (by (with_reducible repeat (first | apply Kd.R_alloc | apply Kd.R_drewN | apply Kd.R_drew)); exact HO_8.out) (by decide)) hk (fun _ h => h.2)) (fun _ h => h.1)); have n2_ := Aside0.mk (hb); have n3_ := Aside0.mk (hi); clear HO_7; clear HO_8; clear HB; clear HI717; have HO_7 := n0_; have HO_8 := n1_; have HB := n2_; have HI717 := n3_; clear n0_ n1_ n2_ n3_; (try clear hb); (try clear hb2); (try clear hk); (try clear hi)))
      go_ret3
      exact ⟨_, _, by first | rfl | (simp [errW_none, errW_some] <;> rfl) | (simp [*, errW_none, errW_some] <;> rfl), by (with_reducible repeat (first | apply Kd.R_alloc | apply Kd.R_drewN | apply Kd.R_drew)); exact HO_7.out, by (with_reducible repeat (first | apply Kd.R_alloc | apply Kd.R_drewN | apply Kd.R_drew)); exact HO_8.out, by repeat (first | (with_reducible first | exact HB.out | apply below_alloc | apply pw_below_drewN | apply below_drew1 | refine below_set ?_ (IsS81.ge HI717.out)) | exact HB.out)⟩
    ·rw [if_neg c15] at H
     have c15b0 : decide (0 < (x8_1.length : Int)) = false := decide_eq_false c15
     have c15b1 : decide (0 < x8_1.length) = false := decide_eq_false (by omega)
     clear c15
     simp only [Option.some.injEq, Prod.mk.injEq] at H
     obtain ⟨rfl, rfl, rfl⟩ := H
     obtain ⟨Ao31, co31, eo31⟩ := Kd.R_slice HO_8.out
     subst eo31
     go_wp2
     go_ret3
     exact ⟨_, _, by first | rfl | (simp [errW_none, errW_some] <;> rfl) | (simp [*, errW_none, errW_some] <;> rfl), by (with_reducible repeat (first | apply Kd.R_alloc | apply Kd.R_drewN | apply Kd.R_drew)); exact HO_7.out, by (with_reducible repeat (first | apply Kd.R_alloc | apply Kd.R_drewN | apply Kd.R_drew)); exact HO_8.out, by repeat (first | (with_reducible first | exact HB.out | apply below_alloc | apply pw_below_drewN | apply below_drew1 | refine below_set ?_ (IsS81.ge HI717.out)) | exact HB.out)⟩
def spec_DrawGoodEdges.f (k : Nat) (l0 : List Int) : Option (Int × (List (S67))) := (spec_l1Cur_edges.f k l0 0 0).bind fun bt747 => (some (bt747.1, bt747.2.1))
set_option maxHeartbeats 8000000 in
set_option maxRecDepth 100000 in
theorem spec_DrawGoodEdges.calls (k : Nat) (A0 : Option Addr) (c0 : Nat) (l0 : List Int) (r1 : Int) (r2 : List (S67)) (w : World) (hr0 : Kd.C (Kd.int .u8) w A0 l0.length l0) (hc0 : l0.length ≤ c0) (h : spec_DrawGoodEdges.f k l0 = some (r1, r2)) :
  Calls Try.prog 69 #[.slice A0 l0.length c0] w fun e w' => ∃ v1_ : Value, e = .returned (.tuple #[.int .i64 r1, v1_]) ∧ Kd.R k67 67 w' w.heap.size (fun _ => True) v1_ r2 ∧ Below w.heap.size w w' := by
 have hu81 := Try.underlying81
 have HR0 := Aside0.mk hr0
 have HC0 := Aside0.mk hc0
 clear hr0 hc0
 have HB := Aside0.mk (Below.refl w.heap.size w)
 have H : ((spec_l1Cur_edges.f k l0 0 0).bind fun bt747 => (some (bt747.1, bt747.2.1))) = some (r1, r2) := h
 clear h
 replace H := Option.bind_eq_some_iff.mp H
 obtain ⟨⟨t747, t748, t751, t752⟩, A20, H⟩ := H
 replace H : (some (t747, t748)) = some (r1, r2) := H
 have A2 := Aside0.mk A20
 clear A20
 simp only [Option.some.injEq, Prod.mk.injEq] at H
 obtain ⟨rfl, rfl⟩ := H
 go_enter Try.func69, Try.ntmps69
 go_wp2_with (first | ((with_reducible refine gate_dst (N := 7) rfl ?_); refine box_event ?hg (N := 7) ?hd (cs := #[.slice A0 l0.length c0, .int .i64 0, .int .u64 0]) (t := 81) ?hr ?_; (case hd => rfl); (case hg => rfl); (case hr => first | (go_simp; done) | (go_simp; rfl)); intro gb746 hg w3 hbox hb; have n0_ := Aside0.mk (below_step (by repeat (first | (with_reducible first | exact HB.out | apply below_alloc | apply pw_below_drewN | apply below_drew1) | exact HB.out)) hb); have n1_ := Aside0.mk ((by rw [hg]; exact (below_size (by repeat (first | (with_reducible first | exact HB.out | apply below_alloc | apply pw_below_drewN | apply below_drew1) | exact HB.out))) : w.heap.size ≤ gb746)); have n2_ := Aside0.mk ((by rw [hg]; exact (below_size (by repeat (first | (with_reducible first | exact HB.out | apply below_alloc | apply pw_below_drewN | apply below_drew1) | exact HB.out))) : w.heap.size ≤ gb746)); have n3_ := Aside0.mk ((show IsS81 w _ gb746 l0 0 0 from ⟨_, _, hbox, (by rw [hg]; exact (below_size (by repeat (first | (with_reducible first | exact HB.out | apply below_alloc | apply pw_below_drewN | apply below_drew1) | exact HB.out))) : w.heap.size ≤ gb746), HR0.out⟩)); clear HB; have HB := n0_; have GW746 := n1_; have GE746 := n2_; have HI746 := n3_; clear n0_ n1_ n2_ n3_; clear hb hbox hg) | ((with_reducible refine gate_callee (f := 65) rfl ?_); refine goesL_ (some 9) rfl rfl Try.func65 (by kernel_rfl) rfl #[.pointer (some ⟨gb746, 0, none⟩)] rfl (by (try simp only [List.map_toArray, List.map_cons, List.map_nil]); first | done | rfl | (simp only [List.length_drop, List.length_take]; rfl)) ?_; (with_reducible refine (spec_l1Cur_edges.calls k gb746 l0 0 0 t747 t748 t751 t752 w _ ?side1 ?side2 A2.out).mono ?_); (case side1 => repeat (first | (with_reducible first | exact HI746.out | apply IsS81.alloc | apply IsS81.drewN | apply IsS81.drew | apply IsS81.set_1 | apply IsS81.set_2) | exact HI746.out)); (case side2 => repeat (first | (with_reducible first | exact HB.out | apply below_alloc | apply pw_below_drewN | apply below_drew1 | refine below_set ?_ (IsS81.ge HI746.out)) | exact HB.out)); rintro e w4 ⟨v749, rfl, ho0, hi, hb, hk⟩; refine ⟨_, rfl, ?_⟩; have n0_ := Aside0.mk (Kd.R_lower ho0 (below_size (by repeat (first | (with_reducible first | exact HB.out | apply below_alloc | apply pw_below_drewN | apply below_drew1 | refine below_set ?_ (IsS81.ge HI746.out)) | exact HB.out)))); have n1_ := Aside0.mk (hb); have n2_ := Aside0.mk (hi); clear HB; clear HI746; have HO750 := n0_; have HB := n1_; have HI746 := n2_; clear n0_ n1_ n2_; (try clear hb); (try clear hb2); (try clear hk); (try clear hi); (try clear ho0)))
 go_ret2
 exact ⟨_, by first | rfl | (simp [errW_none, errW_some] <;> rfl) | (simp [*, errW_none, errW_some] <;> rfl), by (with_reducible repeat (first | apply Kd.R_alloc | apply Kd.R_drewN | apply Kd.R_drew)); exact HO750.out, by repeat (first | (with_reducible first | exact HB.out | apply below_alloc | apply pw_below_drewN | apply below_drew1 | refine below_set ?_ (IsS81.ge HI746.out)) | exact HB.out)⟩
def spec_DrawCentreOf.f (k : Nat) (l0 : List Int) : Option (Int × (List (S67))) := (spec_DrawGoodEdges.f k l0).bind fun bt753 => (some (bt753.1, bt753.2))
set_option maxHeartbeats 8000000 in
set_option maxRecDepth 100000 in
theorem spec_DrawCentreOf.calls (k : Nat) (A0 : Option Addr) (c0 : Nat) (l0 : List Int) (r1 : Int) (r2 : List (S67)) (w : World) (hr0 : Kd.C (Kd.int .u8) w A0 l0.length l0) (hc0 : l0.length ≤ c0) (h : spec_DrawCentreOf.f k l0 = some (r1, r2)) :
  Calls Try.prog 38 #[.slice A0 l0.length c0] w fun e w' => ∃ v1_ : Value, e = .returned (.tuple #[.int .i64 r1, v1_]) ∧ Kd.R k67 67 w' w.heap.size (fun _ => True) v1_ r2 ∧ Below w.heap.size w w' := by
 have HR0 := Aside0.mk hr0
 have HC0 := Aside0.mk hc0
 clear hr0 hc0
 have HB := Aside0.mk (Below.refl w.heap.size w)
 have H : ((spec_DrawGoodEdges.f k l0).bind fun bt753 => (some (bt753.1, bt753.2))) = some (r1, r2) := h
 clear h
 replace H := Option.bind_eq_some_iff.mp H
 obtain ⟨⟨t753, t754⟩, A20, H⟩ := H
 replace H : (some (t753, t754)) = some (r1, r2) := H
 have A2 := Aside0.mk A20
 clear A20
 simp only [Option.some.injEq, Prod.mk.injEq] at H
 obtain ⟨rfl, rfl⟩ := H
 go_enter Try.func38, Try.ntmps38
 go_wp2_with (first | ((with_reducible refine gate_callee (f := 69) rfl ?_); refine goesL_ (some 5) rfl rfl Try.func69 (by kernel_rfl) rfl #[.slice A0 l0.length c0] rfl (by (try simp only [List.map_toArray, List.map_cons, List.map_nil]); first | done | rfl | (simp only [List.length_drop, List.length_take]; rfl)) ?_; (with_reducible refine (spec_DrawGoodEdges.calls k _ _ l0 t753 t754 _ ?side1 ?side2 A2.out).mono ?_); (case side1 => repeat (first | exact HR0.out | (with_reducible refine Kd.C_alloc ?_ _) | (with_reducible refine Kd.C_drewN ?_ _) | (with_reducible refine Kd.C_drew ?_))); (case side2 => exact HC0.out); rintro e w3 ⟨v755, rfl, ho0, hb⟩; refine ⟨_, rfl, ?_⟩; have n0_ := Aside0.mk (Kd.R_lower ho0 (below_size (by repeat (first | (with_reducible first | exact HB.out | apply below_alloc | apply pw_below_drewN | apply below_drew1) | exact HB.out)))); have n1_ := Aside0.mk (below_step (by repeat (first | (with_reducible first | exact HB.out | apply below_alloc | apply pw_below_drewN | apply below_drew1) | exact HB.out)) hb); clear HB; have HO756 := n0_; have HB := n1_; clear n0_ n1_; (try clear hb); (try clear hb2); (try clear hk); (try clear hi); (try clear ho0)))
 go_ret2
 exact ⟨_, by first | rfl | (simp [errW_none, errW_some] <;> rfl) | (simp [*, errW_none, errW_some] <;> rfl), by (with_reducible repeat (first | apply Kd.R_alloc | apply Kd.R_drewN | apply Kd.R_drew)); exact HO756.out, by repeat (first | (with_reducible first | exact HB.out | apply below_alloc | apply pw_below_drewN | apply below_drew1) | exact HB.out)⟩
end Go.Proofs.Ytklecgkjoofipaa.P

namespace Go.Proofs.Ytklecgkjoofipaa.P
open Go.RowKit Go.Proofs.YtklecgkjoofipaaW.PrintWords Go.Proofs.YtklecgkjoofipaaW.PrintLast Go.Proofs.YtklecgkjoofipaaW.PrintMore
attribute [local go_sem] max2_int min2_int max_two min_two max_three min_three max_four min_four   -- for this text's walks alone
set_option linter.unusedVariables false
set_option linter.unusedSimpArgs false
mutual
def laws_FnFars.j0 : Nat → List Int → Int → List (S67) → Int → List Int → Bool → Bool → Option (Bool)
 | 0, _, _, _, _, _, _, _ => none
 | k + 1, x1, x5, x6, x7, x8, x9, x70 => if x70 = true then (some false) else (if x9 = true then ((impl_RelaxAll.f k x5 x6 x8).bind fun bt771 => ((impl_GroupsOf.f k x5 x6).bind fun bt775 => (if bt771.2 = true then ((laws_sameInts.f k bt771.1 x8).bind fun t779 => (if t779 = true then (if 0 ≤ x7 then (if x7 < (x8.length : Int) then (if (rd x8 x7) = 0 then (laws_FnFars.j1 k x1 x5 x6 x7 x8 bt775.1 (!bt775.2)) else (laws_FnFars.j1 k x1 x5 x6 x7 x8 bt775.1 true)) else (none)) else (none)) else (laws_FnFars.j1 k x1 x5 x6 x7 x8 bt775.1 true))) else (laws_FnFars.j1 k x1 x5 x6 x7 x8 bt775.1 true)))) else (laws_FnFars.j5 k x1))
def laws_FnFars.j5 : Nat → List Int → Option (Bool)
 | 0, _ => none
 | k + 1, x1 => (spec_DrawRelaxAll.f k x1).bind fun bt793 => ((impl_RelaxAll.f k bt793.1 bt793.2.1 bt793.2.2).bind fun bt800 => ((spec_RelaxAll.f k bt793.1 bt793.2.1 bt793.2.2).bind fun bt804 => ((spec_DrawCentreOf.f k x1).bind fun bt808 => ((impl_CentreOf.f k bt808.1 bt808.2).bind fun bt812 => ((spec_CentreOf.f k bt808.1 bt808.2).bind fun bt815 => (if (bt800.2 != bt804.2) = true then (laws_FnFars.j6 k bt793.2.2 bt800.1 true) else ((laws_sameInts.f k bt800.1 bt804.1).bind fun t818 => (if t818 = true then (if (bt812.2.2 != bt815.2.2) = true then (laws_FnFars.j6 k bt793.2.2 bt800.1 true) else (if bt812.1 = bt815.1 then (laws_FnFars.j6 k bt793.2.2 bt800.1 (bt812.2.1 != bt815.2.1)) else (laws_FnFars.j6 k bt793.2.2 bt800.1 true))) else (laws_FnFars.j6 k bt793.2.2 bt800.1 true)))))))))
def laws_FnFars.j6 : Nat → List Int → List Int → Bool → Option (Bool)
 | 0, _, _, _ => none
 | k + 1, x22, x23, x229 => if x229 = true then (some false) else (laws_FnFars.l2 k x22 x23 (x23.length : Int) 0)
def laws_FnFars.l2 : Nat → List Int → List Int → Int → Int → Option (Bool)
 | 0, _, _, _, _ => none
 | k + 1, x22, x23, x231, x232 => if x232 < x231 then (if 0 ≤ x232 then (if x232 < (x23.length : Int) then (if x232 < (x22.length : Int) then (if (rd x23 x232) > (rd x22 x232) then (some false) else (laws_FnFars.l2 k x22 x23 x231 (wrap64 (x232 + 1)))) else (none)) else (none)) else (none)) else (some true)
def laws_FnFars.j1 : Nat → List Int → Int → List (S67) → Int → List Int → List Int → Bool → Option (Bool)
 | 0, _, _, _, _, _, _, _ => none
 | k + 1, x1, x5, x6, x7, x8, x14, x103 => if x103 = true then (some false) else (laws_FnFars.l0 k x1 x5 x6 x7 x8 x14 (x8.length : Int) 0)
def laws_FnFars.l0 : Nat → List Int → Int → List (S67) → Int → List Int → List Int → Int → Int → Option (Bool)
 | 0, _, _, _, _, _, _, _, _ => none
 | k + 1, x1, x5, x6, x7, x8, x14, x105, x106 => if x106 < x105 then ((impl_FarsFrom.f k x5 x6 x106).bind fun bt781 => (if bt781.2 = true then (if 0 ≤ x7 then (if x7 < (bt781.1.length : Int) then (if 0 ≤ x106 then (if x106 < (x8.length : Int) then (if (rd bt781.1 x7) = (rd x8 x106) then (if x106 < (x14.length : Int) then (if x7 < (x14.length : Int) then (laws_FnFars.j3 k x1 x5 x6 x7 x8 x14 x106 bt781.1 x105 x106 (((rd x8 x106) == 100000) != ((rd x14 x106) != (rd x14 x7)))) else (none)) else (none)) else (laws_FnFars.j3 k x1 x5 x6 x7 x8 x14 x106 bt781.1 x105 x106 true)) else (none)) else (none)) else (none)) else (none)) else (laws_FnFars.j3 k x1 x5 x6 x7 x8 x14 x106 bt781.1 x105 x106 true))) else (laws_FnFars.j5 k x1)
def laws_FnFars.j3 : Nat → List Int → Int → List (S67) → Int → List Int → List Int → Int → List Int → Int → Int → Bool → Option (Bool)
 | 0, _, _, _, _, _, _, _, _, _, _, _ => none
 | k + 1, x1, x5, x6, x7, x8, x14, x16, x17, x105, x106, x145 => if x145 = true then (some false) else (laws_FnFars.l1 k x1 x5 x6 x7 x8 x14 x16 x17 x105 x106 (x8.length : Int) 0)
def laws_FnFars.l1 : Nat → List Int → Int → List (S67) → Int → List Int → List Int → Int → List Int → Int → Int → Int → Int → Option (Bool)
 | 0, _, _, _, _, _, _, _, _, _, _, _, _ => none
 | k + 1, x1, x5, x6, x7, x8, x14, x16, x17, x105, x106, x147, x148 => if x148 < x147 then (if 0 ≤ x16 then (if x16 < (x8.length : Int) then (if 0 ≤ x148 then (if x148 < (x17.length : Int) then (if x148 < (x8.length : Int) then (if (wrap64 ((rd x8 x16) + (rd x17 x148))) < (rd x8 x148) then (some false) else (laws_FnFars.l1 k x1 x5 x6 x7 x8 x14 x16 x17 x105 x106 x147 (wrap64 (x148 + 1)))) else (none)) else (none)) else (none)) else (none)) else (none)) else (laws_FnFars.l0 k x1 x5 x6 x7 x8 x14 x105 (wrap64 (x106 + 1)))
end
def laws_FnFars.f (k : Nat) (l0 : List Int) (l1 : List Int) : Option (Bool) := if (wrap64 ((l0.length : Int) + (l1.length : Int))) > 1048576 then (some true) else ((spec_DrawFarsFrom.f k l0).bind fun bt757 => ((impl_FarsFrom.f k bt757.1 bt757.2.1 bt757.2.2).bind fun bt762 => ((spec_FarsFrom.f k bt757.1 bt757.2.1 bt757.2.2).bind fun bt766 => (if (bt762.2 != bt766.2) = true then (laws_FnFars.j0 k l1 bt757.1 bt757.2.1 bt757.2.2 bt762.1 bt762.2 true) else ((laws_sameInts.f k bt762.1 bt766.1).bind fun t770 => (laws_FnFars.j0 k l1 bt757.1 bt757.2.1 bt757.2.2 bt762.1 bt762.2 (!t770)))))))
set_option maxHeartbeats 8000000 in
set_option maxRecDepth 100000 in
theorem laws_FnFars.calls (k : Nat) (A0 : Option Addr) (c0 : Nat) (l0 : List Int) (A1 : Option Addr) (c1 : Nat) (l1 : List Int) (r : Bool) (w : World) (hr0 : Kd.C (Kd.int .u8) w A0 l0.length l0) (hc0 : l0.length ≤ c0) (hr1 : Kd.C (Kd.int .u8) w A1 l1.length l1) (hc1 : l1.length ≤ c1) (h : laws_FnFars.f k l0 l1 = some r) :
  Calls Try.prog 10 #[.slice A0 l0.length c0, .slice A1 l1.length c1] w fun e w' => e = .returned (.bool r) ∧ Below w.heap.size w w' := by
 have HR0 := Aside0.mk hr0
 have HC0 := Aside0.mk hc0
 clear hr0 hc0
 have HR1 := Aside0.mk hr1
 have HC1 := Aside0.mk hc1
 clear hr1 hc1
 have HB := Aside0.mk (Below.refl w.heap.size w)
 have H : (if (wrap64 ((l0.length : Int) + (l1.length : Int))) > 1048576 then (some true) else ((spec_DrawFarsFrom.f k l0).bind fun bt757 => ((impl_FarsFrom.f k bt757.1 bt757.2.1 bt757.2.2).bind fun bt762 => ((spec_FarsFrom.f k bt757.1 bt757.2.1 bt757.2.2).bind fun bt766 => (if (bt762.2 != bt766.2) = true then (laws_FnFars.j0 k l1 bt757.1 bt757.2.1 bt757.2.2 bt762.1 bt762.2 true) else ((laws_sameInts.f k bt762.1 bt766.1).bind fun t770 => (laws_FnFars.j0 k l1 bt757.1 bt757.2.1 bt757.2.2 bt762.1 bt762.2 (!t770)))))))) = some r := h
 clear h
 by_cases c3 : (wrap64 ((l0.length : Int) + (l1.length : Int))) > 1048576
 ·rw [if_pos c3] at H
  have c3b0 : decide (1048576 < (wrap64 ((l0.length : Int) + (l1.length : Int)))) = true := decide_eq_true c3
  clear c3
  as_aux_lemma =>
   obtain rfl := Option.some.inj H
   go_enter Try.func10, Try.ntmps10
   go_wp2
   repeat (go_quiet (fail); try go_wp2)
   go_ret
   exact ⟨by first | rfl | (simp [errW_none, errW_some] <;> rfl) | (simp [*, errW_none, errW_some] <;> rfl), by repeat (first | (with_reducible first | exact HB.out | apply below_alloc | apply pw_below_drewN | apply below_drew1) | exact HB.out)⟩
 ·rw [if_neg c3] at H
  have c3b0 : decide (1048576 < (wrap64 ((l0.length : Int) + (l1.length : Int)))) = false := decide_eq_false c3
  clear c3
  replace H := Option.bind_eq_some_iff.mp H
  obtain ⟨⟨t757, t758, t759⟩, A40, H⟩ := H
  replace H : ((impl_FarsFrom.f k t757 t758 t759).bind fun bt762 => ((spec_FarsFrom.f k t757 t758 t759).bind fun bt766 => (if (bt762.2 != bt766.2) = true then (laws_FnFars.j0 k l1 t757 t758 t759 bt762.1 bt762.2 true) else ((laws_sameInts.f k bt762.1 bt766.1).bind fun t770 => (laws_FnFars.j0 k l1 t757 t758 t759 bt762.1 bt762.2 (!t770)))))) = some r := H
  have A4 := Aside0.mk A40
  clear A40
  replace H := Option.bind_eq_some_iff.mp H
  obtain ⟨⟨t762, t763⟩, A50, H⟩ := H
  replace H : ((spec_FarsFrom.f k t757 t758 t759).bind fun bt766 => (if (t763 != bt766.2) = true then (laws_FnFars.j0 k l1 t757 t758 t759 t762 t763 true) else ((laws_sameInts.f k t762 bt766.1).bind fun t770 => (laws_FnFars.j0 k l1 t757 t758 t759 t762 t763 (!t770))))) = some r := H
  have A5 := Aside0.mk A50
  clear A50
  replace H := Option.bind_eq_some_iff.mp H
  obtain ⟨⟨t766, t767⟩, A60, H⟩ := H
  replace H : (if (t763 != t767) = true then (laws_FnFars.j0 k l1 t757 t758 t759 t762 t763 true) else ((laws_sameInts.f k t762 t766).bind fun t770 => (laws_FnFars.j0 k l1 t757 t758 t759 t762 t763 (!t770)))) = some r := H
  have A6 := Aside0.mk A60
  clear A60
  have HC7 := Aside0.mk H
  clear H
  go_enter Try.func10, Try.ntmps10
  go_upto_region 6 with (first | (go_at_call 34; (with_reducible refine (spec_DrawFarsFrom.calls k _ _ l0 t757 t758 t759 _ ?side1 ?side2 A4.out).mono ?_); (case side1 => repeat (first | exact HR0.out | (with_reducible refine Kd.C_alloc ?_ _) | (with_reducible refine Kd.C_drewN ?_ _) | (with_reducible refine Kd.C_drew ?_))); (case side2 => exact HC0.out); rintro e w8 ⟨v760, rfl, ho0, hb⟩; have n0_ := Aside0.mk (Kd.R_lower ho0 (below_size (by repeat (first | (with_reducible first | exact HB.out | apply below_alloc | apply pw_below_drewN | apply below_drew1) | exact HB.out)))); have n1_ := Aside0.mk (below_step (by repeat (first | (with_reducible first | exact HB.out | apply below_alloc | apply pw_below_drewN | apply below_drew1) | exact HB.out)) hb); clear HB; have HO761 := n0_; have HB := n1_; clear n0_ n1_; (try clear hb); (try clear hb2); (try clear hk); (try clear hi); (try clear ho0); obtain ⟨Ao9, co9, eo9⟩ := Kd.R_slice HO761.out; subst eo9) | (go_at_call 27; (with_reducible refine (impl_FarsFrom.calls k t757 _ _ t758 t759 t762 t763 _ ?side1 ?side2 A5.out).mono ?_); (case side1 => repeat (first | exact (Kd.R_reads' HO761.out).2.2 | (with_reducible refine Kd.C_alloc ?_ _) | (with_reducible refine Kd.C_drewN ?_ _) | (with_reducible refine Kd.C_drew ?_))); (case side2 => exact (Kd.R_reads' HO761.out).2.1); rintro e w10 ⟨v764, rfl, ho0, hb⟩; have n0_ := Aside0.mk (Kd.R_below (by (with_reducible repeat (first | apply Kd.R_alloc | apply Kd.R_drewN | apply Kd.R_drew)); exact HO761.out) hb); have n1_ := Aside0.mk (Kd.R_lower ho0 (below_size (by repeat (first | (with_reducible first | exact HB.out | apply below_alloc | apply pw_below_drewN | apply below_drew1) | exact HB.out)))); have n2_ := Aside0.mk (below_step (by repeat (first | (with_reducible first | exact HB.out | apply below_alloc | apply pw_below_drewN | apply below_drew1) | exact HB.out)) hb); clear HO761; clear HB; have HO761 := n0_; have HO765 := n1_; have HB := n2_; clear n0_ n1_ n2_; (try clear hb); (try clear hb2); (try clear hk); (try clear hi); (try clear ho0)) | (go_at_call 26; (with_reducible refine (spec_FarsFrom.calls k t757 _ _ t758 t759 t766 t767 _ ?side1 ?side2 A6.out).mono ?_); (case side1 => repeat (first | exact (Kd.R_reads' HO761.out).2.2 | (with_reducible refine Kd.C_alloc ?_ _) | (with_reducible refine Kd.C_drewN ?_ _) | (with_reducible refine Kd.C_drew ?_))); (case side2 => exact (Kd.R_reads' HO761.out).2.1); rintro e w11 ⟨v768, rfl, ho0, hb⟩; have n0_ := Aside0.mk (Kd.R_below (by (with_reducible repeat (first | apply Kd.R_alloc | apply Kd.R_drewN | apply Kd.R_drew)); exact HO761.out) hb); have n1_ := Aside0.mk (Kd.R_elder' (by (with_reducible repeat (first | apply Kd.R_alloc | apply Kd.R_drewN | apply Kd.R_drew)); exact HO765.out) (Kd.R_base ho0) hb); have n2_ := Aside0.mk (Kd.R_lower (Kd.R_new' ho0 (Kd.R_lt (by (with_reducible repeat (first | apply Kd.R_alloc | apply Kd.R_drewN | apply Kd.R_drew)); exact HO765.out))) (below_size (by repeat (first | (with_reducible first | exact HB.out | apply below_alloc | apply pw_below_drewN | apply below_drew1) | exact HB.out)))); have n3_ := Aside0.mk (below_step (by repeat (first | (with_reducible first | exact HB.out | apply below_alloc | apply pw_below_drewN | apply below_drew1) | exact HB.out)) hb); clear HO761; clear HO765; clear HB; have HO761 := n0_; have HO765 := n1_; have HO769 := n2_; have HB := n3_; clear n0_ n1_ n2_ n3_; (try clear hb); (try clear hb2); (try clear hk); (try clear hi); (try clear ho0)))
  repeat (go_quiet (first | (go_at_call 34; (with_reducible refine (spec_DrawFarsFrom.calls k _ _ l0 t757 t758 t759 _ ?side1 ?side2 A4.out).mono ?_); (case side1 => repeat (first | exact HR0.out | (with_reducible refine Kd.C_alloc ?_ _) | (with_reducible refine Kd.C_drewN ?_ _) | (with_reducible refine Kd.C_drew ?_))); (case side2 => exact HC0.out); rintro e w8 ⟨v760, rfl, ho0, hb⟩; have n0_ := Aside0.mk (Kd.R_lower ho0 (below_size (by repeat (first | (with_reducible first | exact HB.out | apply below_alloc | apply pw_below_drewN | apply below_drew1) | exact HB.out)))); have n1_ := Aside0.mk (below_step (by repeat (first | (with_reducible first | exact HB.out | apply below_alloc | apply pw_below_drewN | apply below_drew1) | exact HB.out)) hb); clear HB; have HO761 := n0_; have HB := n1_; clear n0_ n1_; (try clear hb); (try clear hb2); (try clear hk); (try clear hi); (try clear ho0); obtain ⟨Ao9, co9, eo9⟩ := Kd.R_slice HO761.out; subst eo9) | (go_at_call 27; (with_reducible refine (impl_FarsFrom.calls k t757 _ _ t758 t759 t762 t763 _ ?side1 ?side2 A5.out).mono ?_); (case side1 => repeat (first | exact (Kd.R_reads' HO761.out).2.2 | (with_reducible refine Kd.C_alloc ?_ _) | (with_reducible refine Kd.C_drewN ?_ _) | (with_reducible refine Kd.C_drew ?_))); (case side2 => exact (Kd.R_reads' HO761.out).2.1); rintro e w10 ⟨v764, rfl, ho0, hb⟩; have n0_ := Aside0.mk (Kd.R_below (by (with_reducible repeat (first | apply Kd.R_alloc | apply Kd.R_drewN | apply Kd.R_drew)); exact HO761.out) hb); have n1_ := Aside0.mk (Kd.R_lower ho0 (below_size (by repeat (first | (with_reducible first | exact HB.out | apply below_alloc | apply pw_below_drewN | apply below_drew1) | exact HB.out)))); have n2_ := Aside0.mk (below_step (by repeat (first | (with_reducible first | exact HB.out | apply below_alloc | apply pw_below_drewN | apply below_drew1) | exact HB.out)) hb); clear HO761; clear HB; have HO761 := n0_; have HO765 := n1_; have HB := n2_; clear n0_ n1_ n2_; (try clear hb); (try clear hb2); (try clear hk); (try clear hi); (try clear ho0)) | (go_at_call 26; (with_reducible refine (spec_FarsFrom.calls k t757 _ _ t758 t759 t766 t767 _ ?side1 ?side2 A6.out).mono ?_); (case side1 => repeat (first | exact (Kd.R_reads' HO761.out).2.2 | (with_reducible refine Kd.C_alloc ?_ _) | (with_reducible refine Kd.C_drewN ?_ _) | (with_reducible refine Kd.C_drew ?_))); (case side2 => exact (Kd.R_reads' HO761.out).2.1); rintro e w11 ⟨v768, rfl, ho0, hb⟩; have n0_ := Aside0.mk (Kd.R_below (by (with_reducible repeat (first | apply Kd.R_alloc | apply Kd.R_drewN | apply Kd.R_drew)); exact HO761.out) hb); have n1_ := Aside0.mk (Kd.R_elder' (by (with_reducible repeat (first | apply Kd.R_alloc | apply Kd.R_drewN | apply Kd.R_drew)); exact HO765.out) (Kd.R_base ho0) hb); have n2_ := Aside0.mk (Kd.R_lower (Kd.R_new' ho0 (Kd.R_lt (by (with_reducible repeat (first | apply Kd.R_alloc | apply Kd.R_drewN | apply Kd.R_drew)); exact HO765.out))) (below_size (by repeat (first | (with_reducible first | exact HB.out | apply below_alloc | apply pw_below_drewN | apply below_drew1) | exact HB.out)))); have n3_ := Aside0.mk (below_step (by repeat (first | (with_reducible first | exact HB.out | apply below_alloc | apply pw_below_drewN | apply below_drew1) | exact HB.out)) hb); clear HO761; clear HO765; clear HB; have HO761 := n0_; have HO765 := n1_; have HO769 := n2_; have HB := n3_; clear n0_ n1_ n2_ n3_; (try clear hb); (try clear hb2); (try clear hk); (try clear hi); (try clear ho0))); go_upto_region 6 with (first | (go_at_call 34; (with_reducible refine (spec_DrawFarsFrom.calls k _ _ l0 t757 t758 t759 _ ?side1 ?side2 A4.out).mono ?_); (case side1 => repeat (first | exact HR0.out | (with_reducible refine Kd.C_alloc ?_ _) | (with_reducible refine Kd.C_drewN ?_ _) | (with_reducible refine Kd.C_drew ?_))); (case side2 => exact HC0.out); rintro e w8 ⟨v760, rfl, ho0, hb⟩; have n0_ := Aside0.mk (Kd.R_lower ho0 (below_size (by repeat (first | (with_reducible first | exact HB.out | apply below_alloc | apply pw_below_drewN | apply below_drew1) | exact HB.out)))); have n1_ := Aside0.mk (below_step (by repeat (first | (with_reducible first | exact HB.out | apply below_alloc | apply pw_below_drewN | apply below_drew1) | exact HB.out)) hb); clear HB; have HO761 := n0_; have HB := n1_; clear n0_ n1_; (try clear hb); (try clear hb2); (try clear hk); (try clear hi); (try clear ho0); obtain ⟨Ao9, co9, eo9⟩ := Kd.R_slice HO761.out; subst eo9) | (go_at_call 27; (with_reducible refine (impl_FarsFrom.calls k t757 _ _ t758 t759 t762 t763 _ ?side1 ?side2 A5.out).mono ?_); (case side1 => repeat (first | exact (Kd.R_reads' HO761.out).2.2 | (with_reducible refine Kd.C_alloc ?_ _) | (with_reducible refine Kd.C_drewN ?_ _) | (with_reducible refine Kd.C_drew ?_))); (case side2 => exact (Kd.R_reads' HO761.out).2.1); rintro e w10 ⟨v764, rfl, ho0, hb⟩; have n0_ := Aside0.mk (Kd.R_below (by (with_reducible repeat (first | apply Kd.R_alloc | apply Kd.R_drewN | apply Kd.R_drew)); exact HO761.out) hb); have n1_ := Aside0.mk (Kd.R_lower ho0 (below_size (by repeat (first | (with_reducible first | exact HB.out | apply below_alloc | apply pw_below_drewN | apply below_drew1) | exact HB.out)))); have n2_ := Aside0.mk (below_step (by repeat (first | (with_reducible first | exact HB.out | apply below_alloc | apply pw_below_drewN | apply below_drew1) | exact HB.out)) hb); clear HO761; clear HB; have HO761 := n0_; have HO765 := n1_; have HB := n2_; clear n0_ n1_ n2_; (try clear hb); (try clear hb2); (try clear hk); (try clear hi); (try clear ho0)) | (go_at_call 26; (with_reducible refine (spec_FarsFrom.calls k t757 _ _ t758 t759 t766 t767 _ ?side1 ?side2 A6.out).mono ?_); (case side1 => repeat (first | exact (Kd.R_reads' HO761.out).2.2 | (with_reducible refine Kd.C_alloc ?_ _) | (with_reducible refine Kd.C_drewN ?_ _) | (with_reducible refine Kd.C_drew ?_))); (case side2 => exact (Kd.R_reads' HO761.out).2.1); rintro e w11 ⟨v768, rfl, ho0, hb⟩; have n0_ := Aside0.mk (Kd.R_below (by (with_reducible repeat (first | apply Kd.R_alloc | apply Kd.R_drewN | apply Kd.R_drew)); exact HO761.out) hb); have n1_ := Aside0.mk (Kd.R_elder' (by (with_reducible repeat (first | apply Kd.R_alloc | apply Kd.R_drewN | apply Kd.R_drew)); exact HO765.out) (Kd.R_base ho0) hb); have n2_ := Aside0.mk (Kd.R_lower (Kd.R_new' ho0 (Kd.R_lt (by (with_reducible repeat (first | apply Kd.R_alloc | apply Kd.R_drewN | apply Kd.R_drew)); exact HO765.out))) (below_size (by repeat (first | (with_reducible first | exact HB.out | apply below_alloc | apply pw_below_drewN | apply below_drew1) | exact HB.out)))); have n3_ := Aside0.mk (below_step (by repeat (first | (with_reducible first | exact HB.out | apply below_alloc | apply pw_below_drewN | apply below_drew1) | exact HB.out)) hb); clear HO761; clear HO765; clear HB; have HO761 := n0_; have HO765 := n1_; have HO769 := n2_; have HB := n3_; clear n0_ n1_ n2_ n3_; (try clear hb); (try clear hb2); (try clear hk); (try clear hi); (try clear ho0))))
  (try simp only [Act.put, List.setIfInBounds_toArray, List.set_cons_zero, List.set_cons_succ])
  go_cut [70] (fun v70 wc => ∃ (kq : Nat) (x70_6 : Bool), v70 = .bool x70_6 ∧ Aside0 (laws_FnFars.j0 kq l1 t757 t758 t759 t762 t763 x70_6 = some r) ∧ Aside0 (kq ≤ k) ∧ Aside0 (Kd.R k67 67 wc w.heap.size (fun _ => True) (.slice Ao9 t758.length co9) t758) ∧ Aside0 (Kd.R (Kd.int .i64) 3 wc w.heap.size (fun _ => True) v764 t762) ∧ Aside0 (Below w.heap.size w wc))
  case first =>
   have H := HC7.out
   clear HC7
   by_cases c12 : (t763 != t767) = true
   ·rw [if_pos c12] at H
    have c12b0 : (t763 != t767) = true := c12
    (try (have c12b1 : decide (t763 = t767) = false := by simpa using c12))
    (try (have c12b2 : (t763 == t767) = false := by simpa using c12))
    (try (have c12b3 : ¬ (t763 = t767) := by simpa using c12))
    clear c12
    (first | rw [c12b0] | (simp only [i64_w, i32_w]; rw [c12b0]) | skip)
    as_aux_lemma =>
     have H' := Aside0.mk H
     clear H
     go_wp2
     repeat (go_quiet (fail); try go_wp2)
     go_meet
     case rel => exact ⟨_, (true), (by first | rfl | (simp; done) | (simp [*]; done)), H', ⟨by first | omega | exact Nat.le_refl _⟩, ⟨by (with_reducible repeat (first | apply Kd.R_alloc | apply Kd.R_drewN | apply Kd.R_drew)); exact HO761.out⟩, ⟨by (with_reducible repeat (first | apply Kd.R_alloc | apply Kd.R_drewN | apply Kd.R_drew)); exact Kd.R_mono HO765.out (fun _ hk => trivial)⟩, ⟨by repeat (first | (with_reducible first | exact HB.out | apply below_alloc | apply pw_below_drewN | apply below_drew1) | exact HB.out)⟩⟩
   ·rw [if_neg c12] at H
    have c12b0 : (t763 != t767) = false := by simpa using c12
    (try (have c12b1 : decide (t763 = t767) = true := by simpa using c12))
    (try (have c12b2 : (t763 == t767) = true := by simpa using c12))
    clear c12
    (first | rw [c12b0] | (simp only [i64_w, i32_w]; rw [c12b0]) | skip)
    replace H := Option.bind_eq_some_iff.mp H
    obtain ⟨t770, A130, H⟩ := H
    replace H : (laws_FnFars.j0 k l1 t757 t758 t759 t762 t763 (!t770)) = some r := H
    have A13 := Aside0.mk A130
    clear A130
    as_aux_lemma =>
     have H' := Aside0.mk H
     clear H
     obtain ⟨Ao14, co14, eo14⟩ := Kd.R_slice HO765.out
     subst eo14
     obtain ⟨Ao15, co15, eo15⟩ := Kd.R_slice HO769.out
     subst eo15
     go_wp2_with (first | (go_at_call 35; (with_reducible refine (laws_sameInts.calls k _ _ t762 _ _ t766 t770 _ ?side1 ?side2 ?side3 ?side4 A13.out).mono ?_); (case side1 => repeat (first | exact (Kd.R_reads' HO765.out).2.2 | (with_reducible refine Kd.C_alloc ?_ _) | (with_reducible refine Kd.C_drewN ?_ _) | (with_reducible refine Kd.C_drew ?_))); (case side2 => exact (Kd.R_reads' HO765.out).2.1); (case side3 => repeat (first | exact (Kd.R_reads' HO769.out).2.2 | (with_reducible refine Kd.C_alloc ?_ _) | (with_reducible refine Kd.C_drewN ?_ _) | (with_reducible refine Kd.C_drew ?_))); (case side4 => exact (Kd.R_reads' HO769.out).2.1); rintro e w' ⟨rfl, ⟨nd, rfl⟩⟩; (try first | exact ⟨rfl, _, World.drewN_drewN _ _ _⟩ | exact ⟨rfl, _, Eq.trans (World.drewN_drewN _ _ _) (congrArg (World.drewN _) (Nat.add_assoc _ _ _))⟩)))
     repeat (go_quiet (first | (go_at_call 35; (with_reducible refine (laws_sameInts.calls k _ _ t762 _ _ t766 t770 _ ?side1 ?side2 ?side3 ?side4 A13.out).mono ?_); (case side1 => repeat (first | exact (Kd.R_reads' HO765.out).2.2 | (with_reducible refine Kd.C_alloc ?_ _) | (with_reducible refine Kd.C_drewN ?_ _) | (with_reducible refine Kd.C_drew ?_))); (case side2 => exact (Kd.R_reads' HO765.out).2.1); (case side3 => repeat (first | exact (Kd.R_reads' HO769.out).2.2 | (with_reducible refine Kd.C_alloc ?_ _) | (with_reducible refine Kd.C_drewN ?_ _) | (with_reducible refine Kd.C_drew ?_))); (case side4 => exact (Kd.R_reads' HO769.out).2.1); rintro e w' ⟨rfl, ⟨nd, rfl⟩⟩; (try first | exact ⟨rfl, _, World.drewN_drewN _ _ _⟩ | exact ⟨rfl, _, Eq.trans (World.drewN_drewN _ _ _) (congrArg (World.drewN _) (Nat.add_assoc _ _ _))⟩))); try go_wp2_with (first | (go_at_call 35; (with_reducible refine (laws_sameInts.calls k _ _ t762 _ _ t766 t770 _ ?side1 ?side2 ?side3 ?side4 A13.out).mono ?_); (case side1 => repeat (first | exact (Kd.R_reads' HO765.out).2.2 | (with_reducible refine Kd.C_alloc ?_ _) | (with_reducible refine Kd.C_drewN ?_ _) | (with_reducible refine Kd.C_drew ?_))); (case side2 => exact (Kd.R_reads' HO765.out).2.1); (case side3 => repeat (first | exact (Kd.R_reads' HO769.out).2.2 | (with_reducible refine Kd.C_alloc ?_ _) | (with_reducible refine Kd.C_drewN ?_ _) | (with_reducible refine Kd.C_drew ?_))); (case side4 => exact (Kd.R_reads' HO769.out).2.1); rintro e w' ⟨rfl, ⟨nd, rfl⟩⟩; (try first | exact ⟨rfl, _, World.drewN_drewN _ _ _⟩ | exact ⟨rfl, _, Eq.trans (World.drewN_drewN _ _ _) (congrArg (World.drewN _) (Nat.add_assoc _ _ _))⟩))))
     go_meet
     case rel => exact ⟨_, (!t770), (by first | rfl | (simp; done) | (simp [*]; done)), H', ⟨by first | omega | exact Nat.le_refl _⟩, ⟨by (with_reducible repeat (first | apply Kd.R_alloc | apply Kd.R_drewN | apply Kd.R_drew)); exact HO761.out⟩, ⟨by (with_reducible repeat (first | apply Kd.R_alloc | apply Kd.R_drewN | apply Kd.R_drew)); exact Kd.R_mono HO765.out (fun _ hk => trivial)⟩, ⟨by repeat (first | (with_reducible first | exact HB.out | apply below_alloc | apply pw_below_drewN | apply below_drew1) | exact HB.out)⟩⟩
  case rest =>
   clear HC7
   try clear c1
   try clear p2
   try clear c3
   try clear c3b0
   try clear p6
   try clear c10
   try clear c12
   try clear c12b0
   try clear c12b1
   try clear c12b2
   obtain ⟨kq, x70_6, rfl, HA, HJ6, HO_6, HO_8, HB⟩ := hcut
   cases kq with
   | zero => exact absurd HA.out (by simp [laws_FnFars.j0])
   | succ kj6 =>
    have H := HA.out
    clear HA
    simp only [laws_FnFars.j0] at H
    by_cases c16 : x70_6 = true
    ·subst c16
     have H1 : (some false) = some r := by rw [if_pos rfl] at H; exact H
     clear H
     have H := H1
     clear H1
     as_aux_lemma =>
      obtain rfl := Option.some.inj H
      go_wp2
      repeat (go_quiet (fail); try go_wp2)
      go_ret
      exact ⟨by first | rfl | (simp [errW_none, errW_some] <;> rfl) | (simp [*, errW_none, errW_some] <;> rfl), by repeat (first | (with_reducible first | exact HB.out | apply below_alloc | apply pw_below_drewN | apply below_drew1) | exact HB.out)⟩
    ·replace c16 := Bool.eq_false_iff.mpr c16
     subst c16
     have H1 : (if t763 = true then ((impl_RelaxAll.f kj6 t757 t758 t762).bind fun bt771 => ((impl_GroupsOf.f kj6 t757 t758).bind fun bt775 => (if bt771.2 = true then ((laws_sameInts.f kj6 bt771.1 t762).bind fun t779 => (if t779 = true then (if 0 ≤ t759 then (if t759 < (t762.length : Int) then (if (rd t762 t759) = 0 then (laws_FnFars.j1 kj6 l1 t757 t758 t759 t762 bt775.1 (!bt775.2)) else (laws_FnFars.j1 kj6 l1 t757 t758 t759 t762 bt775.1 true)) else (none)) else (none)) else (laws_FnFars.j1 kj6 l1 t757 t758 t759 t762 bt775.1 true))) else (laws_FnFars.j1 kj6 l1 t757 t758 t759 t762 bt775.1 true)))) else (laws_FnFars.j5 kj6 l1)) = some r := by rw [if_neg (show ¬ (false = true) by decide)] at H; exact H
     clear H
     have H := H1
     clear H1
     have HC17 := Aside0.mk H
     clear H
     go_upto_if 71 with (fail)
     repeat (go_quiet (fail); go_upto_if 71 with (fail))
     go_cut [] (fun wc => ∃ (kq : Nat), Aside0 (laws_FnFars.j5 kq l1 = some r) ∧ Aside0 (kq ≤ kj6) ∧ Aside0 (Below w.heap.size w wc))
     case first =>
      have H := HC17.out
      clear HC17
      by_cases c18 : t763 = true
      ·subst c18
       have H1 : ((impl_RelaxAll.f kj6 t757 t758 t762).bind fun bt771 => ((impl_GroupsOf.f kj6 t757 t758).bind fun bt775 => (if bt771.2 = true then ((laws_sameInts.f kj6 bt771.1 t762).bind fun t779 => (if t779 = true then (if 0 ≤ t759 then (if t759 < (t762.length : Int) then (if (rd t762 t759) = 0 then (laws_FnFars.j1 kj6 l1 t757 t758 t759 t762 bt775.1 (!bt775.2)) else (laws_FnFars.j1 kj6 l1 t757 t758 t759 t762 bt775.1 true)) else (none)) else (none)) else (laws_FnFars.j1 kj6 l1 t757 t758 t759 t762 bt775.1 true))) else (laws_FnFars.j1 kj6 l1 t757 t758 t759 t762 bt775.1 true)))) = some r := by rw [if_pos rfl] at H; exact H
       clear H
       have H := H1
       clear H1
       replace H := Option.bind_eq_some_iff.mp H
       obtain ⟨⟨t771, t772⟩, A190, H⟩ := H
       replace H : ((impl_GroupsOf.f kj6 t757 t758).bind fun bt775 => (if t772 = true then ((laws_sameInts.f kj6 t771 t762).bind fun t779 => (if t779 = true then (if 0 ≤ t759 then (if t759 < (t762.length : Int) then (if (rd t762 t759) = 0 then (laws_FnFars.j1 kj6 l1 t757 t758 t759 t762 bt775.1 (!bt775.2)) else (laws_FnFars.j1 kj6 l1 t757 t758 t759 t762 bt775.1 true)) else (none)) else (none)) else (laws_FnFars.j1 kj6 l1 t757 t758 t759 t762 bt775.1 true))) else (laws_FnFars.j1 kj6 l1 t757 t758 t759 t762 bt775.1 true))) = some r := H
       have A19 := Aside0.mk A190
       clear A190
       replace H := Option.bind_eq_some_iff.mp H
       obtain ⟨⟨t775, t776⟩, A200, H⟩ := H
       replace H : (if t772 = true then ((laws_sameInts.f kj6 t771 t762).bind fun t779 => (if t779 = true then (if 0 ≤ t759 then (if t759 < (t762.length : Int) then (if (rd t762 t759) = 0 then (laws_FnFars.j1 kj6 l1 t757 t758 t759 t762 t775 (!t776)) else (laws_FnFars.j1 kj6 l1 t757 t758 t759 t762 t775 true)) else (none)) else (none)) else (laws_FnFars.j1 kj6 l1 t757 t758 t759 t762 t775 true))) else (laws_FnFars.j1 kj6 l1 t757 t758 t759 t762 t775 true)) = some r := H
       have A20 := Aside0.mk A200
       clear A200
       have HC21 := Aside0.mk H
       clear H
       obtain ⟨Ao22, co22, eo22⟩ := Kd.R_slice HO_8.out
       subst eo22
       go_upto_region 11 with (first | (go_at_call 22; (with_reducible refine (impl_RelaxAll.calls kj6 t757 _ _ t758 _ _ t762 t771 t772 _ ?side1 ?side2 ?side3 ?side4 A19.out).mono ?_); (case side1 => repeat (first | exact (Kd.R_reads' HO_6.out).2.2 | (with_reducible refine Kd.C_alloc ?_ _) | (with_reducible refine Kd.C_drewN ?_ _) | (with_reducible refine Kd.C_drew ?_))); (case side2 => exact (Kd.R_reads' HO_6.out).2.1); (case side3 => repeat (first | exact (Kd.R_reads' HO_8.out).2.2 | (with_reducible refine Kd.C_alloc ?_ _) | (with_reducible refine Kd.C_drewN ?_ _) | (with_reducible refine Kd.C_drew ?_))); (case side4 => exact (Kd.R_reads' HO_8.out).2.1); rintro e w23 ⟨v773, rfl, ho0, hb⟩; have n0_ := Aside0.mk (Kd.R_below (by (with_reducible repeat (first | apply Kd.R_alloc | apply Kd.R_drewN | apply Kd.R_drew)); exact HO_6.out) hb); have n1_ := Aside0.mk (Kd.R_elder' (by (with_reducible repeat (first | apply Kd.R_alloc | apply Kd.R_drewN | apply Kd.R_drew)); exact HO_8.out) (Kd.R_base ho0) hb); have n2_ := Aside0.mk (Kd.R_lower (Kd.R_new' ho0 (Kd.R_lt (by (with_reducible repeat (first | apply Kd.R_alloc | apply Kd.R_drewN | apply Kd.R_drew)); exact HO_8.out))) (below_size (by repeat (first | (with_reducible first | exact HB.out | apply below_alloc | apply pw_below_drewN | apply below_drew1) | exact HB.out)))); have n3_ := Aside0.mk (below_step (by repeat (first | (with_reducible first | exact HB.out | apply below_alloc | apply pw_below_drewN | apply below_drew1) | exact HB.out)) hb); clear HO_6; clear HO_8; clear HB; have HO_6 := n0_; have HO_8 := n1_; have HO774 := n2_; have HB := n3_; clear n0_ n1_ n2_ n3_; (try clear hb); (try clear hb2); (try clear hk); (try clear hi); (try clear ho0)) | (go_at_call 36; (with_reducible refine (impl_GroupsOf.calls kj6 t757 _ _ t758 t775 t776 _ ?side1 ?side2 A20.out).mono ?_); (case side1 => repeat (first | exact (Kd.R_reads' HO_6.out).2.2 | (with_reducible refine Kd.C_alloc ?_ _) | (with_reducible refine Kd.C_drewN ?_ _) | (with_reducible refine Kd.C_drew ?_))); (case side2 => exact (Kd.R_reads' HO_6.out).2.1); rintro e w24 ⟨v777, rfl, ho0, hb⟩; have n0_ := Aside0.mk (Kd.R_below (by (with_reducible repeat (first | apply Kd.R_alloc | apply Kd.R_drewN | apply Kd.R_drew)); exact HO_6.out) hb); have n1_ := Aside0.mk (Kd.R_elder' (by (with_reducible repeat (first | apply Kd.R_alloc | apply Kd.R_drewN | apply Kd.R_drew)); exact HO_8.out) (Kd.R_base ho0) hb); have n2_ := Aside0.mk (Kd.R_elder' (by (with_reducible repeat (first | apply Kd.R_alloc | apply Kd.R_drewN | apply Kd.R_drew)); exact HO774.out) (Kd.R_base ho0) hb); have n3_ := Aside0.mk (Kd.R_lower (Kd.R_new' (Kd.R_new' ho0 (Kd.R_lt (by (with_reducible repeat (first | apply Kd.R_alloc | apply Kd.R_drewN | apply Kd.R_drew)); exact HO_8.out))) (Kd.R_lt (by (with_reducible repeat (first | apply Kd.R_alloc | apply Kd.R_drewN | apply Kd.R_drew)); exact HO774.out))) (below_size (by repeat (first | (with_reducible first | exact HB.out | apply below_alloc | apply pw_below_drewN | apply below_drew1) | exact HB.out)))); have n4_ := Aside0.mk (below_step (by repeat (first | (with_reducible first | exact HB.out | apply below_alloc | apply pw_below_drewN | apply below_drew1) | exact HB.out)) hb); clear HO_6; clear HO_8; clear HO774; clear HB; have HO_6 := n0_; have HO_8 := n1_; have HO774 := n2_; have HO778 := n3_; have HB := n4_; clear n0_ n1_ n2_ n3_ n4_; (try clear hb); (try clear hb2); (try clear hk); (try clear hi); (try clear ho0)))
       repeat (go_quiet (first | (go_at_call 22; (with_reducible refine (impl_RelaxAll.calls kj6 t757 _ _ t758 _ _ t762 t771 t772 _ ?side1 ?side2 ?side3 ?side4 A19.out).mono ?_); (case side1 => repeat (first | exact (Kd.R_reads' HO_6.out).2.2 | (with_reducible refine Kd.C_alloc ?_ _) | (with_reducible refine Kd.C_drewN ?_ _) | (with_reducible refine Kd.C_drew ?_))); (case side2 => exact (Kd.R_reads' HO_6.out).2.1); (case side3 => repeat (first | exact (Kd.R_reads' HO_8.out).2.2 | (with_reducible refine Kd.C_alloc ?_ _) | (with_reducible refine Kd.C_drewN ?_ _) | (with_reducible refine Kd.C_drew ?_))); (case side4 => exact (Kd.R_reads' HO_8.out).2.1); rintro e w23 ⟨v773, rfl, ho0, hb⟩; have n0_ := Aside0.mk (Kd.R_below (by (with_reducible repeat (first | apply Kd.R_alloc | apply Kd.R_drewN | apply Kd.R_drew)); exact HO_6.out) hb); have n1_ := Aside0.mk (Kd.R_elder' (by (with_reducible repeat (first | apply Kd.R_alloc | apply Kd.R_drewN | apply Kd.R_drew)); exact HO_8.out) (Kd.R_base ho0) hb); have n2_ := Aside0.mk (Kd.R_lower (Kd.R_new' ho0 (Kd.R_lt (by (with_reducible repeat (first | apply Kd.R_alloc | apply Kd.R_drewN | apply Kd.R_drew)); exact HO_8.out))) (below_size (by repeat (first | (with_reducible first | exact HB.out | apply below_alloc | apply pw_below_drewN | apply below_drew1) | exact HB.out)))); have n3_ := Aside0.mk (below_step (by repeat (first | (with_reducible first | exact HB.out | apply below_alloc | apply pw_below_drewN | apply below_drew1) | exact HB.out)) hb); clear HO_6; clear HO_8; clear HB; have HO_6 := n0_; have HO_8 := n1_; have HO774 := n2_; have HB := n3_; clear n0_ n1_ n2_ n3_; (try clear hb); (try clear hb2); (try clear hk); (try clear hi); (try clear ho0)) | (go_at_call 36; (with_reducible refine (impl_GroupsOf.calls kj6 t757 _ _ t758 t775 t776 _ ?side1 ?side2 A20.out).mono ?_); (case side1 => repeat (first | exact (Kd.R_reads' HO_6.out).2.2 | (with_reducible refine Kd.C_alloc ?_ _) | (with_reducible refine Kd.C_drewN ?_ _) | (with_reducible refine Kd.C_drew ?_))); (case side2 => exact (Kd.R_reads' HO_6.out).2.1); rintro e w24 ⟨v777, rfl, ho0, hb⟩; have n0_ := Aside0.mk (Kd.R_below (by (with_reducible repeat (first | apply Kd.R_alloc | apply Kd.R_drewN | apply Kd.R_drew)); exact HO_6.out) hb); have n1_ := Aside0.mk (Kd.R_elder' (by (with_reducible repeat (first | apply Kd.R_alloc | apply Kd.R_drewN | apply Kd.R_drew)); exact HO_8.out) (Kd.R_base ho0) hb); have n2_ := Aside0.mk (Kd.R_elder' (by (with_reducible repeat (first | apply Kd.R_alloc | apply Kd.R_drewN | apply Kd.R_drew)); exact HO774.out) (Kd.R_base ho0) hb); have n3_ := Aside0.mk (Kd.R_lower (Kd.R_new' (Kd.R_new' ho0 (Kd.R_lt (by (with_reducible repeat (first | apply Kd.R_alloc | apply Kd.R_drewN | apply Kd.R_drew)); exact HO_8.out))) (Kd.R_lt (by (with_reducible repeat (first | apply Kd.R_alloc | apply Kd.R_drewN | apply Kd.R_drew)); exact HO774.out))) (below_size (by repeat (first | (with_reducible first | exact HB.out | apply below_alloc | apply pw_below_drewN | apply below_drew1) | exact HB.out)))); have n4_ := Aside0.mk (below_step (by repeat (first | (with_reducible first | exact HB.out | apply below_alloc | apply pw_below_drewN | apply below_drew1) | exact HB.out)) hb); clear HO_6; clear HO_8; clear HO774; clear HB; have HO_6 := n0_; have HO_8 := n1_; have HO774 := n2_; have HO778 := n3_; have HB := n4_; clear n0_ n1_ n2_ n3_ n4_; (try clear hb); (try clear hb2); (try clear hk); (try clear hi); (try clear ho0))); go_upto_region 11 with (first | (go_at_call 22; (with_reducible refine (impl_RelaxAll.calls kj6 t757 _ _ t758 _ _ t762 t771 t772 _ ?side1 ?side2 ?side3 ?side4 A19.out).mono ?_); (case side1 => repeat (first | exact (Kd.R_reads' HO_6.out).2.2 | (with_reducible refine Kd.C_alloc ?_ _) | (with_reducible refine Kd.C_drewN ?_ _) | (with_reducible refine Kd.C_drew ?_))); (case side2 => exact (Kd.R_reads' HO_6.out).2.1); (case side3 => repeat (first | exact (Kd.R_reads' HO_8.out).2.2 | (with_reducible refine Kd.C_alloc ?_ _) | (with_reducible refine Kd.C_drewN ?_ _) | (with_reducible refine Kd.C_drew ?_))); (case side4 => exact (Kd.R_reads' HO_8.out).2.1); rintro e w23 ⟨v773, rfl, ho0, hb⟩; have n0_ := Aside0.mk (Kd.R_below (by (with_reducible repeat (first | apply Kd.R_alloc | apply Kd.R_drewN | apply Kd.R_drew)); exact HO_6.out) hb); have n1_ := Aside0.mk (Kd.R_elder' (by (with_reducible repeat (first | apply Kd.R_alloc | apply Kd.R_drewN | apply Kd.R_drew)); exact HO_8.out) (Kd.R_base ho0) hb); have n2_ := Aside0.mk (Kd.R_lower (Kd.R_new' ho0 (Kd.R_lt (by (with_reducible repeat (first | apply Kd.R_alloc | apply Kd.R_drewN | apply Kd.R_drew)); exact HO_8.out))) (below_size (by repeat (first | (with_reducible first | exact HB.out | apply below_alloc | apply pw_below_drewN | apply below_drew1) | exact HB.out)))); have n3_ := Aside0.mk (below_step (by repeat (first | (with_reducible first | exact HB.out | apply below_alloc | apply pw_below_drewN | apply below_drew1) | exact HB.out)) hb); clear HO_6; clear HO_8; clear HB; have HO_6 := n0_; have HO_8 := n1_; have HO774 := n2_; have HB := n3_; clear n0_ n1_ n2_ n3_; (try clear hb); (try clear hb2); (try clear hk); (try clear hi); (try clear ho0)) | (go_at_call 36; (with_reducible refine (impl_GroupsOf.calls kj6 t757 _ _ t758 t775 t776 _ ?side1 ?side2 A20.out).mono ?_); (case side1 => repeat (first | exact (Kd.R_reads' HO_6.out).2.2 | (with_reducible refine Kd.C_alloc ?_ _) | (with_reducible refine Kd.C_drewN ?_ _) | (with_reducible refine Kd.C_drew ?_))); (case side2 => exact (Kd.R_reads' HO_6.out).2.1); rintro e w24 ⟨v777, rfl, ho0, hb⟩; have n0_ := Aside0.mk (Kd.R_below (by (with_reducible repeat (first | apply Kd.R_alloc | apply Kd.R_drewN | apply Kd.R_drew)); exact HO_6.out) hb); have n1_ := Aside0.mk (Kd.R_elder' (by (with_reducible repeat (first | apply Kd.R_alloc | apply Kd.R_drewN | apply Kd.R_drew)); exact HO_8.out) (Kd.R_base ho0) hb); have n2_ := Aside0.mk (Kd.R_elder' (by (with_reducible repeat (first | apply Kd.R_alloc | apply Kd.R_drewN | apply Kd.R_drew)); exact HO774.out) (Kd.R_base ho0) hb); have n3_ := Aside0.mk (Kd.R_lower (Kd.R_new' (Kd.R_new' ho0 (Kd.R_lt (by (with_reducible repeat (first | apply Kd.R_alloc | apply Kd.R_drewN | apply Kd.R_drew)); exact HO_8.out))) (Kd.R_lt (by (with_reducible repeat (first | apply Kd.R_alloc | apply Kd.R_drewN | apply Kd.R_drew)); exact HO774.out))) (below_size (by repeat (first | (with_reducible first | exact HB.out | apply below_alloc | apply pw_below_drewN | apply below_drew1) | exact HB.out)))); have n4_ := Aside0.mk (below_step (by repeat (first | (with_reducible first | exact HB.out | apply below_alloc | apply pw_below_drewN | apply below_drew1) | exact HB.out)) hb); clear HO_6; clear HO_8; clear HO774; clear HB; have HO_6 := n0_; have HO_8 := n1_; have HO774 := n2_; have HO778 := n3_; have HB := n4_; clear n0_ n1_ n2_ n3_ n4_; (try clear hb); (try clear hb2); (try clear hk); (try clear hi); (try clear ho0))))
       (try simp only [Act.put, List.setIfInBounds_toArray, List.set_cons_zero, List.set_cons_succ])
       go_cut [103] (fun v103 wc => ∃ (kq : Nat) (x103_20 : Bool), v103 = .bool x103_20 ∧ Aside0 (laws_FnFars.j1 kq l1 t757 t758 t759 t762 t775 x103_20 = some r) ∧ Aside0 (kq ≤ kj6) ∧ Aside0 (Kd.R k67 67 wc w.heap.size (fun _ => True) (.slice Ao9 t758.length co9) t758) ∧ Aside0 (Kd.R (Kd.int .i64) 3 wc w.heap.size (fun k_ => some k_ ≠ (v777 : Value).ownBlock) (.slice Ao22 t762.length co22) t762) ∧ Aside0 (Kd.R (Kd.int .i64) 3 wc w.heap.size (fun k_ => some k_ ≠ ((.slice Ao22 t762.length co22) : Value).ownBlock) v777 t775) ∧ Aside0 (Below w.heap.size w wc))
       case first =>
        have H := HC21.out
        clear HC21
        by_cases c25 : t772 = true
        ·subst c25
         have H1 : ((laws_sameInts.f kj6 t771 t762).bind fun t779 => (if t779 = true then (if 0 ≤ t759 then (if t759 < (t762.length : Int) then (if (rd t762 t759) = 0 then (laws_FnFars.j1 kj6 l1 t757 t758 t759 t762 t775 (!t776)) else (laws_FnFars.j1 kj6 l1 t757 t758 t759 t762 t775 true)) else (none)) else (none)) else (laws_FnFars.j1 kj6 l1 t757 t758 t759 t762 t775 true))) = some r := by rw [if_pos rfl] at H; exact H
         clear H
         have H := H1
         clear H1
         replace H := Option.bind_eq_some_iff.mp H
         obtain ⟨t779, A260, H⟩ := H
         replace H : (if t779 = true then (if 0 ≤ t759 then (if t759 < (t762.length : Int) then (if (rd t762 t759) = 0 then (laws_FnFars.j1 kj6 l1 t757 t758 t759 t762 t775 (!t776)) else (laws_FnFars.j1 kj6 l1 t757 t758 t759 t762 t775 true)) else (none)) else (none)) else (laws_FnFars.j1 kj6 l1 t757 t758 t759 t762 t775 true)) = some r := H
         have A26 := Aside0.mk A260
         clear A260
         by_cases c27 : t779 = true
         ·subst c27
          have H1 : (if 0 ≤ t759 then (if t759 < (t762.length : Int) then (if (rd t762 t759) = 0 then (laws_FnFars.j1 kj6 l1 t757 t758 t759 t762 t775 (!t776)) else (laws_FnFars.j1 kj6 l1 t757 t758 t759 t762 t775 true)) else (none)) else (none)) = some r := by rw [if_pos rfl] at H; exact H
          clear H
          have H := H1
          clear H1
          by_cases c28 : 0 ≤ t759
          ·rw [if_pos c28] at H
           have c28b0 : decide (0 ≤ t759) = true := decide_eq_true c28
           clear c28
           (first | rw [c28b0] | (simp only [i64_w, i32_w]; rw [c28b0]) | skip)
           by_cases c29 : t759 < (t762.length : Int)
           ·rw [if_pos c29] at H
            have c29b0 : decide (t759 < (t762.length : Int)) = true := decide_eq_true c29
            clear c29
            by_cases c30 : (rd t762 t759) = 0
            ·rw [if_pos c30] at H
             have c30b0 : ((rd t762 t759) == 0) = true := beq_iff_eq.mpr c30
             have c30b1 : ((rd t762 t759) != 0) = false := bne_eq_false_iff_eq.mpr c30
             clear c30
             as_aux_lemma =>
              have H' := Aside0.mk H
              clear H
              obtain ⟨Ao31, co31, eo31⟩ := Kd.R_slice HO774.out
              subst eo31
              go_wp2_with (first | (go_at_call 35; (with_reducible refine (laws_sameInts.calls kj6 _ _ t771 _ _ t762 true _ ?side1 ?side2 ?side3 ?side4 A26.out).mono ?_); (case side1 => repeat (first | exact (Kd.R_reads' HO774.out).2.2 | (with_reducible refine Kd.C_alloc ?_ _) | (with_reducible refine Kd.C_drewN ?_ _) | (with_reducible refine Kd.C_drew ?_))); (case side2 => exact (Kd.R_reads' HO774.out).2.1); (case side3 => repeat (first | exact (Kd.R_reads' HO_8.out).2.2 | (with_reducible refine Kd.C_alloc ?_ _) | (with_reducible refine Kd.C_drewN ?_ _) | (with_reducible refine Kd.C_drew ?_))); (case side4 => exact (Kd.R_reads' HO_8.out).2.1); rintro e w' ⟨rfl, ⟨nd, rfl⟩⟩; (try first | exact ⟨rfl, _, World.drewN_drewN _ _ _⟩ | exact ⟨rfl, _, Eq.trans (World.drewN_drewN _ _ _) (congrArg (World.drewN _) (Nat.add_assoc _ _ _))⟩); have p780 : 0 ≤ (t759 : Int) := of_decide_eq_true (by first | (with_reducible assumption) | assumption); have q780 : t759 < (t762.length : Int) := of_decide_eq_true (by first | (with_reducible assumption) | assumption); obtain ⟨ad780, e780, hx780_0⟩ := Kd.at_int (Kd.R_reads' HO_8.out).2.2 t759 p780 q780; cases e780; replace p780 := eq_true p780; replace q780 := eq_true q780))
              repeat (go_quiet (first | (go_at_call 35; (with_reducible refine (laws_sameInts.calls kj6 _ _ t771 _ _ t762 true _ ?side1 ?side2 ?side3 ?side4 A26.out).mono ?_); (case side1 => repeat (first | exact (Kd.R_reads' HO774.out).2.2 | (with_reducible refine Kd.C_alloc ?_ _) | (with_reducible refine Kd.C_drewN ?_ _) | (with_reducible refine Kd.C_drew ?_))); (case side2 => exact (Kd.R_reads' HO774.out).2.1); (case side3 => repeat (first | exact (Kd.R_reads' HO_8.out).2.2 | (with_reducible refine Kd.C_alloc ?_ _) | (with_reducible refine Kd.C_drewN ?_ _) | (with_reducible refine Kd.C_drew ?_))); (case side4 => exact (Kd.R_reads' HO_8.out).2.1); rintro e w' ⟨rfl, ⟨nd, rfl⟩⟩; (try first | exact ⟨rfl, _, World.drewN_drewN _ _ _⟩ | exact ⟨rfl, _, Eq.trans (World.drewN_drewN _ _ _) (congrArg (World.drewN _) (Nat.add_assoc _ _ _))⟩); have p780 : 0 ≤ (t759 : Int) := of_decide_eq_true (by first | (with_reducible assumption) | assumption); have q780 : t759 < (t762.length : Int) := of_decide_eq_true (by first | (with_reducible assumption) | assumption); obtain ⟨ad780, e780, hx780_0⟩ := Kd.at_int (Kd.R_reads' HO_8.out).2.2 t759 p780 q780; cases e780; replace p780 := eq_true p780; replace q780 := eq_true q780)); try go_wp2_with (first | (go_at_call 35; (with_reducible refine (laws_sameInts.calls kj6 _ _ t771 _ _ t762 true _ ?side1 ?side2 ?side3 ?side4 A26.out).mono ?_); (case side1 => repeat (first | exact (Kd.R_reads' HO774.out).2.2 | (with_reducible refine Kd.C_alloc ?_ _) | (with_reducible refine Kd.C_drewN ?_ _) | (with_reducible refine Kd.C_drew ?_))); (case side2 => exact (Kd.R_reads' HO774.out).2.1); (case side3 => repeat (first | exact (Kd.R_reads' HO_8.out).2.2 | (with_reducible refine Kd.C_alloc ?_ _) | (with_reducible refine Kd.C_drewN ?_ _) | (with_reducible refine Kd.C_drew ?_))); (case side4 => exact (Kd.R_reads' HO_8.out).2.1); rintro e w' ⟨rfl, ⟨nd, rfl⟩⟩; (try first | exact ⟨rfl, _, World.drewN_drewN _ _ _⟩ | exact ⟨rfl, _, Eq.trans (World.drewN_drewN _ _ _) (congrArg (World.drewN _) (Nat.add_assoc _ _ _))⟩); have p780 : 0 ≤ (t759 : Int) := of_decide_eq_true (by first | (with_reducible assumption) | assumption); have q780 : t759 < (t762.length : Int) := of_decide_eq_true (by first | (with_reducible assumption) | assumption); obtain ⟨ad780, e780, hx780_0⟩ := Kd.at_int (Kd.R_reads' HO_8.out).2.2 t759 p780 q780; cases e780; replace p780 := eq_true p780; replace q780 := eq_true q780)))
              go_meet
              case rel => exact ⟨_, (!t776), (by first | rfl | (simp; done) | (simp [*]; done)), H', ⟨by have := HJ6.out; first | omega | exact Nat.le_refl _⟩, ⟨by (with_reducible repeat (first | apply Kd.R_alloc | apply Kd.R_drewN | apply Kd.R_drew)); exact HO_6.out⟩, ⟨by (with_reducible repeat (first | apply Kd.R_alloc | apply Kd.R_drewN | apply Kd.R_drew)); exact Kd.R_mono HO_8.out (fun _ hk => hk.2)⟩, ⟨by (with_reducible repeat (first | apply Kd.R_alloc | apply Kd.R_drewN | apply Kd.R_drew)); exact Kd.R_mono HO778.out (fun _ hk => hk.1.2)⟩, ⟨by repeat (first | (with_reducible first | exact HB.out | apply below_alloc | apply pw_below_drewN | apply below_drew1) | exact HB.out)⟩⟩
            ·rw [if_neg c30] at H
             have c30b0 : ((rd t762 t759) == 0) = false := beq_eq_false_iff_ne.mpr c30
             have c30b1 : ((rd t762 t759) != 0) = true := bne_iff_ne.mpr c30
             as_aux_lemma =>
              have H' := Aside0.mk H
              clear H
              obtain ⟨Ao32, co32, eo32⟩ := Kd.R_slice HO774.out
              subst eo32
              go_wp2_with (first | (go_at_call 35; (with_reducible refine (laws_sameInts.calls kj6 _ _ t771 _ _ t762 true _ ?side1 ?side2 ?side3 ?side4 A26.out).mono ?_); (case side1 => repeat (first | exact (Kd.R_reads' HO774.out).2.2 | (with_reducible refine Kd.C_alloc ?_ _) | (with_reducible refine Kd.C_drewN ?_ _) | (with_reducible refine Kd.C_drew ?_))); (case side2 => exact (Kd.R_reads' HO774.out).2.1); (case side3 => repeat (first | exact (Kd.R_reads' HO_8.out).2.2 | (with_reducible refine Kd.C_alloc ?_ _) | (with_reducible refine Kd.C_drewN ?_ _) | (with_reducible refine Kd.C_drew ?_))); (case side4 => exact (Kd.R_reads' HO_8.out).2.1); rintro e w' ⟨rfl, ⟨nd, rfl⟩⟩; (try first | exact ⟨rfl, _, World.drewN_drewN _ _ _⟩ | exact ⟨rfl, _, Eq.trans (World.drewN_drewN _ _ _) (congrArg (World.drewN _) (Nat.add_assoc _ _ _))⟩); have p780 : 0 ≤ (t759 : Int) := of_decide_eq_true (by first | (with_reducible assumption) | assumption); have q780 : t759 < (t762.length : Int) := of_decide_eq_true (by first | (with_reducible assumption) | assumption); obtain ⟨ad780, e780, hx780_0⟩ := Kd.at_int (Kd.R_reads' HO_8.out).2.2 t759 p780 q780; cases e780; replace p780 := eq_true p780; replace q780 := eq_true q780))
              repeat (go_quiet (first | (go_at_call 35; (with_reducible refine (laws_sameInts.calls kj6 _ _ t771 _ _ t762 true _ ?side1 ?side2 ?side3 ?side4 A26.out).mono ?_); (case side1 => repeat (first | exact (Kd.R_reads' HO774.out).2.2 | (with_reducible refine Kd.C_alloc ?_ _) | (with_reducible refine Kd.C_drewN ?_ _) | (with_reducible refine Kd.C_drew ?_))); (case side2 => exact (Kd.R_reads' HO774.out).2.1); (case side3 => repeat (first | exact (Kd.R_reads' HO_8.out).2.2 | (with_reducible refine Kd.C_alloc ?_ _) | (with_reducible refine Kd.C_drewN ?_ _) | (with_reducible refine Kd.C_drew ?_))); (case side4 => exact (Kd.R_reads' HO_8.out).2.1); rintro e w' ⟨rfl, ⟨nd, rfl⟩⟩; (try first | exact ⟨rfl, _, World.drewN_drewN _ _ _⟩ | exact ⟨rfl, _, Eq.trans (World.drewN_drewN _ _ _) (congrArg (World.drewN _) (Nat.add_assoc _ _ _))⟩); have p780 : 0 ≤ (t759 : Int) := of_decide_eq_true (by first | (with_reducible assumption) | assumption); have q780 : t759 < (t762.length : Int) := of_decide_eq_true (by first | (with_reducible assumption) | assumption); obtain ⟨ad780, e780, hx780_0⟩ := Kd.at_int (Kd.R_reads' HO_8.out).2.2 t759 p780 q780; cases e780; replace p780 := eq_true p780; replace q780 := eq_true q780)); try go_wp2_with (first | (go_at_call 35; (with_reducible refine (laws_sameInts.calls kj6 _ _ t771 _ _ t762 true _ ?side1 ?side2 ?side3 ?side4 A26.out).mono ?_); (case side1 => repeat (first | exact (Kd.R_reads' HO774.out).2.2 | (with_reducible refine Kd.C_alloc ?_ _) | (with_reducible refine Kd.C_drewN ?_ _) | (with_reducible refine Kd.C_drew ?_))); (case side2 => exact (Kd.R_reads' HO774.out).2.1); (case side3 => repeat (first | exact (Kd.R_reads' HO_8.out).2.2 | (with_reducible refine Kd.C_alloc ?_ _) | (with_reducible refine Kd.C_drewN ?_ _) | (with_reducible refine Kd.C_drew ?_))); (case side4 => exact (Kd.R_reads' HO_8.out).2.1); rintro e w' ⟨rfl, ⟨nd, rfl⟩⟩; (try first | exact ⟨rfl, _, World.drewN_drewN _ _ _⟩ | exact ⟨rfl, _, Eq.trans (World.drewN_drewN _ _ _) (congrArg (World.drewN _) (Nat.add_assoc _ _ _))⟩); have p780 : 0 ≤ (t759 : Int) := of_decide_eq_true (by first | (with_reducible assumption) | assumption); have q780 : t759 < (t762.length : Int) := of_decide_eq_true (by first | (with_reducible assumption) | assumption); obtain ⟨ad780, e780, hx780_0⟩ := Kd.at_int (Kd.R_reads' HO_8.out).2.2 t759 p780 q780; cases e780; replace p780 := eq_true p780; replace q780 := eq_true q780)))
              go_meet
              case rel => exact ⟨_, (true), (by first | rfl | (simp; done) | (simp [*]; done)), H', ⟨by have := HJ6.out; first | omega | exact Nat.le_refl _⟩, ⟨by (with_reducible repeat (first | apply Kd.R_alloc | apply Kd.R_drewN | apply Kd.R_drew)); exact HO_6.out⟩, ⟨by (with_reducible repeat (first | apply Kd.R_alloc | apply Kd.R_drewN | apply Kd.R_drew)); exact Kd.R_mono HO_8.out (fun _ hk => hk.2)⟩, ⟨by (with_reducible repeat (first | apply Kd.R_alloc | apply Kd.R_drewN | apply Kd.R_drew)); exact Kd.R_mono HO778.out (fun _ hk => hk.1.2)⟩, ⟨by repeat (first | (with_reducible first | exact HB.out | apply below_alloc | apply pw_below_drewN | apply below_drew1) | exact HB.out)⟩⟩
           ·rw [if_neg c29] at H
            exact absurd H (by simp)
          ·rw [if_neg c28] at H
           exact absurd H (by simp)
         ·replace c27 := Bool.eq_false_iff.mpr c27
          subst c27
          have H1 : (laws_FnFars.j1 kj6 l1 t757 t758 t759 t762 t775 true) = some r := by rw [if_neg (show ¬ (false = true) by decide)] at H; exact H
          clear H
          have H := H1
          clear H1
          as_aux_lemma =>
           have H' := Aside0.mk H
           clear H
           obtain ⟨Ao33, co33, eo33⟩ := Kd.R_slice HO774.out
           subst eo33
           go_wp2_with (first | (go_at_call 35; (with_reducible refine (laws_sameInts.calls kj6 _ _ t771 _ _ t762 false _ ?side1 ?side2 ?side3 ?side4 A26.out).mono ?_); (case side1 => repeat (first | exact (Kd.R_reads' HO774.out).2.2 | (with_reducible refine Kd.C_alloc ?_ _) | (with_reducible refine Kd.C_drewN ?_ _) | (with_reducible refine Kd.C_drew ?_))); (case side2 => exact (Kd.R_reads' HO774.out).2.1); (case side3 => repeat (first | exact (Kd.R_reads' HO_8.out).2.2 | (with_reducible refine Kd.C_alloc ?_ _) | (with_reducible refine Kd.C_drewN ?_ _) | (with_reducible refine Kd.C_drew ?_))); (case side4 => exact (Kd.R_reads' HO_8.out).2.1); rintro e w' ⟨rfl, ⟨nd, rfl⟩⟩; (try first | exact ⟨rfl, _, World.drewN_drewN _ _ _⟩ | exact ⟨rfl, _, Eq.trans (World.drewN_drewN _ _ _) (congrArg (World.drewN _) (Nat.add_assoc _ _ _))⟩)))
           repeat (go_quiet (first | (go_at_call 35; (with_reducible refine (laws_sameInts.calls kj6 _ _ t771 _ _ t762 false _ ?side1 ?side2 ?side3 ?side4 A26.out).mono ?_); (case side1 => repeat (first | exact (Kd.R_reads' HO774.out).2.2 | (with_reducible refine Kd.C_alloc ?_ _) | (with_reducible refine Kd.C_drewN ?_ _) | (with_reducible refine Kd.C_drew ?_))); (case side2 => exact (Kd.R_reads' HO774.out).2.1); (case side3 => repeat (first | exact (Kd.R_reads' HO_8.out).2.2 | (with_reducible refine Kd.C_alloc ?_ _) | (with_reducible refine Kd.C_drewN ?_ _) | (with_reducible refine Kd.C_drew ?_))); (case side4 => exact (Kd.R_reads' HO_8.out).2.1); rintro e w' ⟨rfl, ⟨nd, rfl⟩⟩; (try first | exact ⟨rfl, _, World.drewN_drewN _ _ _⟩ | exact ⟨rfl, _, Eq.trans (World.drewN_drewN _ _ _) (congrArg (World.drewN _) (Nat.add_assoc _ _ _))⟩))); try go_wp2_with (first | (go_at_call 35; (with_reducible refine (laws_sameInts.calls kj6 _ _ t771 _ _ t762 false _ ?side1 ?side2 ?side3 ?side4 A26.out).mono ?_); (case side1 => repeat (first | exact (Kd.R_reads' HO774.out).2.2 | (with_reducible refine Kd.C_alloc ?_ _) | (with_reducible refine Kd.C_drewN ?_ _) | (with_reducible refine Kd.C_drew ?_))); (case side2 => exact (Kd.R_reads' HO774.out).2.1); (case side3 => repeat (first | exact (Kd.R_reads' HO_8.out).2.2 | (with_reducible refine Kd.C_alloc ?_ _) | (with_reducible refine Kd.C_drewN ?_ _) | (with_reducible refine Kd.C_drew ?_))); (case side4 => exact (Kd.R_reads' HO_8.out).2.1); rintro e w' ⟨rfl, ⟨nd, rfl⟩⟩; (try first | exact ⟨rfl, _, World.drewN_drewN _ _ _⟩ | exact ⟨rfl, _, Eq.trans (World.drewN_drewN _ _ _) (congrArg (World.drewN _) (Nat.add_assoc _ _ _))⟩))))
           go_meet
           case rel => exact ⟨_, (true), (by first | rfl | (simp; done) | (simp [*]; done)), H', ⟨by have := HJ6.out; first | omega | exact Nat.le_refl _⟩, ⟨by (with_reducible repeat (first | apply Kd.R_alloc | apply Kd.R_drewN | apply Kd.R_drew)); exact HO_6.out⟩, ⟨by (with_reducible repeat (first | apply Kd.R_alloc | apply Kd.R_drewN | apply Kd.R_drew)); exact Kd.R_mono HO_8.out (fun _ hk => hk.2)⟩, ⟨by (with_reducible repeat (first | apply Kd.R_alloc | apply Kd.R_drewN | apply Kd.R_drew)); exact Kd.R_mono HO778.out (fun _ hk => hk.1.2)⟩, ⟨by repeat (first | (with_reducible first | exact HB.out | apply below_alloc | apply pw_below_drewN | apply below_drew1) | exact HB.out)⟩⟩
        ·replace c25 := Bool.eq_false_iff.mpr c25
         subst c25
         have H1 : (laws_FnFars.j1 kj6 l1 t757 t758 t759 t762 t775 true) = some r := by rw [if_neg (show ¬ (false = true) by decide)] at H; exact H
         clear H
         have H := H1
         clear H1
         as_aux_lemma =>
          have H' := Aside0.mk H
          clear H
          go_wp2
          repeat (go_quiet (fail); try go_wp2)
          go_meet
          case rel => exact ⟨_, (true), (by first | rfl | (simp; done) | (simp [*]; done)), H', ⟨by have := HJ6.out; first | omega | exact Nat.le_refl _⟩, ⟨by (with_reducible repeat (first | apply Kd.R_alloc | apply Kd.R_drewN | apply Kd.R_drew)); exact HO_6.out⟩, ⟨by (with_reducible repeat (first | apply Kd.R_alloc | apply Kd.R_drewN | apply Kd.R_drew)); exact Kd.R_mono HO_8.out (fun _ hk => hk.2)⟩, ⟨by (with_reducible repeat (first | apply Kd.R_alloc | apply Kd.R_drewN | apply Kd.R_drew)); exact Kd.R_mono HO778.out (fun _ hk => hk.1.2)⟩, ⟨by repeat (first | (with_reducible first | exact HB.out | apply below_alloc | apply pw_below_drewN | apply below_drew1) | exact HB.out)⟩⟩
       case rest =>
        clear HC21
        try clear c1
        try clear c2
        try clear p2
        try clear c3
        try clear c3b0
        try clear p6
        try clear p7
        try clear q7
        try clear hx7
        try clear c10
        try clear c12
        try clear c12b0
        try clear c12b1
        try clear c12b2
        try clear c16
        try clear c18
        try clear c25
        try clear c27
        try clear c28
        try clear c28b0
        try clear c29
        try clear c29b0
        try clear c30
        try clear c30b0
        try clear c30b1
        try clear hx780_0
        try clear p2
        try clear p6
        try clear p780
        try clear q780
        obtain ⟨kq, x103_20, rfl, HA, HJ20, HO_6, HO_8, HO_14, HB⟩ := hcut
        cases kq with
        | zero => exact absurd HA.out (by simp [laws_FnFars.j1])
        | succ kj20 =>
         have H := HA.out
         clear HA
         simp only [laws_FnFars.j1] at H
         by_cases c34 : x103_20 = true
         ·subst c34
          have H1 : (some false) = some r := by rw [if_pos rfl] at H; exact H
          clear H
          have H := H1
          clear H1
          as_aux_lemma =>
           obtain rfl := Option.some.inj H
           go_wp2
           repeat (go_quiet (fail); try go_wp2)
           go_ret
           exact ⟨by first | rfl | (simp [errW_none, errW_some] <;> rfl) | (simp [*, errW_none, errW_some] <;> rfl), by repeat (first | (with_reducible first | exact HB.out | apply below_alloc | apply pw_below_drewN | apply below_drew1) | exact HB.out)⟩
         ·replace c34 := Bool.eq_false_iff.mpr c34
          subst c34
          have H1 : (laws_FnFars.l0 kj20 l1 t757 t758 t759 t762 t775 (t762.length : Int) 0) = some r := by rw [if_neg (show ¬ (false = true) by decide)] at H; exact H
          clear H
          have H := H1
          clear H1
          have H' := Aside0.mk H
          clear H
          go_wp2
          repeat (go_quiet (fail); try go_wp2)
          go_loopg [106] kj20 (fun kq v106 w' => ∃ (x106_3 : Int), v106 = .int .i64 x106_3 ∧ Aside0 (laws_FnFars.l0 kq l1 t757 t758 t759 t762 t775 (t762.length : Int) x106_3 = some r) ∧ Aside0 (kq ≤ kj20) ∧ Aside0 (Kd.R k67 67 w' w.heap.size (fun _ => True) (.slice Ao9 t758.length co9) t758) ∧ Aside0 (Kd.R (Kd.int .i64) 3 w' w.heap.size (fun k_ => some k_ ≠ (v777 : Value).ownBlock) (.slice Ao22 t762.length co22) t762) ∧ Aside0 (Kd.R (Kd.int .i64) 3 w' w.heap.size (fun k_ => some k_ ≠ ((.slice Ao22 t762.length co22) : Value).ownBlock) v777 t775) ∧ Aside0 (Below w.heap.size w w'))
          case atStart => exact ⟨(0), (by first | rfl | (simp; done) | (simp [*]; done)), H', ⟨Nat.le_refl _⟩, ⟨by (with_reducible repeat (first | apply Kd.R_alloc | apply Kd.R_drewN | apply Kd.R_drew)); exact HO_6.out⟩, ⟨by (with_reducible repeat (first | apply Kd.R_alloc | apply Kd.R_drewN | apply Kd.R_drew)); exact HO_8.out⟩, ⟨by (with_reducible repeat (first | apply Kd.R_alloc | apply Kd.R_drewN | apply Kd.R_drew)); exact HO_14.out⟩, ⟨by repeat (first | (with_reducible first | exact HB.out | apply below_alloc | apply pw_below_drewN | apply below_drew1) | exact HB.out)⟩⟩
          case round =>
           clear H'
           try clear c1
           try clear c2
           try clear p2
           try clear c3
           try clear c3b0
           try clear p6
           try clear p7
           try clear q7
           try clear hx7
           try clear c10
           try clear c12
           try clear c12b0
           try clear c12b1
           try clear c12b2
           try clear c16
           try clear c18
           try clear c25
           try clear c27
           try clear c28
           try clear c28b0
           try clear c29
           try clear c29b0
           try clear c30
           try clear c30b0
           try clear c30b1
           try clear c34
           try clear hx780_0
           try clear p2
           try clear p6
           try clear p7
           try clear p780
           try clear q7
           try clear q780
           obtain ⟨x106_3, rfl, HA, HK3, HO_6, HO_8, HO_14, HB⟩ := hrel
           cases gk with
           | zero => exact absurd HA.out (by simp [laws_FnFars.l0])
           | succ k3 =>
            have H := HA.out
            clear HA
            simp only [laws_FnFars.l0] at H
            by_cases c35 : x106_3 < (t762.length : Int)
            ·rw [if_pos c35] at H
             have c35b0 : decide (x106_3 < (t762.length : Int)) = true := decide_eq_true c35
             clear c35
             replace H := Option.bind_eq_some_iff.mp H
             obtain ⟨⟨t781, t782⟩, A360, H⟩ := H
             replace H : (if t782 = true then (if 0 ≤ t759 then (if t759 < (t781.length : Int) then (if 0 ≤ x106_3 then (if x106_3 < (t762.length : Int) then (if (rd t781 t759) = (rd t762 x106_3) then (if x106_3 < (t775.length : Int) then (if t759 < (t775.length : Int) then (laws_FnFars.j3 k3 l1 t757 t758 t759 t762 t775 x106_3 t781 (t762.length : Int) x106_3 (((rd t762 x106_3) == 100000) != ((rd t775 x106_3) != (rd t775 t759)))) else (none)) else (none)) else (laws_FnFars.j3 k3 l1 t757 t758 t759 t762 t775 x106_3 t781 (t762.length : Int) x106_3 true)) else (none)) else (none)) else (none)) else (none)) else (laws_FnFars.j3 k3 l1 t757 t758 t759 t762 t775 x106_3 t781 (t762.length : Int) x106_3 true)) = some r := H
             have A36 := Aside0.mk A360
             clear A360
             have HC37 := Aside0.mk H
             clear H
             go_upto_region 17 with (first | (go_at_call 27; (with_reducible refine (impl_FarsFrom.calls k3 t757 _ _ t758 x106_3 t781 t782 _ ?side1 ?side2 A36.out).mono ?_); (case side1 => repeat (first | exact (Kd.R_reads' HO_6.out).2.2 | (with_reducible refine Kd.C_alloc ?_ _) | (with_reducible refine Kd.C_drewN ?_ _) | (with_reducible refine Kd.C_drew ?_))); (case side2 => exact (Kd.R_reads' HO_6.out).2.1); rintro e w38 ⟨v783, rfl, ho0, hb⟩; have n0_ := Aside0.mk (Kd.R_below (by (with_reducible repeat (first | apply Kd.R_alloc | apply Kd.R_drewN | apply Kd.R_drew)); exact HO_6.out) hb); have n1_ := Aside0.mk (Kd.R_elder' (by (with_reducible repeat (first | apply Kd.R_alloc | apply Kd.R_drewN | apply Kd.R_drew)); exact HO_8.out) (Kd.R_base ho0) hb); have n2_ := Aside0.mk (Kd.R_elder' (by (with_reducible repeat (first | apply Kd.R_alloc | apply Kd.R_drewN | apply Kd.R_drew)); exact HO_14.out) (Kd.R_base ho0) hb); have n3_ := Aside0.mk (Kd.R_lower (Kd.R_new' (Kd.R_new' ho0 (Kd.R_lt (by (with_reducible repeat (first | apply Kd.R_alloc | apply Kd.R_drewN | apply Kd.R_drew)); exact HO_8.out))) (Kd.R_lt (by (with_reducible repeat (first | apply Kd.R_alloc | apply Kd.R_drewN | apply Kd.R_drew)); exact HO_14.out))) (below_size (by repeat (first | (with_reducible first | exact HB.out | apply below_alloc | apply pw_below_drewN | apply below_drew1) | exact HB.out)))); have n4_ := Aside0.mk (below_step (by repeat (first | (with_reducible first | exact HB.out | apply below_alloc | apply pw_below_drewN | apply below_drew1) | exact HB.out)) hb); clear HO_6; clear HO_8; clear HO_14; clear HB; have HO_6 := n0_; have HO_8 := n1_; have HO_14 := n2_; have HO784 := n3_; have HB := n4_; clear n0_ n1_ n2_ n3_ n4_; (try clear hb); (try clear hb2); (try clear hk); (try clear hi); (try clear ho0)))
             repeat (go_quiet (first | (go_at_call 27; (with_reducible refine (impl_FarsFrom.calls k3 t757 _ _ t758 x106_3 t781 t782 _ ?side1 ?side2 A36.out).mono ?_); (case side1 => repeat (first | exact (Kd.R_reads' HO_6.out).2.2 | (with_reducible refine Kd.C_alloc ?_ _) | (with_reducible refine Kd.C_drewN ?_ _) | (with_reducible refine Kd.C_drew ?_))); (case side2 => exact (Kd.R_reads' HO_6.out).2.1); rintro e w38 ⟨v783, rfl, ho0, hb⟩; have n0_ := Aside0.mk (Kd.R_below (by (with_reducible repeat (first | apply Kd.R_alloc | apply Kd.R_drewN | apply Kd.R_drew)); exact HO_6.out) hb); have n1_ := Aside0.mk (Kd.R_elder' (by (with_reducible repeat (first | apply Kd.R_alloc | apply Kd.R_drewN | apply Kd.R_drew)); exact HO_8.out) (Kd.R_base ho0) hb); have n2_ := Aside0.mk (Kd.R_elder' (by (with_reducible repeat (first | apply Kd.R_alloc | apply Kd.R_drewN | apply Kd.R_drew)); exact HO_14.out) (Kd.R_base ho0) hb); have n3_ := Aside0.mk (Kd.R_lower (Kd.R_new' (Kd.R_new' ho0 (Kd.R_lt (by (with_reducible repeat (first | apply Kd.R_alloc | apply Kd.R_drewN | apply Kd.R_drew)); exact HO_8.out))) (Kd.R_lt (by (with_reducible repeat (first | apply Kd.R_alloc | apply Kd.R_drewN | apply Kd.R_drew)); exact HO_14.out))) (below_size (by repeat (first | (with_reducible first | exact HB.out | apply below_alloc | apply pw_below_drewN | apply below_drew1) | exact HB.out)))); have n4_ := Aside0.mk (below_step (by repeat (first | (with_reducible first | exact HB.out | apply below_alloc | apply pw_below_drewN | apply below_drew1) | exact HB.out)) hb); clear HO_6; clear HO_8; clear HO_14; clear HB; have HO_6 := n0_; have HO_8 := n1_; have HO_14 := n2_; have HO784 := n3_; have HB := n4_; clear n0_ n1_ n2_ n3_ n4_; (try clear hb); (try clear hb2); (try clear hk); (try clear hi); (try clear ho0))); go_upto_region 17 with (first | (go_at_call 27; (with_reducible refine (impl_FarsFrom.calls k3 t757 _ _ t758 x106_3 t781 t782 _ ?side1 ?side2 A36.out).mono ?_); (case side1 => repeat (first | exact (Kd.R_reads' HO_6.out).2.2 | (with_reducible refine Kd.C_alloc ?_ _) | (with_reducible refine Kd.C_drewN ?_ _) | (with_reducible refine Kd.C_drew ?_))); (case side2 => exact (Kd.R_reads' HO_6.out).2.1); rintro e w38 ⟨v783, rfl, ho0, hb⟩; have n0_ := Aside0.mk (Kd.R_below (by (with_reducible repeat (first | apply Kd.R_alloc | apply Kd.R_drewN | apply Kd.R_drew)); exact HO_6.out) hb); have n1_ := Aside0.mk (Kd.R_elder' (by (with_reducible repeat (first | apply Kd.R_alloc | apply Kd.R_drewN | apply Kd.R_drew)); exact HO_8.out) (Kd.R_base ho0) hb); have n2_ := Aside0.mk (Kd.R_elder' (by (with_reducible repeat (first | apply Kd.R_alloc | apply Kd.R_drewN | apply Kd.R_drew)); exact HO_14.out) (Kd.R_base ho0) hb); have n3_ := Aside0.mk (Kd.R_lower (Kd.R_new' (Kd.R_new' ho0 (Kd.R_lt (by (with_reducible repeat (first | apply Kd.R_alloc | apply Kd.R_drewN | apply Kd.R_drew)); exact HO_8.out))) (Kd.R_lt (by (with_reducible repeat (first | apply Kd.R_alloc | apply Kd.R_drewN | apply Kd.R_drew)); exact HO_14.out))) (below_size (by repeat (first | (with_reducible first | exact HB.out | apply below_alloc | apply pw_below_drewN | apply below_drew1) | exact HB.out)))); have n4_ := Aside0.mk (below_step (by repeat (first | (with_reducible first | exact HB.out | apply below_alloc | apply pw_below_drewN | apply below_drew1) | exact HB.out)) hb); clear HO_6; clear HO_8; clear HO_14; clear HB; have HO_6 := n0_; have HO_8 := n1_; have HO_14 := n2_; have HO784 := n3_; have HB := n4_; clear n0_ n1_ n2_ n3_ n4_; (try clear hb); (try clear hb2); (try clear hk); (try clear hi); (try clear ho0))))
             (try simp only [Act.put, List.setIfInBounds_toArray, List.set_cons_zero, List.set_cons_succ])
             go_cut [145] (fun v145 wc => ∃ (kq : Nat) (x145_36 : Bool), v145 = .bool x145_36 ∧ Aside0 (laws_FnFars.j3 kq l1 t757 t758 t759 t762 t775 x106_3 t781 (t762.length : Int) x106_3 x145_36 = some r) ∧ Aside0 (kq ≤ k3) ∧ Aside0 (Kd.R k67 67 wc w.heap.size (fun _ => True) (.slice Ao9 t758.length co9) t758) ∧ Aside0 (Kd.R (Kd.int .i64) 3 wc w.heap.size (fun k_ => some k_ ≠ (v777 : Value).ownBlock ∧ some k_ ≠ (v783 : Value).ownBlock) (.slice Ao22 t762.length co22) t762) ∧ Aside0 (Kd.R (Kd.int .i64) 3 wc w.heap.size (fun k_ => some k_ ≠ ((.slice Ao22 t762.length co22) : Value).ownBlock ∧ some k_ ≠ (v783 : Value).ownBlock) v777 t775) ∧ Aside0 (Kd.R (Kd.int .i64) 3 wc w.heap.size (fun k_ => some k_ ≠ ((.slice Ao22 t762.length co22) : Value).ownBlock ∧ some k_ ≠ (v777 : Value).ownBlock) v783 t781) ∧ Aside0 (Below w.heap.size w wc))
             case first =>
              have H := HC37.out
              clear HC37
              by_cases c39 : t782 = true
              ·subst c39
               have H1 : (if 0 ≤ t759 then (if t759 < (t781.length : Int) then (if 0 ≤ x106_3 then (if x106_3 < (t762.length : Int) then (if (rd t781 t759) = (rd t762 x106_3) then (if x106_3 < (t775.length : Int) then (if t759 < (t775.length : Int) then (laws_FnFars.j3 k3 l1 t757 t758 t759 t762 t775 x106_3 t781 (t762.length : Int) x106_3 (((rd t762 x106_3) == 100000) != ((rd t775 x106_3) != (rd t775 t759)))) else (none)) else (none)) else (laws_FnFars.j3 k3 l1 t757 t758 t759 t762 t775 x106_3 t781 (t762.length : Int) x106_3 true)) else (none)) else (none)) else (none)) else (none)) = some r := by rw [if_pos rfl] at H; exact H
               clear H
               have H := H1
               clear H1
               by_cases c40 : 0 ≤ t759
               ·rw [if_pos c40] at H
                have c40b0 : decide (0 ≤ t759) = true := decide_eq_true c40
                clear c40
                (first | rw [c40b0] | (simp only [i64_w, i32_w]; rw [c40b0]) | skip)
                by_cases c41 : t759 < (t781.length : Int)
                ·rw [if_pos c41] at H
                 have c41b0 : decide (t759 < (t781.length : Int)) = true := decide_eq_true c41
                 clear c41
                 by_cases c42 : 0 ≤ x106_3
                 ·rw [if_pos c42] at H
                  have c42b0 : decide (0 ≤ x106_3) = true := decide_eq_true c42
                  clear c42
                  by_cases c43 : x106_3 < (t762.length : Int)
                  ·rw [if_pos c43] at H
                   have c43b0 : decide (x106_3 < (t762.length : Int)) = true := decide_eq_true c43
                   clear c43
                   by_cases c44 : (rd t781 t759) = (rd t762 x106_3)
                   ·rw [if_pos c44] at H
                    have c44b0 : ((rd t781 t759) == (rd t762 x106_3)) = true := beq_iff_eq.mpr c44
                    have c44b1 : ((rd t781 t759) != (rd t762 x106_3)) = false := bne_eq_false_iff_eq.mpr c44
                    clear c44
                    by_cases c45 : x106_3 < (t775.length : Int)
                    ·rw [if_pos c45] at H
                     have c45b0 : decide (x106_3 < (t775.length : Int)) = true := decide_eq_true c45
                     clear c45
                     by_cases c46 : t759 < (t775.length : Int)
                     ·rw [if_pos c46] at H
                      have c46b0 : decide (t759 < (t775.length : Int)) = true := decide_eq_true c46
                      clear c46
                      as_aux_lemma =>
                       have H' := Aside0.mk H
                       clear H
                       obtain ⟨Ao47, co47, eo47⟩ := Kd.R_slice HO784.out
                       subst eo47
                       have p785 : 0 ≤ (t759 : Int) := of_decide_eq_true (by first | (with_reducible assumption) | assumption)
                       have q785 : t759 < (t781.length : Int) := of_decide_eq_true (by first | (with_reducible assumption) | assumption)
                       obtain ⟨ad785, e785, hx785_0⟩ := Kd.at_int (Kd.R_reads' HO784.out).2.2 t759 p785 q785
                       cases e785
                       replace p785 := eq_true p785
                       replace q785 := eq_true q785
                       have p786 : 0 ≤ (x106_3 : Int) := of_decide_eq_true (by first | (with_reducible assumption) | assumption)
                       have q786 : x106_3 < (t762.length : Int) := of_decide_eq_true (by first | (with_reducible assumption) | assumption)
                       obtain ⟨ad786, e786, hx786_0⟩ := Kd.at_int (Kd.R_reads' HO_8.out).2.2 x106_3 p786 q786
                       cases e786
                       replace p786 := eq_true p786
                       replace q786 := eq_true q786
                       have p787 : 0 ≤ (x106_3 : Int) := of_decide_eq_true (by first | (with_reducible assumption) | assumption)
                       have q787 : x106_3 < (t762.length : Int) := of_decide_eq_true (by first | (with_reducible assumption) | assumption)
                       obtain ⟨ad787, e787, hx787_0⟩ := Kd.at_int (Kd.R_reads' HO_8.out).2.2 x106_3 p787 q787
                       obtain rfl : ad786 = ad787 := (by injection e787)
                       replace p787 := eq_true p787
                       replace q787 := eq_true q787
                       obtain ⟨Ao48, co48, eo48⟩ := Kd.R_slice HO_14.out
                       subst eo48
                       have p788 : 0 ≤ (x106_3 : Int) := of_decide_eq_true (by first | (with_reducible assumption) | assumption)
                       have q788 : x106_3 < (t775.length : Int) := of_decide_eq_true (by first | (with_reducible assumption) | assumption)
                       obtain ⟨ad788, e788, hx788_0⟩ := Kd.at_int (Kd.R_reads' HO_14.out).2.2 x106_3 p788 q788
                       cases e788
                       replace p788 := eq_true p788
                       replace q788 := eq_true q788
                       have p789 : 0 ≤ (t759 : Int) := of_decide_eq_true (by first | (with_reducible assumption) | assumption)
                       have q789 : t759 < (t775.length : Int) := of_decide_eq_true (by first | (with_reducible assumption) | assumption)
                       obtain ⟨ad789, e789, hx789_0⟩ := Kd.at_int (Kd.R_reads' HO_14.out).2.2 t759 p789 q789
                       obtain rfl : ad788 = ad789 := (by injection e789)
                       replace p789 := eq_true p789
                       replace q789 := eq_true q789
                       go_wp2
                       repeat (go_quiet (fail); try go_wp2)
                       go_meet
                       case rel => exact ⟨_, ((((rd t762 x106_3) == 100000) != ((rd t775 x106_3) != (rd t775 t759)))), (by first | rfl | (simp; done) | (simp [*]; done)), H', ⟨by have := HJ6.out; have := HJ20.out; have := HK3.out; first | omega | exact Nat.le_refl _⟩, ⟨by (with_reducible repeat (first | apply Kd.R_alloc | apply Kd.R_drewN | apply Kd.R_drew)); exact HO_6.out⟩, ⟨by (with_reducible repeat (first | apply Kd.R_alloc | apply Kd.R_drewN | apply Kd.R_drew)); exact HO_8.out⟩, ⟨by (with_reducible repeat (first | apply Kd.R_alloc | apply Kd.R_drewN | apply Kd.R_drew)); exact HO_14.out⟩, ⟨by (with_reducible repeat (first | apply Kd.R_alloc | apply Kd.R_drewN | apply Kd.R_drew)); exact Kd.R_mono HO784.out (fun _ hk => ⟨hk.1.2, hk.2⟩)⟩, ⟨by repeat (first | (with_reducible first | exact HB.out | apply below_alloc | apply pw_below_drewN | apply below_drew1) | exact HB.out)⟩⟩
                     ·rw [if_neg c46] at H
                      exact absurd H (by simp)
                    ·rw [if_neg c45] at H
                     exact absurd H (by simp)
                   ·rw [if_neg c44] at H
                    have c44b0 : ((rd t781 t759) == (rd t762 x106_3)) = false := beq_eq_false_iff_ne.mpr c44
                    have c44b1 : ((rd t781 t759) != (rd t762 x106_3)) = true := bne_iff_ne.mpr c44
                    as_aux_lemma =>
                     have H' := Aside0.mk H
                     clear H
                     obtain ⟨Ao49, co49, eo49⟩ := Kd.R_slice HO784.out
                     subst eo49
                     have p785 : 0 ≤ (t759 : Int) := of_decide_eq_true (by first | (with_reducible assumption) | assumption)
                     have q785 : t759 < (t781.length : Int) := of_decide_eq_true (by first | (with_reducible assumption) | assumption)
                     obtain ⟨ad785, e785, hx785_0⟩ := Kd.at_int (Kd.R_reads' HO784.out).2.2 t759 p785 q785
                     cases e785
                     replace p785 := eq_true p785
                     replace q785 := eq_true q785
                     have p786 : 0 ≤ (x106_3 : Int) := of_decide_eq_true (by first | (with_reducible assumption) | assumption)
                     have q786 : x106_3 < (t762.length : Int) := of_decide_eq_true (by first | (with_reducible assumption) | assumption)
                     obtain ⟨ad786, e786, hx786_0⟩ := Kd.at_int (Kd.R_reads' HO_8.out).2.2 x106_3 p786 q786
                     cases e786
                     replace p786 := eq_true p786
                     replace q786 := eq_true q786
                     go_wp2
                     repeat (go_quiet (fail); try go_wp2)
                     go_meet
                     case rel => exact ⟨_, (true), (by first | rfl | (simp; done) | (simp [*]; done)), H', ⟨by have := HJ6.out; have := HJ20.out; have := HK3.out; first | omega | exact Nat.le_refl _⟩, ⟨by (with_reducible repeat (first | apply Kd.R_alloc | apply Kd.R_drewN | apply Kd.R_drew)); exact HO_6.out⟩, ⟨by (with_reducible repeat (first | apply Kd.R_alloc | apply Kd.R_drewN | apply Kd.R_drew)); exact HO_8.out⟩, ⟨by (with_reducible repeat (first | apply Kd.R_alloc | apply Kd.R_drewN | apply Kd.R_drew)); exact HO_14.out⟩, ⟨by (with_reducible repeat (first | apply Kd.R_alloc | apply Kd.R_drewN | apply Kd.R_drew)); exact Kd.R_mono HO784.out (fun _ hk => ⟨hk.1.2, hk.2⟩)⟩, ⟨by repeat (first | (with_reducible first | exact HB.out | apply below_alloc | apply pw_below_drewN | apply below_drew1) | exact HB.out)⟩⟩
                  ·rw [if_neg c43] at H
                   exact absurd H (by simp)
                 ·rw [if_neg c42] at H
                  exact absurd H (by simp)
                ·rw [if_neg c41] at H
                 exact absurd H (by simp)
               ·rw [if_neg c40] at H
                exact absurd H (by simp)
              ·replace c39 := Bool.eq_false_iff.mpr c39
               subst c39
               have H1 : (laws_FnFars.j3 k3 l1 t757 t758 t759 t762 t775 x106_3 t781 (t762.length : Int) x106_3 true) = some r := by rw [if_neg (show ¬ (false = true) by decide)] at H; exact H
               clear H
               have H := H1
               clear H1
               as_aux_lemma =>
                have H' := Aside0.mk H
                clear H
                go_wp2
                repeat (go_quiet (fail); try go_wp2)
                go_meet
                case rel => exact ⟨_, (true), (by first | rfl | (simp; done) | (simp [*]; done)), H', ⟨by have := HJ6.out; have := HJ20.out; have := HK3.out; first | omega | exact Nat.le_refl _⟩, ⟨by (with_reducible repeat (first | apply Kd.R_alloc | apply Kd.R_drewN | apply Kd.R_drew)); exact HO_6.out⟩, ⟨by (with_reducible repeat (first | apply Kd.R_alloc | apply Kd.R_drewN | apply Kd.R_drew)); exact HO_8.out⟩, ⟨by (with_reducible repeat (first | apply Kd.R_alloc | apply Kd.R_drewN | apply Kd.R_drew)); exact HO_14.out⟩, ⟨by (with_reducible repeat (first | apply Kd.R_alloc | apply Kd.R_drewN | apply Kd.R_drew)); exact Kd.R_mono HO784.out (fun _ hk => ⟨hk.1.2, hk.2⟩)⟩, ⟨by repeat (first | (with_reducible first | exact HB.out | apply below_alloc | apply pw_below_drewN | apply below_drew1) | exact HB.out)⟩⟩
             case rest =>
              clear HC37
              try clear c1
              try clear c2
              try clear p2
              try clear c3
              try clear c3b0
              try clear c4
              try clear p6
              try clear p7
              try clear q7
              try clear hx7
              try clear c10
              try clear c12
              try clear c12b0
              try clear c12b1
              try clear c12b2
              try clear c16
              try clear c18
              try clear c25
              try clear c27
              try clear c28
              try clear c28b0
              try clear c29
              try clear c29b0
              try clear c30
              try clear c30b0
              try clear c30b1
              try clear c34
              try clear c35
              try clear c35b0
              try clear c39
              try clear c40
              try clear c40b0
              try clear c41
              try clear c41b0
              try clear c42
              try clear c42b0
              try clear c43
              try clear c43b0
              try clear c44
              try clear c44b0
              try clear c44b1
              try clear c45
              try clear c45b0
              try clear c46
              try clear c46b0
              try clear hx780_0
              try clear hx785_0
              try clear hx786_0
              try clear hx787_0
              try clear hx788_0
              try clear hx789_0
              try clear p2
              try clear p6
              try clear p7
              try clear p780
              try clear p785
              try clear p786
              try clear p787
              try clear p788
              try clear p789
              try clear q7
              try clear q780
              try clear q785
              try clear q786
              try clear q787
              try clear q788
              try clear q789
              obtain ⟨kq, x145_36, rfl, HA, HJ36, HO_6, HO_8, HO_14, HO_17, HB⟩ := hcut
              cases kq with
              | zero => exact absurd HA.out (by simp [laws_FnFars.j3])
              | succ kj36 =>
               have H := HA.out
               clear HA
               simp only [laws_FnFars.j3] at H
               by_cases c50 : x145_36 = true
               ·subst c50
                have H1 : (some false) = some r := by rw [if_pos rfl] at H; exact H
                clear H
                have H := H1
                clear H1
                as_aux_lemma =>
                 obtain rfl := Option.some.inj H
                 go_wp2
                 repeat (go_quiet (fail); try go_wp2)
                 go_ret
                 exact ⟨by first | rfl | (simp [errW_none, errW_some] <;> rfl) | (simp [*, errW_none, errW_some] <;> rfl), by repeat (first | (with_reducible first | exact HB.out | apply below_alloc | apply pw_below_drewN | apply below_drew1) | exact HB.out)⟩
               ·replace c50 := Bool.eq_false_iff.mpr c50
                subst c50
                have H1 : (laws_FnFars.l1 kj36 l1 t757 t758 t759 t762 t775 x106_3 t781 (t762.length : Int) x106_3 (t762.length : Int) 0) = some r := by rw [if_neg (show ¬ (false = true) by decide)] at H; exact H
                clear H
                have H := H1
                clear H1
                have H' := Aside0.mk H
                clear H
                go_wp2
                repeat (go_quiet (fail); try go_wp2)
                go_loopg [148] kj36 (fun kq v148 w' => ∃ (x148_5 : Int), v148 = .int .i64 x148_5 ∧ Aside0 (laws_FnFars.l1 kq l1 t757 t758 t759 t762 t775 x106_3 t781 (t762.length : Int) x106_3 (t762.length : Int) x148_5 = some r) ∧ Aside0 (kq ≤ kj36) ∧ Aside0 (Kd.R k67 67 w' w.heap.size (fun _ => True) (.slice Ao9 t758.length co9) t758) ∧ Aside0 (Kd.R (Kd.int .i64) 3 w' w.heap.size (fun k_ => some k_ ≠ (v777 : Value).ownBlock ∧ some k_ ≠ (v783 : Value).ownBlock) (.slice Ao22 t762.length co22) t762) ∧ Aside0 (Kd.R (Kd.int .i64) 3 w' w.heap.size (fun k_ => some k_ ≠ ((.slice Ao22 t762.length co22) : Value).ownBlock ∧ some k_ ≠ (v783 : Value).ownBlock) v777 t775) ∧ Aside0 (Kd.R (Kd.int .i64) 3 w' w.heap.size (fun k_ => some k_ ≠ ((.slice Ao22 t762.length co22) : Value).ownBlock ∧ some k_ ≠ (v777 : Value).ownBlock) v783 t781) ∧ Aside0 (Below w.heap.size w w'))
                case atStart => exact ⟨(0), (by first | rfl | (simp; done) | (simp [*]; done)), H', ⟨Nat.le_refl _⟩, ⟨by (with_reducible repeat (first | apply Kd.R_alloc | apply Kd.R_drewN | apply Kd.R_drew)); exact HO_6.out⟩, ⟨by (with_reducible repeat (first | apply Kd.R_alloc | apply Kd.R_drewN | apply Kd.R_drew)); exact HO_8.out⟩, ⟨by (with_reducible repeat (first | apply Kd.R_alloc | apply Kd.R_drewN | apply Kd.R_drew)); exact HO_14.out⟩, ⟨by (with_reducible repeat (first | apply Kd.R_alloc | apply Kd.R_drewN | apply Kd.R_drew)); exact HO_17.out⟩, ⟨by repeat (first | (with_reducible first | exact HB.out | apply below_alloc | apply pw_below_drewN | apply below_drew1) | exact HB.out)⟩⟩
                case round =>
                 clear H'
                 try clear c1
                 try clear c2
                 try clear p2
                 try clear c3
                 try clear c3b0
                 try clear c4
                 try clear c5
                 try clear p6
                 try clear p7
                 try clear q7
                 try clear hx7
                 try clear c10
                 try clear c12
                 try clear c12b0
                 try clear c12b1
                 try clear c12b2
                 try clear c16
                 try clear c18
                 try clear c25
                 try clear c27
                 try clear c28
                 try clear c28b0
                 try clear c29
                 try clear c29b0
                 try clear c30
                 try clear c30b0
                 try clear c30b1
                 try clear c34
                 try clear c35
                 try clear c35b0
                 try clear c39
                 try clear c40
                 try clear c40b0
                 try clear c41
                 try clear c41b0
                 try clear c42
                 try clear c42b0
                 try clear c43
                 try clear c43b0
                 try clear c44
                 try clear c44b0
                 try clear c44b1
                 try clear c45
                 try clear c45b0
                 try clear c46
                 try clear c46b0
                 try clear c50
                 try clear hx780_0
                 try clear hx785_0
                 try clear hx786_0
                 try clear hx787_0
                 try clear hx788_0
                 try clear hx789_0
                 try clear p2
                 try clear p6
                 try clear p7
                 try clear p780
                 try clear p785
                 try clear p786
                 try clear p787
                 try clear p788
                 try clear p789
                 try clear q7
                 try clear q780
                 try clear q785
                 try clear q786
                 try clear q787
                 try clear q788
                 try clear q789
                 obtain ⟨x148_5, rfl, HA, HK5, HO_6, HO_8, HO_14, HO_17, HB⟩ := hrel
                 cases gk with
                 | zero => exact absurd HA.out (by simp [laws_FnFars.l1])
                 | succ k5 =>
                  have H := HA.out
                  clear HA
                  simp only [laws_FnFars.l1] at H
                  by_cases c51 : x148_5 < (t762.length : Int)
                  ·rw [if_pos c51] at H
                   have c51b0 : decide (x148_5 < (t762.length : Int)) = true := decide_eq_true c51
                   clear c51
                   by_cases c52 : 0 ≤ x106_3
                   ·rw [if_pos c52] at H
                    have c52b0 : decide (0 ≤ x106_3) = true := decide_eq_true c52
                    clear c52
                    by_cases c53 : x106_3 < (t762.length : Int)
                    ·rw [if_pos c53] at H
                     have c53b0 : decide (x106_3 < (t762.length : Int)) = true := decide_eq_true c53
                     clear c53
                     by_cases c54 : 0 ≤ x148_5
                     ·rw [if_pos c54] at H
                      have c54b0 : decide (0 ≤ x148_5) = true := decide_eq_true c54
                      clear c54
                      by_cases c55 : x148_5 < (t781.length : Int)
                      ·rw [if_pos c55] at H
                       have c55b0 : decide (x148_5 < (t781.length : Int)) = true := decide_eq_true c55
                       clear c55
                       by_cases c56 : x148_5 < (t762.length : Int)
                       ·rw [if_pos c56] at H
                        have c56b0 : decide (x148_5 < (t762.length : Int)) = true := decide_eq_true c56
                        clear c56
                        by_cases c57 : (wrap64 ((rd t762 x106_3) + (rd t781 x148_5))) < (rd t762 x148_5)
                        ·rw [if_pos c57] at H
                         have c57b0 : decide ((wrap64 ((rd t762 x106_3) + (rd t781 x148_5))) < (rd t762 x148_5)) = true := decide_eq_true c57
                         clear c57
                         as_aux_lemma =>
                          obtain rfl := Option.some.inj H
                          have p790 : 0 ≤ (x106_3 : Int) := of_decide_eq_true (by first | (with_reducible assumption) | assumption)
                          have q790 : x106_3 < (t762.length : Int) := of_decide_eq_true (by first | (with_reducible assumption) | assumption)
                          obtain ⟨ad790, e790, hx790_0⟩ := Kd.at_int (Kd.R_reads' HO_8.out).2.2 x106_3 p790 q790
                          cases e790
                          replace p790 := eq_true p790
                          replace q790 := eq_true q790
                          obtain ⟨Ao58, co58, eo58⟩ := Kd.R_slice HO_17.out
                          subst eo58
                          have p791 : 0 ≤ (x148_5 : Int) := of_decide_eq_true (by first | (with_reducible assumption) | assumption)
                          have q791 : x148_5 < (t781.length : Int) := of_decide_eq_true (by first | (with_reducible assumption) | assumption)
                          obtain ⟨ad791, e791, hx791_0⟩ := Kd.at_int (Kd.R_reads' HO_17.out).2.2 x148_5 p791 q791
                          cases e791
                          replace p791 := eq_true p791
                          replace q791 := eq_true q791
                          have p792 : 0 ≤ (x148_5 : Int) := of_decide_eq_true (by first | (with_reducible assumption) | assumption)
                          have q792 : x148_5 < (t762.length : Int) := of_decide_eq_true (by first | (with_reducible assumption) | assumption)
                          obtain ⟨ad792, e792, hx792_0⟩ := Kd.at_int (Kd.R_reads' HO_8.out).2.2 x148_5 p792 q792
                          obtain rfl : ad790 = ad792 := (by injection e792)
                          replace p792 := eq_true p792
                          replace q792 := eq_true q792
                          go_wp2
                          repeat (go_quiet (fail); try go_wp2)
                          go_ret
                          exact ⟨by first | rfl | (simp [errW_none, errW_some] <;> rfl) | (simp [*, errW_none, errW_some] <;> rfl), by repeat (first | (with_reducible first | exact HB.out | apply below_alloc | apply pw_below_drewN | apply below_drew1) | exact HB.out)⟩
                        ·rw [if_neg c57] at H
                         have c57b0 : decide ((wrap64 ((rd t762 x106_3) + (rd t781 x148_5))) < (rd t762 x148_5)) = false := decide_eq_false c57
                         clear c57
                         as_aux_lemma =>
                          have H' := Aside0.mk H
                          clear H
                          have p790 : 0 ≤ (x106_3 : Int) := of_decide_eq_true (by first | (with_reducible assumption) | assumption)
                          have q790 : x106_3 < (t762.length : Int) := of_decide_eq_true (by first | (with_reducible assumption) | assumption)
                          obtain ⟨ad790, e790, hx790_0⟩ := Kd.at_int (Kd.R_reads' HO_8.out).2.2 x106_3 p790 q790
                          cases e790
                          replace p790 := eq_true p790
                          replace q790 := eq_true q790
                          obtain ⟨Ao59, co59, eo59⟩ := Kd.R_slice HO_17.out
                          subst eo59
                          have p791 : 0 ≤ (x148_5 : Int) := of_decide_eq_true (by first | (with_reducible assumption) | assumption)
                          have q791 : x148_5 < (t781.length : Int) := of_decide_eq_true (by first | (with_reducible assumption) | assumption)
                          obtain ⟨ad791, e791, hx791_0⟩ := Kd.at_int (Kd.R_reads' HO_17.out).2.2 x148_5 p791 q791
                          cases e791
                          replace p791 := eq_true p791
                          replace q791 := eq_true q791
                          have p792 : 0 ≤ (x148_5 : Int) := of_decide_eq_true (by first | (with_reducible assumption) | assumption)
                          have q792 : x148_5 < (t762.length : Int) := of_decide_eq_true (by first | (with_reducible assumption) | assumption)
                          obtain ⟨ad792, e792, hx792_0⟩ := Kd.at_int (Kd.R_reads' HO_8.out).2.2 x148_5 p792 q792
                          obtain rfl : ad790 = ad792 := (by injection e792)
                          replace p792 := eq_true p792
                          replace q792 := eq_true q792
                          go_wp2
                          repeat (go_quiet (fail); try go_wp2)
                          go_roundg k5
                          case measure => have := HJ6.out; have := HJ20.out; have := HK3.out; have := HJ36.out; have := HK5.out; omega
                          case rel => exact ⟨(wrap64 (x148_5 + 1)), (by first | rfl | (simp; done) | (simp [*]; done)), H', ⟨by have := HJ6.out; have := HJ20.out; have := HK3.out; have := HJ36.out; have := HK5.out; omega⟩, ⟨by (with_reducible repeat (first | apply Kd.R_alloc | apply Kd.R_drewN | apply Kd.R_drew)); exact HO_6.out⟩, ⟨by (with_reducible repeat (first | apply Kd.R_alloc | apply Kd.R_drewN | apply Kd.R_drew)); exact HO_8.out⟩, ⟨by (with_reducible repeat (first | apply Kd.R_alloc | apply Kd.R_drewN | apply Kd.R_drew)); exact HO_14.out⟩, ⟨by (with_reducible repeat (first | apply Kd.R_alloc | apply Kd.R_drewN | apply Kd.R_drew)); exact HO_17.out⟩, ⟨by repeat (first | (with_reducible first | exact HB.out | apply below_alloc | apply pw_below_drewN | apply below_drew1) | exact HB.out)⟩⟩
                       ·rw [if_neg c56] at H
                        exact absurd H (by simp)
                      ·rw [if_neg c55] at H
                       exact absurd H (by simp)
                     ·rw [if_neg c54] at H
                      exact absurd H (by simp)
                    ·rw [if_neg c53] at H
                     exact absurd H (by simp)
                   ·rw [if_neg c52] at H
                    exact absurd H (by simp)
                  ·rw [if_neg c51] at H
                   have c51b0 : decide (x148_5 < (t762.length : Int)) = false := decide_eq_false c51
                   clear c51
                   as_aux_lemma =>
                    have H' := Aside0.mk H
                    clear H
                    go_wp2
                    repeat (go_quiet (fail); try go_wp2)
                    go_roundg k5
                    case measure => have := HJ6.out; have := HJ20.out; have := HK3.out; have := HJ36.out; have := HK5.out; omega
                    case rel => exact ⟨(wrap64 (x106_3 + 1)), (by first | rfl | (simp; done) | (simp [*]; done)), H', ⟨by have := HJ6.out; have := HJ20.out; have := HK3.out; have := HJ36.out; have := HK5.out; omega⟩, ⟨by (with_reducible repeat (first | apply Kd.R_alloc | apply Kd.R_drewN | apply Kd.R_drew)); exact HO_6.out⟩, ⟨by (with_reducible repeat (first | apply Kd.R_alloc | apply Kd.R_drewN | apply Kd.R_drew)); exact Kd.R_mono HO_8.out (fun _ hk => hk.1)⟩, ⟨by (with_reducible repeat (first | apply Kd.R_alloc | apply Kd.R_drewN | apply Kd.R_drew)); exact Kd.R_mono HO_14.out (fun _ hk => hk.1)⟩, ⟨by repeat (first | (with_reducible first | exact HB.out | apply below_alloc | apply pw_below_drewN | apply below_drew1) | exact HB.out)⟩⟩
            ·rw [if_neg c35] at H
             have c35b0 : decide (x106_3 < (t762.length : Int)) = false := decide_eq_false c35
             clear c35
             as_aux_lemma =>
              have H' := Aside0.mk H
              clear H
              go_wp2
              repeat (go_quiet (fail); try go_wp2)
              go_meet
              case rel => exact ⟨_, H', ⟨by have := HJ6.out; have := HJ20.out; have := HK3.out; first | omega | exact Nat.le_refl _⟩, ⟨by repeat (first | (with_reducible first | exact HB.out | apply below_alloc | apply pw_below_drewN | apply below_drew1) | exact HB.out)⟩⟩
      ·replace c18 := Bool.eq_false_iff.mpr c18
       subst c18
       have H1 : (laws_FnFars.j5 kj6 l1) = some r := by rw [if_neg (show ¬ (false = true) by decide)] at H; exact H
       clear H
       have H := H1
       clear H1
       as_aux_lemma =>
        have H' := Aside0.mk H
        clear H
        go_wp2
        repeat (go_quiet (fail); try go_wp2)
        go_meet
        case rel => exact ⟨_, H', ⟨by have := HJ6.out; first | omega | exact Nat.le_refl _⟩, ⟨by repeat (first | (with_reducible first | exact HB.out | apply below_alloc | apply pw_below_drewN | apply below_drew1) | exact HB.out)⟩⟩
     case rest =>
      clear HC17
      try clear c1
      try clear c2
      try clear p2
      try clear c3
      try clear c3b0
      try clear c4
      try clear c5
      try clear p6
      try clear p7
      try clear q7
      try clear hx7
      try clear c10
      try clear c12
      try clear c12b0
      try clear c12b1
      try clear c12b2
      try clear c16
      try clear c18
      try clear c25
      try clear c27
      try clear c28
      try clear c28b0
      try clear c29
      try clear c29b0
      try clear c30
      try clear c30b0
      try clear c30b1
      try clear c34
      try clear c35
      try clear c35b0
      try clear c39
      try clear c40
      try clear c40b0
      try clear c41
      try clear c41b0
      try clear c42
      try clear c42b0
      try clear c43
      try clear c43b0
      try clear c44
      try clear c44b0
      try clear c44b1
      try clear c45
      try clear c45b0
      try clear c46
      try clear c46b0
      try clear c50
      try clear c51
      try clear c51b0
      try clear c52
      try clear c52b0
      try clear c53
      try clear c53b0
      try clear c54
      try clear c54b0
      try clear c55
      try clear c55b0
      try clear c56
      try clear c56b0
      try clear c57
      try clear c57b0
      try clear hx780_0
      try clear hx785_0
      try clear hx786_0
      try clear hx787_0
      try clear hx788_0
      try clear hx789_0
      try clear hx790_0
      try clear hx791_0
      try clear hx792_0
      try clear p2
      try clear p6
      try clear p7
      try clear p780
      try clear p785
      try clear p786
      try clear p787
      try clear p788
      try clear p789
      try clear p790
      try clear p791
      try clear p792
      try clear q7
      try clear q780
      try clear q785
      try clear q786
      try clear q787
      try clear q788
      try clear q789
      try clear q790
      try clear q791
      try clear q792
      obtain ⟨kq, HA, HJ16, HB⟩ := hcut
      cases kq with
      | zero => exact absurd HA.out (by simp [laws_FnFars.j5])
      | succ kj16 =>
       have H := HA.out
       clear HA
       simp only [laws_FnFars.j5] at H
       replace H := Option.bind_eq_some_iff.mp H
       obtain ⟨⟨t793, t794, t795⟩, A600, H⟩ := H
       replace H : ((impl_RelaxAll.f kj16 t793 t794 t795).bind fun bt800 => ((spec_RelaxAll.f kj16 t793 t794 t795).bind fun bt804 => ((spec_DrawCentreOf.f kj16 l1).bind fun bt808 => ((impl_CentreOf.f kj16 bt808.1 bt808.2).bind fun bt812 => ((spec_CentreOf.f kj16 bt808.1 bt808.2).bind fun bt815 => (if (bt800.2 != bt804.2) = true then (laws_FnFars.j6 kj16 t795 bt800.1 true) else ((laws_sameInts.f kj16 bt800.1 bt804.1).bind fun t818 => (if t818 = true then (if (bt812.2.2 != bt815.2.2) = true then (laws_FnFars.j6 kj16 t795 bt800.1 true) else (if bt812.1 = bt815.1 then (laws_FnFars.j6 kj16 t795 bt800.1 (bt812.2.1 != bt815.2.1)) else (laws_FnFars.j6 kj16 t795 bt800.1 true))) else (laws_FnFars.j6 kj16 t795 bt800.1 true))))))))) = some r := H
       have A60 := Aside0.mk A600
       clear A600
       replace H := Option.bind_eq_some_iff.mp H
       obtain ⟨⟨t800, t801⟩, A610, H⟩ := H
       replace H : ((spec_RelaxAll.f kj16 t793 t794 t795).bind fun bt804 => ((spec_DrawCentreOf.f kj16 l1).bind fun bt808 => ((impl_CentreOf.f kj16 bt808.1 bt808.2).bind fun bt812 => ((spec_CentreOf.f kj16 bt808.1 bt808.2).bind fun bt815 => (if (t801 != bt804.2) = true then (laws_FnFars.j6 kj16 t795 t800 true) else ((laws_sameInts.f kj16 t800 bt804.1).bind fun t818 => (if t818 = true then (if (bt812.2.2 != bt815.2.2) = true then (laws_FnFars.j6 kj16 t795 t800 true) else (if bt812.1 = bt815.1 then (laws_FnFars.j6 kj16 t795 t800 (bt812.2.1 != bt815.2.1)) else (laws_FnFars.j6 kj16 t795 t800 true))) else (laws_FnFars.j6 kj16 t795 t800 true)))))))) = some r := H
       have A61 := Aside0.mk A610
       clear A610
       replace H := Option.bind_eq_some_iff.mp H
       obtain ⟨⟨t804, t805⟩, A620, H⟩ := H
       replace H : ((spec_DrawCentreOf.f kj16 l1).bind fun bt808 => ((impl_CentreOf.f kj16 bt808.1 bt808.2).bind fun bt812 => ((spec_CentreOf.f kj16 bt808.1 bt808.2).bind fun bt815 => (if (t801 != t805) = true then (laws_FnFars.j6 kj16 t795 t800 true) else ((laws_sameInts.f kj16 t800 t804).bind fun t818 => (if t818 = true then (if (bt812.2.2 != bt815.2.2) = true then (laws_FnFars.j6 kj16 t795 t800 true) else (if bt812.1 = bt815.1 then (laws_FnFars.j6 kj16 t795 t800 (bt812.2.1 != bt815.2.1)) else (laws_FnFars.j6 kj16 t795 t800 true))) else (laws_FnFars.j6 kj16 t795 t800 true))))))) = some r := H
       have A62 := Aside0.mk A620
       clear A620
       replace H := Option.bind_eq_some_iff.mp H
       obtain ⟨⟨t808, t809⟩, A630, H⟩ := H
       replace H : ((impl_CentreOf.f kj16 t808 t809).bind fun bt812 => ((spec_CentreOf.f kj16 t808 t809).bind fun bt815 => (if (t801 != t805) = true then (laws_FnFars.j6 kj16 t795 t800 true) else ((laws_sameInts.f kj16 t800 t804).bind fun t818 => (if t818 = true then (if (bt812.2.2 != bt815.2.2) = true then (laws_FnFars.j6 kj16 t795 t800 true) else (if bt812.1 = bt815.1 then (laws_FnFars.j6 kj16 t795 t800 (bt812.2.1 != bt815.2.1)) else (laws_FnFars.j6 kj16 t795 t800 true))) else (laws_FnFars.j6 kj16 t795 t800 true)))))) = some r := H
       have A63 := Aside0.mk A630
       clear A630
       replace H := Option.bind_eq_some_iff.mp H
       obtain ⟨⟨t812, t813, t814⟩, A640, H⟩ := H
       replace H : ((spec_CentreOf.f kj16 t808 t809).bind fun bt815 => (if (t801 != t805) = true then (laws_FnFars.j6 kj16 t795 t800 true) else ((laws_sameInts.f kj16 t800 t804).bind fun t818 => (if t818 = true then (if (t814 != bt815.2.2) = true then (laws_FnFars.j6 kj16 t795 t800 true) else (if t812 = bt815.1 then (laws_FnFars.j6 kj16 t795 t800 (t813 != bt815.2.1)) else (laws_FnFars.j6 kj16 t795 t800 true))) else (laws_FnFars.j6 kj16 t795 t800 true))))) = some r := H
       have A64 := Aside0.mk A640
       clear A640
       replace H := Option.bind_eq_some_iff.mp H
       obtain ⟨⟨t815, t816, t817⟩, A650, H⟩ := H
       replace H : (if (t801 != t805) = true then (laws_FnFars.j6 kj16 t795 t800 true) else ((laws_sameInts.f kj16 t800 t804).bind fun t818 => (if t818 = true then (if (t814 != t817) = true then (laws_FnFars.j6 kj16 t795 t800 true) else (if t812 = t815 then (laws_FnFars.j6 kj16 t795 t800 (t813 != t816)) else (laws_FnFars.j6 kj16 t795 t800 true))) else (laws_FnFars.j6 kj16 t795 t800 true)))) = some r := H
       have A65 := Aside0.mk A650
       clear A650
       have HC66 := Aside0.mk H
       clear H
       go_upto_region 32 with (first | (go_at_call 37; (with_reducible refine (spec_DrawRelaxAll.calls kj16 _ _ l1 t793 t794 t795 _ ?side1 ?side2 A60.out).mono ?_); (case side1 => repeat (first | exact (Kd.C_below HR1.out HB.out) | (with_reducible refine Kd.C_alloc ?_ _) | (with_reducible refine Kd.C_drewN ?_ _) | (with_reducible refine Kd.C_drew ?_))); (case side2 => exact HC1.out); rintro e w67 ⟨v796, v798, rfl, ho0, ho1, hb⟩; have n0_ := Aside0.mk (Kd.R_lower ho0 (below_size (by repeat (first | (with_reducible first | exact HB.out | apply below_alloc | apply pw_below_drewN | apply below_drew1) | exact HB.out)))); have n1_ := Aside0.mk (Kd.R_lower ho1 (below_size (by repeat (first | (with_reducible first | exact HB.out | apply below_alloc | apply pw_below_drewN | apply below_drew1) | exact HB.out)))); have n2_ := Aside0.mk (below_step (by repeat (first | (with_reducible first | exact HB.out | apply below_alloc | apply pw_below_drewN | apply below_drew1) | exact HB.out)) hb); clear HB; have HO797 := n0_; have HO799 := n1_; have HB := n2_; clear n0_ n1_ n2_; (try clear hb); (try clear hb2); (try clear hk); (try clear hi); (try clear ho0); (try clear ho1); obtain ⟨Ao68, co68, eo68⟩ := Kd.R_slice HO797.out; subst eo68; obtain ⟨Ao69, co69, eo69⟩ := Kd.R_slice HO799.out; subst eo69) | (go_at_call 22; (with_reducible refine (impl_RelaxAll.calls kj16 t793 _ _ t794 _ _ t795 t800 t801 _ ?side1 ?side2 ?side3 ?side4 A61.out).mono ?_); (case side1 => repeat (first | exact (Kd.R_reads' HO797.out).2.2 | (with_reducible refine Kd.C_alloc ?_ _) | (with_reducible refine Kd.C_drewN ?_ _) | (with_reducible refine Kd.C_drew ?_))); (case side2 => exact (Kd.R_reads' HO797.out).2.1); (case side3 => repeat (first | exact (Kd.R_reads' HO799.out).2.2 | (with_reducible refine Kd.C_alloc ?_ _) | (with_reducible refine Kd.C_drewN ?_ _) | (with_reducible refine Kd.C_drew ?_))); (case side4 => exact (Kd.R_reads' HO799.out).2.1); rintro e w70 ⟨v802, rfl, ho0, hb⟩; have n0_ := Aside0.mk (Kd.R_below (by (with_reducible repeat (first | apply Kd.R_alloc | apply Kd.R_drewN | apply Kd.R_drew)); exact HO797.out) hb); have n1_ := Aside0.mk (Kd.R_elder' (by (with_reducible repeat (first | apply Kd.R_alloc | apply Kd.R_drewN | apply Kd.R_drew)); exact HO799.out) (Kd.R_base ho0) hb); have n2_ := Aside0.mk (Kd.R_lower (Kd.R_new' ho0 (Kd.R_lt (by (with_reducible repeat (first | apply Kd.R_alloc | apply Kd.R_drewN | apply Kd.R_drew)); exact HO799.out))) (below_size (by repeat (first | (with_reducible first | exact HB.out | apply below_alloc | apply pw_below_drewN | apply below_drew1) | exact HB.out)))); have n3_ := Aside0.mk (below_step (by repeat (first | (with_reducible first | exact HB.out | apply below_alloc | apply pw_below_drewN | apply below_drew1) | exact HB.out)) hb); clear HO797; clear HO799; clear HB; have HO797 := n0_; have HO799 := n1_; have HO803 := n2_; have HB := n3_; clear n0_ n1_ n2_ n3_; (try clear hb); (try clear hb2); (try clear hk); (try clear hi); (try clear ho0)) | (go_at_call 21; (with_reducible refine (spec_RelaxAll.calls kj16 t793 _ _ t794 _ _ t795 t804 t805 _ ?side1 ?side2 ?side3 ?side4 A62.out).mono ?_); (case side1 => repeat (first | exact (Kd.R_reads' HO797.out).2.2 | (with_reducible refine Kd.C_alloc ?_ _) | (with_reducible refine Kd.C_drewN ?_ _) | (with_reducible refine Kd.C_drew ?_))); (case side2 => exact (Kd.R_reads' HO797.out).2.1); (case side3 => repeat (first | exact (Kd.R_reads' HO799.out).2.2 | (with_reducible refine Kd.C_alloc ?_ _) | (with_reducible refine Kd.C_drewN ?_ _) | (with_reducible refine Kd.C_drew ?_))); (case side4 => exact (Kd.R_reads' HO799.out).2.1); rintro e w71 ⟨v806, rfl, ho0, hb⟩; have n0_ := Aside0.mk (Kd.R_below (by (with_reducible repeat (first | apply Kd.R_alloc | apply Kd.R_drewN | apply Kd.R_drew)); exact HO797.out) hb); have n1_ := Aside0.mk (Kd.R_elder' (by (with_reducible repeat (first | apply Kd.R_alloc | apply Kd.R_drewN | apply Kd.R_drew)); exact HO799.out) (Kd.R_base ho0) hb); have n2_ := Aside0.mk (Kd.R_elder' (by (with_reducible repeat (first | apply Kd.R_alloc | apply Kd.R_drewN | apply Kd.R_drew)); exact HO803.out) (Kd.R_base ho0) hb); have n3_ := Aside0.mk (Kd.R_lower (Kd.R_new' (Kd.R_new' ho0 (Kd.R_lt (by (with_reducible repeat (first | apply Kd.R_alloc | apply Kd.R_drewN | apply Kd.R_drew)); exact HO799.out))) (Kd.R_lt (by (with_reducible repeat (first | apply Kd.R_alloc | apply Kd.R_drewN | apply Kd.R_drew)); exact HO803.out))) (below_size (by repeat (first | (with_reducible first | exact HB.out | apply below_alloc | apply pw_below_drewN | apply below_drew1) | exact HB.out)))); have n4_ := Aside0.mk (below_step (by repeat (first | (with_reducible first | exact HB.out | apply below_alloc | apply pw_below_drewN | apply below_drew1) | exact HB.out)) hb); clear HO797; clear HO799; clear HO803; clear HB; have HO797 := n0_; have HO799 := n1_; have HO803 := n2_; have HO807 := n3_; have HB := n4_; clear n0_ n1_ n2_ n3_ n4_; (try clear hb); (try clear hb2); (try clear hk); (try clear hi); (try clear ho0)) | (go_at_call 38; (with_reducible refine (spec_DrawCentreOf.calls kj16 _ _ l1 t808 t809 _ ?side1 ?side2 A63.out).mono ?_); (case side1 => repeat (first | exact (Kd.C_below HR1.out HB.out) | (with_reducible refine Kd.C_alloc ?_ _) | (with_reducible refine Kd.C_drewN ?_ _) | (with_reducible refine Kd.C_drew ?_))); (case side2 => exact HC1.out); rintro e w72 ⟨v810, rfl, ho0, hb⟩; have n0_ := Aside0.mk (Kd.R_elder' (by (with_reducible repeat (first | apply Kd.R_alloc | apply Kd.R_drewN | apply Kd.R_drew)); exact HO797.out) (Kd.R_base ho0) hb); have n1_ := Aside0.mk (Kd.R_below (by (with_reducible repeat (first | apply Kd.R_alloc | apply Kd.R_drewN | apply Kd.R_drew)); exact HO799.out) hb); have n2_ := Aside0.mk (Kd.R_below (by (with_reducible repeat (first | apply Kd.R_alloc | apply Kd.R_drewN | apply Kd.R_drew)); exact HO803.out) hb); have n3_ := Aside0.mk (Kd.R_below (by (with_reducible repeat (first | apply Kd.R_alloc | apply Kd.R_drewN | apply Kd.R_drew)); exact HO807.out) hb); have n4_ := Aside0.mk (Kd.R_lower (Kd.R_new' ho0 (Kd.R_lt (by (with_reducible repeat (first | apply Kd.R_alloc | apply Kd.R_drewN | apply Kd.R_drew)); exact HO797.out))) (below_size (by repeat (first | (with_reducible first | exact HB.out | apply below_alloc | apply pw_below_drewN | apply below_drew1) | exact HB.out)))); have n5_ := Aside0.mk (below_step (by repeat (first | (with_reducible first | exact HB.out | apply below_alloc | apply pw_below_drewN | apply below_drew1) | exact HB.out)) hb); clear HO797; clear HO799; clear HO803; clear HO807; clear HB; have HO797 := n0_; have HO799 := n1_; have HO803 := n2_; have HO807 := n3_; have HO811 := n4_; have HB := n5_; clear n0_ n1_ n2_ n3_ n4_ n5_; (try clear hb); (try clear hb2); (try clear hk); (try clear hi); (try clear ho0); obtain ⟨Ao73, co73, eo73⟩ := Kd.R_slice HO811.out; subst eo73) | (go_at_call 20; (with_reducible refine (impl_CentreOf.calls kj16 t808 _ _ t809 t812 t813 t814 _ ?side1 ?side2 A64.out).mono ?_); (case side1 => repeat (first | exact (Kd.R_reads' HO811.out).2.2 | (with_reducible refine Kd.C_alloc ?_ _) | (with_reducible refine Kd.C_drewN ?_ _) | (with_reducible refine Kd.C_drew ?_))); (case side2 => exact (Kd.R_reads' HO811.out).2.1); rintro e w74 ⟨rfl, hb⟩; have n0_ := Aside0.mk (Kd.R_below (by (with_reducible repeat (first | apply Kd.R_alloc | apply Kd.R_drewN | apply Kd.R_drew)); exact HO797.out) hb); have n1_ := Aside0.mk (Kd.R_below (by (with_reducible repeat (first | apply Kd.R_alloc | apply Kd.R_drewN | apply Kd.R_drew)); exact HO799.out) hb); have n2_ := Aside0.mk (Kd.R_below (by (with_reducible repeat (first | apply Kd.R_alloc | apply Kd.R_drewN | apply Kd.R_drew)); exact HO803.out) hb); have n3_ := Aside0.mk (Kd.R_below (by (with_reducible repeat (first | apply Kd.R_alloc | apply Kd.R_drewN | apply Kd.R_drew)); exact HO807.out) hb); have n4_ := Aside0.mk (Kd.R_below (by (with_reducible repeat (first | apply Kd.R_alloc | apply Kd.R_drewN | apply Kd.R_drew)); exact HO811.out) hb); have n5_ := Aside0.mk (below_step (by repeat (first | (with_reducible first | exact HB.out | apply below_alloc | apply pw_below_drewN | apply below_drew1) | exact HB.out)) hb); clear HO797; clear HO799; clear HO803; clear HO807; clear HO811; clear HB; have HO797 := n0_; have HO799 := n1_; have HO803 := n2_; have HO807 := n3_; have HO811 := n4_; have HB := n5_; clear n0_ n1_ n2_ n3_ n4_ n5_; (try clear hb); (try clear hb2); (try clear hk); (try clear hi)) | (go_at_call 19; (with_reducible refine (spec_CentreOf.calls kj16 t808 _ _ t809 t815 t816 t817 _ ?side1 ?side2 A65.out).mono ?_); (case side1 => repeat (first | exact (Kd.R_reads' HO811.out).2.2 | (with_reducible refine Kd.C_alloc ?_ _) | (with_reducible refine Kd.C_drewN ?_ _) | (with_reducible refine Kd.C_drew ?_))); (case side2 => exact (Kd.R_reads' HO811.out).2.1); rintro e w75 ⟨rfl, hb⟩; have n0_ := Aside0.mk (Kd.R_below (by (with_reducible repeat (first | apply Kd.R_alloc | apply Kd.R_drewN | apply Kd.R_drew)); exact HO797.out) hb); have n1_ := Aside0.mk (Kd.R_below (by (with_reducible repeat (first | apply Kd.R_alloc | apply Kd.R_drewN | apply Kd.R_drew)); exact HO799.out) hb); have n2_ := Aside0.mk (Kd.R_below (by (with_reducible repeat (first | apply Kd.R_alloc | apply Kd.R_drewN | apply Kd.R_drew)); exact HO803.out) hb); have n3_ := Aside0.mk (Kd.R_below (by (with_reducible repeat (first | apply Kd.R_alloc | apply Kd.R_drewN | apply Kd.R_drew)); exact HO807.out) hb); have n4_ := Aside0.mk (Kd.R_below (by (with_reducible repeat (first | apply Kd.R_alloc | apply Kd.R_drewN | apply Kd.R_drew)); exact HO811.out) hb); have n5_ := Aside0.mk (below_step (by repeat (first | (with_reducible first | exact HB.out | apply below_alloc | apply pw_below_drewN | apply below_drew1) | exact HB.out)) hb); clear HO797; clear HO799; clear HO803; clear HO807; clear HO811; clear HB; have HO797 := n0_; have HO799 := n1_; have HO803 := n2_; have HO807 := n3_; have HO811 := n4_; have HB := n5_; clear n0_ n1_ n2_ n3_ n4_ n5_; (try clear hb); (try clear hb2); (try clear hk); (try clear hi)))
       repeat (go_quiet (first | (go_at_call 37; (with_reducible refine (spec_DrawRelaxAll.calls kj16 _ _ l1 t793 t794 t795 _ ?side1 ?side2 A60.out).mono ?_); (case side1 => repeat (first | exact (Kd.C_below HR1.out HB.out) | (with_reducible refine Kd.C_alloc ?_ _) | (with_reducible refine Kd.C_drewN ?_ _) | (with_reducible refine Kd.C_drew ?_))); (case side2 => exact HC1.out); rintro e w67 ⟨v796, v798, rfl, ho0, ho1, hb⟩; have n0_ := Aside0.mk (Kd.R_lower ho0 (below_size (by repeat (first | (with_reducible first | exact HB.out | apply below_alloc | apply pw_below_drewN | apply below_drew1) | exact HB.out)))); have n1_ := Aside0.mk (Kd.R_lower ho1 (below_size (by repeat (first | (with_reducible first | exact HB.out | apply below_alloc | apply pw_below_drewN | apply below_drew1) | exact HB.out)))); have n2_ := Aside0.mk (below_step (by repeat (first | (with_reducible first | exact HB.out | apply below_alloc | apply pw_below_drewN | apply below_drew1) | exact HB.out)) hb); clear HB; have HO797 := n0_; have HO799 := n1_; have HB := n2_; clear n0_ n1_ n2_; (try clear hb); (try clear hb2); (try clear hk); (try clear hi); (try clear ho0); (try clear ho1); obtain ⟨Ao68, co68, eo68⟩ := Kd.R_slice HO797.out; subst eo68; obtain ⟨Ao69, co69, eo69⟩ := Kd.R_slice HO799.out; subst eo69) | (go_at_call 22; (with_reducible refine (impl_RelaxAll.calls kj16 t793 _ _ t794 _ _ t795 t800 t801 _ ?side1 ?side2 ?side3 ?side4 A61.out).mono ?_); (case side1 => repeat (first | exact (Kd.R_reads' HO797.out).2.2 | (with_reducible refine Kd.C_alloc ?_ _) | (with_reducible refine Kd.C_drewN ?_ _) | (with_reducible refine Kd.C_drew ?_))); (case side2 => exact (Kd.R_reads' HO797.out).2.1); (case side3 => repeat (first | exact (Kd.R_reads' HO799.out).2.2 | (with_reducible refine Kd.C_alloc ?_ _) | (with_reducible refine Kd.C_drewN ?_ _) | (with_reducible refine Kd.C_drew ?_))); (case side4 => exact (Kd.R_reads' HO799.out).2.1); rintro e w70 ⟨v802, rfl, ho0, hb⟩; have n0_ := Aside0.mk (Kd.R_below (by (with_reducible repeat (first | apply Kd.R_alloc | apply Kd.R_drewN | apply Kd.R_drew)); exact HO797.out) hb); have n1_ := Aside0.mk (Kd.R_elder' (by (with_reducible repeat (first | apply Kd.R_alloc | apply Kd.R_drewN | apply Kd.R_drew)); exact HO799.out) (Kd.R_base ho0) hb); have n2_ := Aside0.mk (Kd.R_lower (Kd.R_new' ho0 (Kd.R_lt (by (with_reducible repeat (first | apply Kd.R_alloc | apply Kd.R_drewN | apply Kd.R_drew)); exact HO799.out))) (below_size (by repeat (first | (with_reducible first | exact HB.out | apply below_alloc | apply pw_below_drewN | apply below_drew1) | exact HB.out)))); have n3_ := Aside0.mk (below_step (by repeat (first | (with_reducible first | exact HB.out | apply below_alloc | apply pw_below_drewN | apply below_drew1) | exact HB.out)) hb); clear HO797; clear HO799; clear HB; have HO797 := n0_; have HO799 := n1_; have HO803 := n2_; have HB := n3_; clear n0_ n1_ n2_ n3_; (try clear hb); (try clear hb2); (try clear hk); (try clear hi); (try clear ho0)) | (go_at_call 21; (with_reducible refine (spec_RelaxAll.calls kj16 t793 _ _ t794 _ _ t795 t804 t805 _ ?side1 ?side2 ?side3 ?side4 A62.out).mono ?_); (case side1 => repeat (first | exact (Kd.R_reads' HO797.out).2.2 | (with_reducible refine Kd.C_alloc ?_ _) | (with_reducible refine Kd.C_drewN ?_ _) | (with_reducible refine Kd.C_drew ?_))); (case side2 => exact (Kd.R_reads' HO797.out).2.1); (case side3 => repeat (first | exact (Kd.R_reads' HO799.out).2.2 | (with_reducible refine Kd.C_alloc ?_ _) | (with_reducible refine Kd.C_drewN ?_ _) | (with_reducible refine Kd.C_drew ?_))); (case side4 => exact (Kd.R_reads' HO799.out).2.1); rintro e w71 ⟨v806, rfl, ho0, hb⟩; have n0_ := Aside0.mk (Kd.R_below (by (with_reducible repeat (first | apply Kd.R_alloc | apply Kd.R_drewN | apply Kd.R_drew)); exact HO797.out) hb); have n1_ := Aside0.mk (Kd.R_elder' (by (with_reducible repeat (first | apply Kd.R_alloc | apply Kd.R_drewN | apply Kd.R_drew)); exact HO799.out) (Kd.R_base ho0) hb); have n2_ := Aside0.mk (Kd.R_elder' (by (with_reducible repeat (first | apply Kd.R_alloc | apply Kd.R_drewN | apply Kd.R_drew)); exact HO803.out) (Kd.R_base ho0) hb); have n3_ := Aside0.mk (Kd.R_lower (Kd.R_new' (Kd.R_new' ho0 (Kd.R_lt (by (with_reducible repeat (first | apply Kd.R_alloc | apply Kd.R_drewN | apply Kd.R_drew)); exact HO799.out))) (Kd.R_lt (by (with_reducible repeat (first | apply Kd.R_alloc | apply Kd.R_drewN | apply Kd.R_drew)); exact HO803.out))) (below_size (by repeat (first | (with_reducible first | exact HB.out | apply below_alloc | apply pw_below_drewN | apply below_drew1) | exact HB.out)))); have n4_ := Aside0.mk (below_step (by repeat (first | (with_reducible first | exact HB.out | apply below_alloc | apply pw_below_drewN | apply below_drew1) | exact HB.out)) hb); clear HO797; clear HO799; clear HO803; clear HB; have HO797 := n0_; have HO799 := n1_; have HO803 := n2_; have HO807 := n3_; have HB := n4_; clear n0_ n1_ n2_ n3_ n4_; (try clear hb); (try clear hb2); (try clear hk); (try clear hi); (try clear ho0)) | (go_at_call 38; (with_reducible refine (spec_DrawCentreOf.calls kj16 _ _ l1 t808 t809 _ ?side1 ?side2 A63.out).mono ?_); (case side1 => repeat (first | exact (Kd.C_below HR1.out HB.out) | (with_reducible refine Kd.C_alloc ?_ _) | (with_reducible refine Kd.C_drewN ?_ _) | (with_reducible refine Kd.C_drew ?_))); (case side2 => exact HC1.out); rintro e w72 ⟨v810, rfl, ho0, hb⟩; have n0_ := Aside0.mk (Kd.R_elder' (by (with_reducible repeat (first | apply Kd.R_alloc | apply Kd.R_drewN | apply Kd.R_drew)); exact HO797.out) (Kd.R_base ho0) hb); have n1_ := Aside0.mk (Kd.R_below (by (with_reducible repeat (first | apply Kd.R_alloc | apply Kd.R_drewN | apply Kd.R_drew)); exact HO799.out) hb); have n2_ := Aside0.mk (Kd.R_below (by (with_reducible repeat (first | apply Kd.R_alloc | apply Kd.R_drewN | apply Kd.R_drew)); exact HO803.out) hb); have n3_ := Aside0.mk (Kd.R_below (by (with_reducible repeat (first | apply Kd.R_alloc | apply Kd.R_drewN | apply Kd.R_drew)); exact HO807.out) hb); have n4_ := Aside0.mk (Kd.R_lower (Kd.R_new' ho0 (Kd.R_lt (by (with_reducible repeat (first | apply Kd.R_alloc | apply Kd.R_drewN | apply Kd.R_drew)); exact HO797.out))) (below_size (by repeat (first | (with_reducible first | exact HB.out | apply below_alloc | apply pw_below_drewN | apply below_drew1) | exact HB.out)))); have n5_ := Aside0.mk (below_step (by repeat (first | (with_reducible first | exact HB.out | apply below_alloc | apply pw_below_drewN | apply below_drew1) | exact HB.out)) hb); clear HO797; clear HO799; clear HO803; clear HO807; clear HB; have HO797 := n0_; have HO799 := n1_; have HO803 := n2_; have HO807 := n3_; have HO811 := n4_; have HB := n5_; clear n0_ n1_ n2_ n3_ n4_ n5_; (try clear hb); (try clear hb2); (try clear hk); (try clear hi); (try clear ho0); obtain ⟨Ao73, co73, eo73⟩ := Kd.R_slice HO811.out; subst eo73) | (go_at_call 20; (with_reducible refine (impl_CentreOf.calls kj16 t808 _ _ t809 t812 t813 t814 _ ?side1 ?side2 A64.out).mono ?_); (case side1 => repeat (first | exact (Kd.R_reads' HO811.out).2.2 | (with_reducible refine Kd.C_alloc ?_ _) | (with_reducible refine Kd.C_drewN ?_ _) | (with_reducible refine Kd.C_drew ?_))); (case side2 => exact (Kd.R_reads' HO811.out).2.1); rintro e w74 ⟨rfl, hb⟩; have n0_ := Aside0.mk (Kd.R_below (by (with_reducible repeat (first | apply Kd.R_alloc | apply Kd.R_drewN | apply Kd.R_drew)); exact HO797.out) hb); have n1_ := Aside0.mk (Kd.R_below (by (with_reducible repeat (first | apply Kd.R_alloc | apply Kd.R_drewN | apply Kd.R_drew)); exact HO799.out) hb); have n2_ := Aside0.mk (Kd.R_below (by (with_reducible repeat (first | apply Kd.R_alloc | apply Kd.R_drewN | apply Kd.R_drew)); exact HO803.out) hb); have n3_ := Aside0.mk (Kd.R_below (by (with_reducible repeat (first | apply Kd.R_alloc | apply Kd.R_drewN | apply Kd.R_drew)); exact HO807.out) hb); have n4_ := Aside0.mk (Kd.R_below (by (with_reducible repeat (first | apply Kd.R_alloc | apply Kd.R_drewN | apply Kd.R_drew)); exact HO811.out) hb); have n5_ := Aside0.mk (below_step (by repeat (first | (with_reducible first | exact HB.out | apply below_alloc | apply pw_below_drewN | apply below_drew1) | exact HB.out)) hb); clear HO797; clear HO799; clear HO803; clear HO807; clear HO811; clear HB; have HO797 := n0_; have HO799 := n1_; have HO803 := n2_; have HO807 := n3_; have HO811 := n4_; have HB := n5_; clear n0_ n1_ n2_ n3_ n4_ n5_; (try clear hb); (try clear hb2); (try clear hk); (try clear hi)) | (go_at_call 19; (with_reducible refine (spec_CentreOf.calls kj16 t808 _ _ t809 t815 t816 t817 _ ?side1 ?side2 A65.out).mono ?_); (case side1 => repeat (first | exact (Kd.R_reads' HO811.out).2.2 | (with_reducible refine Kd.C_alloc ?_ _) | (with_reducible refine Kd.C_drewN ?_ _) | (with_reducible refine Kd.C_drew ?_))); (case side2 => exact (Kd.R_reads' HO811.out).2.1); rintro e w75 ⟨rfl, hb⟩; have n0_ := Aside0.mk (Kd.R_below (by (with_reducible repeat (first | apply Kd.R_alloc | apply Kd.R_drewN | apply Kd.R_drew)); exact HO797.out) hb); have n1_ := Aside0.mk (Kd.R_below (by (with_reducible repeat (first | apply Kd.R_alloc | apply Kd.R_drewN | apply Kd.R_drew)); exact HO799.out) hb); have n2_ := Aside0.mk (Kd.R_below (by (with_reducible repeat (first | apply Kd.R_alloc | apply Kd.R_drewN | apply Kd.R_drew)); exact HO803.out) hb); have n3_ := Aside0.mk (Kd.R_below (by (with_reducible repeat (first | apply Kd.R_alloc | apply Kd.R_drewN | apply Kd.R_drew)); exact HO807.out) hb); have n4_ := Aside0.mk (Kd.R_below (by (with_reducible repeat (first | apply Kd.R_alloc | apply Kd.R_drewN | apply Kd.R_drew)); exact HO811.out) hb); have n5_ := Aside0.mk (below_step (by repeat (first | (with_reducible first | exact HB.out | apply below_alloc | apply pw_below_drewN | apply below_drew1) | exact HB.out)) hb); clear HO797; clear HO799; clear HO803; clear HO807; clear HO811; clear HB; have HO797 := n0_; have HO799 := n1_; have HO803 := n2_; have HO807 := n3_; have HO811 := n4_; have HB := n5_; clear n0_ n1_ n2_ n3_ n4_ n5_; (try clear hb); (try clear hb2); (try clear hk); (try clear hi))); go_upto_region 32 with (first | (go_at_call 37; (with_reducible refine (spec_DrawRelaxAll.calls kj16 _ _ l1 t793 t794 t795 _ ?side1 ?side2 A60.out).mono ?_); (case side1 => repeat (first | exact (Kd.C_below HR1.out HB.out) | (with_reducible refine Kd.C_alloc ?_ _) | (with_reducible refine Kd.C_drewN ?_ _) | (with_reducible refine Kd.C_drew ?_))); (case side2 => exact HC1.out); rintro e w67 ⟨v796, v798, rfl, ho0, ho1, hb⟩; have n0_ := Aside0.mk (Kd.R_lower ho0 (below_size (by repeat (first | (with_reducible first | exact HB.out | apply below_alloc | apply pw_below_drewN | apply below_drew1) | exact HB.out)))); have n1_ := Aside0.mk (Kd.R_lower ho1 (below_size (by repeat (first | (with_reducible first | exact HB.out | apply below_alloc | apply pw_below_drewN | apply below_drew1) | exact HB.out)))); have n2_ := Aside0.mk (below_step (by repeat (first | (with_reducible first | exact HB.out | apply below_alloc | apply pw_below_drewN | apply below_drew1) | exact HB.out)) hb); clear HB; have HO797 := n0_; have HO799 := n1_; have HB := n2_; clear n0_ n1_ n2_; (try clear hb); (try clear hb2); (try clear hk); (try clear hi); (try clear ho0); (try clear ho1); obtain ⟨Ao68, co68, eo68⟩ := Kd.R_slice HO797.out; subst eo68; obtain ⟨Ao69, co69, eo69⟩ := Kd.R_slice HO799.out; subst eo69) | (go_at_call 22; (with_reducible refine (impl_RelaxAll.calls kj16 t793 _ _ t794 _ _ t795 t800 t801 _ ?side1 ?side2 ?side3 ?side4 A61.out).mono ?_); (case side1 => repeat (first | exact (Kd.R_reads' HO797.out).2.2 | (with_reducible refine Kd.C_alloc ?_ _) | (with_reducible refine Kd.C_drewN ?_ _) | (with_reducible refine Kd.C_drew ?_))); (case side2 => exact (Kd.R_reads' HO797.out).2.1); (case side3 => repeat (first | exact (Kd.R_reads' HO799.out).2.2 | (with_reducible refine Kd.C_alloc ?_ _) | (with_reducible refine Kd.C_drewN ?_ _) | (with_reducible refine Kd.C_drew ?_))); (case side4 => exact (Kd.R_reads' HO799.out).2.1); rintro e w70 ⟨v802, rfl, ho0, hb⟩; have n0_ := Aside0.mk (Kd.R_below (by (with_reducible repeat (first | apply Kd.R_alloc | apply Kd.R_drewN | apply Kd.R_drew)); exact HO797.out) hb); have n1_ := Aside0.mk (Kd.R_elder' (by (with_reducible repeat (first | apply Kd.R_alloc | apply Kd.R_drewN | apply Kd.R_drew)); exact HO799.out) (Kd.R_base ho0) hb); have n2_ := Aside0.mk (Kd.R_lower (Kd.R_new' ho0 (Kd.R_lt (by (with_reducible repeat (first | apply Kd.R_alloc | apply Kd.R_drewN | apply Kd.R_drew)); exact HO799.out))) (below_size (by repeat (first | (with_reducible first | exact HB.out | apply below_alloc | apply pw_below_drewN | apply below_drew1) | exact HB.out)))); have n3_ := Aside0.mk (below_step (by repeat (first | (with_reducible first | exact HB.out | apply below_alloc | apply pw_below_drewN | apply below_drew1) | exact HB.out)) hb); clear HO797; clear HO799; clear HB; have HO797 := n0_; have HO799 := n1_; have HO803 := n2_; have HB := n3_; clear n0_ n1_ n2_ n3_; (try clear hb); (try clear hb2); (try clear hk); (try clear hi); (try clear ho0)) | (go_at_call 21; (with_reducible refine (spec_RelaxAll.calls kj16 t793 _ _ t794 _ _ t795 t804 t805 _ ?side1 ?side2 ?side3 ?side4 A62.out).mono ?_); (case side1 => repeat (first | exact (Kd.R_reads' HO797.out).2.2 | (with_reducible refine Kd.C_alloc ?_ _) | (with_reducible refine Kd.C_drewN ?_ _) | (with_reducible refine Kd.C_drew ?_))); (case side2 => exact (Kd.R_reads' HO797.out).2.1); (case side3 => repeat (first | exact (Kd.R_reads' HO799.out).2.2 | (with_reducible refine Kd.C_alloc ?_ _) | (with_reducible refine Kd.C_drewN ?_ _) | (with_reducible refine Kd.C_drew ?_))); (case side4 => exact (Kd.R_reads' HO799.out).2.1); rintro e w71 ⟨v806, rfl, ho0, hb⟩; have n0_ := Aside0.mk (Kd.R_below (by (with_reducible repeat (first | apply Kd.R_alloc | apply Kd.R_drewN | apply Kd.R_drew)); exact HO797.out) hb); have n1_ := Aside0.mk (Kd.R_elder' (by (with_reducible repeat (first | apply Kd.R_alloc | apply Kd.R_drewN | apply Kd.R_drew)); exact HO799.out) (Kd.R_base ho0) hb); have n2_ := Aside0.mk (Kd.R_elder' (by (with_reducible repeat (first | apply Kd.R_alloc | apply Kd.R_drewN | apply Kd.R_drew)); exact HO803.out) (Kd.R_base ho0) hb); have n3_ := Aside0.mk (Kd.R_lower (Kd.R_new' (Kd.R_new' ho0 (Kd.R_lt (by (with_reducible repeat (first | apply Kd.R_alloc | apply Kd.R_drewN | apply Kd.R_drew)); exact HO799.out))) (Kd.R_lt (by (with_reducible repeat (first | apply Kd.R_alloc | apply Kd.R_drewN | apply Kd.R_drew)); exact HO803.out))) (below_size (by repeat (first | (with_reducible first | exact HB.out | apply below_alloc | apply pw_below_drewN | apply below_drew1) | exact HB.out)))); have n4_ := Aside0.mk (below_step (by repeat (first | (with_reducible first | exact HB.out | apply below_alloc | apply pw_below_drewN | apply below_drew1) | exact HB.out)) hb); clear HO797; clear HO799; clear HO803; clear HB; have HO797 := n0_; have HO799 := n1_; have HO803 := n2_; have HO807 := n3_; have HB := n4_; clear n0_ n1_ n2_ n3_ n4_; (try clear hb); (try clear hb2); (try clear hk); (try clear hi); (try clear ho0)) | (go_at_call 38; (with_reducible refine (spec_DrawCentreOf.calls kj16 _ _ l1 t808 t809 _ ?side1 ?side2 A63.out).mono ?_); (case side1 => repeat (first | exact (Kd.C_below HR1.out HB.out) | (with_reducible refine Kd.C_alloc ?_ _) | (with_reducible refine Kd.C_drewN ?_ _) | (with_reducible refine Kd.C_drew ?_))); (case side2 => exact HC1.out); rintro e w72 ⟨v810, rfl, ho0, hb⟩; have n0_ := Aside0.mk (Kd.R_elder' (by (with_reducible repeat (first | apply Kd.R_alloc | apply Kd.R_drewN | apply Kd.R_drew)); exact HO797.out) (Kd.R_base ho0) hb); have n1_ := Aside0.mk (Kd.R_below (by (with_reducible repeat (first | apply Kd.R_alloc | apply Kd.R_drewN | apply Kd.R_drew)); exact HO799.out) hb); have n2_ := Aside0.mk (Kd.R_below (by (with_reducible repeat (first | apply Kd.R_alloc | apply Kd.R_drewN | apply Kd.R_drew)); exact HO803.out) hb); have n3_ := Aside0.mk (Kd.R_below (by (with_reducible repeat (first | apply Kd.R_alloc | apply Kd.R_drewN | apply Kd.R_drew)); exact HO807.out) hb); have n4_ := Aside0.mk (Kd.R_lower (Kd.R_new' ho0 (Kd.R_lt (by (with_reducible repeat (first | apply Kd.R_alloc | apply Kd.R_drewN | apply Kd.R_drew)); exact HO797.out))) (below_size (by repeat (first | (with_reducible first | exact HB.out | apply below_alloc | apply pw_below_drewN | apply below_drew1) | exact HB.out)))); have n5_ := Aside0.mk (below_step (by repeat (first | (with_reducible first | exact HB.out | apply below_alloc | apply pw_below_drewN | apply below_drew1) | exact HB.out)) hb); clear HO797; clear HO799; clear HO803; clear HO807; clear HB; have HO797 := n0_; have HO799 := n1_; have HO803 := n2_; have HO807 := n3_; have HO811 := n4_; have HB := n5_; clear n0_ n1_ n2_ n3_ n4_ n5_; (try clear hb); (try clear hb2); (try clear hk); (try clear hi); (try clear ho0); obtain ⟨Ao73, co73, eo73⟩ := Kd.R_slice HO811.out; subst eo73) | (go_at_call 20; (with_reducible refine (impl_CentreOf.calls kj16 t808 _ _ t809 t812 t813 t814 _ ?side1 ?side2 A64.out).mono ?_); (case side1 => repeat (first | exact (Kd.R_reads' HO811.out).2.2 | (with_reducible refine Kd.C_alloc ?_ _) | (with_reducible refine Kd.C_drewN ?_ _) | (with_reducible refine Kd.C_drew ?_))); (case side2 => exact (Kd.R_reads' HO811.out).2.1); rintro e w74 ⟨rfl, hb⟩; have n0_ := Aside0.mk (Kd.R_below (by (with_reducible repeat (first | apply Kd.R_alloc | apply Kd.R_drewN | apply Kd.R_drew)); exact HO797.out) hb); have n1_ := Aside0.mk (Kd.R_below (by (with_reducible repeat (first | apply Kd.R_alloc | apply Kd.R_drewN | apply Kd.R_drew)); exact HO799.out) hb); have n2_ := Aside0.mk (Kd.R_below (by (with_reducible repeat (first | apply Kd.R_alloc | apply Kd.R_drewN | apply Kd.R_drew)); exact HO803.out) hb); have n3_ := Aside0.mk (Kd.R_below (by (with_reducible repeat (first | apply Kd.R_alloc | apply Kd.R_drewN | apply Kd.R_drew)); exact HO807.out) hb); have n4_ := Aside0.mk (Kd.R_below (by (with_reducible repeat (first | apply Kd.R_alloc | apply Kd.R_drewN | apply Kd.R_drew)); exact HO811.out) hb); have n5_ := Aside0.mk (below_step (by repeat (first | (with_reducible first | exact HB.out | apply below_alloc | apply pw_below_drewN | apply below_drew1) | exact HB.out)) hb); clear HO797; clear HO799; clear HO803; clear HO807; clear HO811; clear HB; have HO797 := n0_; have HO799 := n1_; have HO803 := n2_; have HO807 := n3_; have HO811 := n4_; have HB := n5_; clear n0_ n1_ n2_ n3_ n4_ n5_; (try clear hb); (try clear hb2); (try clear hk); (try clear hi)) | (go_at_call 19; (with_reducible refine (spec_CentreOf.calls kj16 t808 _ _ t809 t815 t816 t817 _ ?side1 ?side2 A65.out).mono ?_); (case side1 => repeat (first | exact (Kd.R_reads' HO811.out).2.2 | (with_reducible refine Kd.C_alloc ?_ _) | (with_reducible refine Kd.C_drewN ?_ _) | (with_reducible refine Kd.C_drew ?_))); (case side2 => exact (Kd.R_reads' HO811.out).2.1); rintro e w75 ⟨rfl, hb⟩; have n0_ := Aside0.mk (Kd.R_below (by (with_reducible repeat (first | apply Kd.R_alloc | apply Kd.R_drewN | apply Kd.R_drew)); exact HO797.out) hb); have n1_ := Aside0.mk (Kd.R_below (by (with_reducible repeat (first | apply Kd.R_alloc | apply Kd.R_drewN | apply Kd.R_drew)); exact HO799.out) hb); have n2_ := Aside0.mk (Kd.R_below (by (with_reducible repeat (first | apply Kd.R_alloc | apply Kd.R_drewN | apply Kd.R_drew)); exact HO803.out) hb); have n3_ := Aside0.mk (Kd.R_below (by (with_reducible repeat (first | apply Kd.R_alloc | apply Kd.R_drewN | apply Kd.R_drew)); exact HO807.out) hb); have n4_ := Aside0.mk (Kd.R_below (by (with_reducible repeat (first | apply Kd.R_alloc | apply Kd.R_drewN | apply Kd.R_drew)); exact HO811.out) hb); have n5_ := Aside0.mk (below_step (by repeat (first | (with_reducible first | exact HB.out | apply below_alloc | apply pw_below_drewN | apply below_drew1) | exact HB.out)) hb); clear HO797; clear HO799; clear HO803; clear HO807; clear HO811; clear HB; have HO797 := n0_; have HO799 := n1_; have HO803 := n2_; have HO807 := n3_; have HO811 := n4_; have HB := n5_; clear n0_ n1_ n2_ n3_ n4_ n5_; (try clear hb); (try clear hb2); (try clear hk); (try clear hi))))
       (try simp only [Act.put, List.setIfInBounds_toArray, List.set_cons_zero, List.set_cons_succ])
       go_cut [229] (fun v229 wc => ∃ (kq : Nat) (x229_65 : Bool), v229 = .bool x229_65 ∧ Aside0 (laws_FnFars.j6 kq t795 t800 x229_65 = some r) ∧ Aside0 (kq ≤ kj16) ∧ Aside0 (Kd.R (Kd.int .i64) 3 wc w.heap.size (fun k_ => some k_ ≠ (v802 : Value).ownBlock) (.slice Ao69 t795.length co69) t795) ∧ Aside0 (Kd.R (Kd.int .i64) 3 wc w.heap.size (fun k_ => some k_ ≠ ((.slice Ao69 t795.length co69) : Value).ownBlock) v802 t800) ∧ Aside0 (Below w.heap.size w wc))
       case first =>
        have H := HC66.out
        clear HC66
        by_cases c76 : (t801 != t805) = true
        ·rw [if_pos c76] at H
         have c76b0 : (t801 != t805) = true := c76
         (try (have c76b1 : decide (t801 = t805) = false := by simpa using c76))
         (try (have c76b2 : (t801 == t805) = false := by simpa using c76))
         (try (have c76b3 : ¬ (t801 = t805) := by simpa using c76))
         clear c76
         (first | rw [c76b0] | (simp only [i64_w, i32_w]; rw [c76b0]) | skip)
         as_aux_lemma =>
          have H' := Aside0.mk H
          clear H
          go_wp2
          repeat (go_quiet (fail); try go_wp2)
          go_meet
          case rel => exact ⟨_, (true), (by first | rfl | (simp; done) | (simp [*]; done)), H', ⟨by have := HJ6.out; have := HJ16.out; first | omega | exact Nat.le_refl _⟩, ⟨by (with_reducible repeat (first | apply Kd.R_alloc | apply Kd.R_drewN | apply Kd.R_drew)); exact Kd.R_mono HO799.out (fun _ hk => hk.1.2)⟩, ⟨by (with_reducible repeat (first | apply Kd.R_alloc | apply Kd.R_drewN | apply Kd.R_drew)); exact Kd.R_mono HO803.out (fun _ hk => hk.1.2)⟩, ⟨by repeat (first | (with_reducible first | exact HB.out | apply below_alloc | apply pw_below_drewN | apply below_drew1) | exact HB.out)⟩⟩
        ·rw [if_neg c76] at H
         have c76b0 : (t801 != t805) = false := by simpa using c76
         (try (have c76b1 : decide (t801 = t805) = true := by simpa using c76))
         (try (have c76b2 : (t801 == t805) = true := by simpa using c76))
         clear c76
         (first | rw [c76b0] | (simp only [i64_w, i32_w]; rw [c76b0]) | skip)
         replace H := Option.bind_eq_some_iff.mp H
         obtain ⟨t818, A770, H⟩ := H
         replace H : (if t818 = true then (if (t814 != t817) = true then (laws_FnFars.j6 kj16 t795 t800 true) else (if t812 = t815 then (laws_FnFars.j6 kj16 t795 t800 (t813 != t816)) else (laws_FnFars.j6 kj16 t795 t800 true))) else (laws_FnFars.j6 kj16 t795 t800 true)) = some r := H
         have A77 := Aside0.mk A770
         clear A770
         by_cases c78 : t818 = true
         ·subst c78
          have H1 : (if (t814 != t817) = true then (laws_FnFars.j6 kj16 t795 t800 true) else (if t812 = t815 then (laws_FnFars.j6 kj16 t795 t800 (t813 != t816)) else (laws_FnFars.j6 kj16 t795 t800 true))) = some r := by rw [if_pos rfl] at H; exact H
          clear H
          have H := H1
          clear H1
          by_cases c79 : (t814 != t817) = true
          ·rw [if_pos c79] at H
           have c79b0 : (t814 != t817) = true := c79
           (try (have c79b1 : decide (t814 = t817) = false := by simpa using c79))
           (try (have c79b2 : (t814 == t817) = false := by simpa using c79))
           (try (have c79b3 : ¬ (t814 = t817) := by simpa using c79))
           clear c79
           as_aux_lemma =>
            have H' := Aside0.mk H
            clear H
            obtain ⟨Ao80, co80, eo80⟩ := Kd.R_slice HO803.out
            subst eo80
            obtain ⟨Ao81, co81, eo81⟩ := Kd.R_slice HO807.out
            subst eo81
            go_wp2_with (first | (go_at_call 35; (with_reducible refine (laws_sameInts.calls kj16 _ _ t800 _ _ t804 true _ ?side1 ?side2 ?side3 ?side4 A77.out).mono ?_); (case side1 => repeat (first | exact (Kd.R_reads' HO803.out).2.2 | (with_reducible refine Kd.C_alloc ?_ _) | (with_reducible refine Kd.C_drewN ?_ _) | (with_reducible refine Kd.C_drew ?_))); (case side2 => exact (Kd.R_reads' HO803.out).2.1); (case side3 => repeat (first | exact (Kd.R_reads' HO807.out).2.2 | (with_reducible refine Kd.C_alloc ?_ _) | (with_reducible refine Kd.C_drewN ?_ _) | (with_reducible refine Kd.C_drew ?_))); (case side4 => exact (Kd.R_reads' HO807.out).2.1); rintro e w' ⟨rfl, ⟨nd, rfl⟩⟩; (try first | exact ⟨rfl, _, World.drewN_drewN _ _ _⟩ | exact ⟨rfl, _, Eq.trans (World.drewN_drewN _ _ _) (congrArg (World.drewN _) (Nat.add_assoc _ _ _))⟩)))
            repeat (go_quiet (first | (go_at_call 35; (with_reducible refine (laws_sameInts.calls kj16 _ _ t800 _ _ t804 true _ ?side1 ?side2 ?side3 ?side4 A77.out).mono ?_); (case side1 => repeat (first | exact (Kd.R_reads' HO803.out).2.2 | (with_reducible refine Kd.C_alloc ?_ _) | (with_reducible refine Kd.C_drewN ?_ _) | (with_reducible refine Kd.C_drew ?_))); (case side2 => exact (Kd.R_reads' HO803.out).2.1); (case side3 => repeat (first | exact (Kd.R_reads' HO807.out).2.2 | (with_reducible refine Kd.C_alloc ?_ _) | (with_reducible refine Kd.C_drewN ?_ _) | (with_reducible refine Kd.C_drew ?_))); (case side4 => exact (Kd.R_reads' HO807.out).2.1); rintro e w' ⟨rfl, ⟨nd, rfl⟩⟩; (try first | exact ⟨rfl, _, World.drewN_drewN _ _ _⟩ | exact ⟨rfl, _, Eq.trans (World.drewN_drewN _ _ _) (congrArg (World.drewN _) (Nat.add_assoc _ _ _))⟩))); try go_wp2_with (first | (go_at_call 35; (with_reducible refine (laws_sameInts.calls kj16 _ _ t800 _ _ t804 true _ ?side1 ?side2 ?side3 ?side4 A77.out).mono ?_); (case side1 => repeat (first | exact (Kd.R_reads' HO803.out).2.2 | (with_reducible refine Kd.C_alloc ?_ _) | (with_reducible refine Kd.C_drewN ?_ _) | (with_reducible refine Kd.C_drew ?_))); (case side2 => exact (Kd.R_reads' HO803.out).2.1); (case side3 => repeat (first | exact (Kd.R_reads' HO807.out).2.2 | (with_reducible refine Kd.C_alloc ?_ _) | (with_reducible refine Kd.C_drewN ?_ _) | (with_reducible refine Kd.C_drew ?_))); (case side4 => exact (Kd.R_reads' HO807.out).2.1); rintro e w' ⟨rfl, ⟨nd, rfl⟩⟩; (try first | exact ⟨rfl, _, World.drewN_drewN _ _ _⟩ | exact ⟨rfl, _, Eq.trans (World.drewN_drewN _ _ _) (congrArg (World.drewN _) (Nat.add_assoc _ _ _))⟩))))
            go_meet
            case rel => exact ⟨_, (true), (by first | rfl | (simp; done) | (simp [*]; done)), H', ⟨by have := HJ6.out; have := HJ16.out; first | omega | exact Nat.le_refl _⟩, ⟨by (with_reducible repeat (first | apply Kd.R_alloc | apply Kd.R_drewN | apply Kd.R_drew)); exact Kd.R_mono HO799.out (fun _ hk => hk.1.2)⟩, ⟨by (with_reducible repeat (first | apply Kd.R_alloc | apply Kd.R_drewN | apply Kd.R_drew)); exact Kd.R_mono HO803.out (fun _ hk => hk.1.2)⟩, ⟨by repeat (first | (with_reducible first | exact HB.out | apply below_alloc | apply pw_below_drewN | apply below_drew1) | exact HB.out)⟩⟩
          ·rw [if_neg c79] at H
           have c79b0 : (t814 != t817) = false := by simpa using c79
           (try (have c79b1 : decide (t814 = t817) = true := by simpa using c79))
           (try (have c79b2 : (t814 == t817) = true := by simpa using c79))
           clear c79
           by_cases c82 : t812 = t815
           ·rw [if_pos c82] at H
            have c82b0 : (t812 == t815) = true := beq_iff_eq.mpr c82
            have c82b1 : (t812 != t815) = false := bne_eq_false_iff_eq.mpr c82
            clear c82
            as_aux_lemma =>
             have H' := Aside0.mk H
             clear H
             obtain ⟨Ao83, co83, eo83⟩ := Kd.R_slice HO803.out
             subst eo83
             obtain ⟨Ao84, co84, eo84⟩ := Kd.R_slice HO807.out
             subst eo84
             go_wp2_with (first | (go_at_call 35; (with_reducible refine (laws_sameInts.calls kj16 _ _ t800 _ _ t804 true _ ?side1 ?side2 ?side3 ?side4 A77.out).mono ?_); (case side1 => repeat (first | exact (Kd.R_reads' HO803.out).2.2 | (with_reducible refine Kd.C_alloc ?_ _) | (with_reducible refine Kd.C_drewN ?_ _) | (with_reducible refine Kd.C_drew ?_))); (case side2 => exact (Kd.R_reads' HO803.out).2.1); (case side3 => repeat (first | exact (Kd.R_reads' HO807.out).2.2 | (with_reducible refine Kd.C_alloc ?_ _) | (with_reducible refine Kd.C_drewN ?_ _) | (with_reducible refine Kd.C_drew ?_))); (case side4 => exact (Kd.R_reads' HO807.out).2.1); rintro e w' ⟨rfl, ⟨nd, rfl⟩⟩; (try first | exact ⟨rfl, _, World.drewN_drewN _ _ _⟩ | exact ⟨rfl, _, Eq.trans (World.drewN_drewN _ _ _) (congrArg (World.drewN _) (Nat.add_assoc _ _ _))⟩)))
             repeat (go_quiet (first | (go_at_call 35; (with_reducible refine (laws_sameInts.calls kj16 _ _ t800 _ _ t804 true _ ?side1 ?side2 ?side3 ?side4 A77.out).mono ?_); (case side1 => repeat (first | exact (Kd.R_reads' HO803.out).2.2 | (with_reducible refine Kd.C_alloc ?_ _) | (with_reducible refine Kd.C_drewN ?_ _) | (with_reducible refine Kd.C_drew ?_))); (case side2 => exact (Kd.R_reads' HO803.out).2.1); (case side3 => repeat (first | exact (Kd.R_reads' HO807.out).2.2 | (with_reducible refine Kd.C_alloc ?_ _) | (with_reducible refine Kd.C_drewN ?_ _) | (with_reducible refine Kd.C_drew ?_))); (case side4 => exact (Kd.R_reads' HO807.out).2.1); rintro e w' ⟨rfl, ⟨nd, rfl⟩⟩; (try first | exact ⟨rfl, _, World.drewN_drewN _ _ _⟩ | exact ⟨rfl, _, Eq.trans (World.drewN_drewN _ _ _) (congrArg (World.drewN _) (Nat.add_assoc _ _ _))⟩))); try go_wp2_with (first | (go_at_call 35; (with_reducible refine (laws_sameInts.calls kj16 _ _ t800 _ _ t804 true _ ?side1 ?side2 ?side3 ?side4 A77.out).mono ?_); (case side1 => repeat (first | exact (Kd.R_reads' HO803.out).2.2 | (with_reducible refine Kd.C_alloc ?_ _) | (with_reducible refine Kd.C_drewN ?_ _) | (with_reducible refine Kd.C_drew ?_))); (case side2 => exact (Kd.R_reads' HO803.out).2.1); (case side3 => repeat (first | exact (Kd.R_reads' HO807.out).2.2 | (with_reducible refine Kd.C_alloc ?_ _) | (with_reducible refine Kd.C_drewN ?_ _) | (with_reducible refine Kd.C_drew ?_))); (case side4 => exact (Kd.R_reads' HO807.out).2.1); rintro e w' ⟨rfl, ⟨nd, rfl⟩⟩; (try first | exact ⟨rfl, _, World.drewN_drewN _ _ _⟩ | exact ⟨rfl, _, Eq.trans (World.drewN_drewN _ _ _) (congrArg (World.drewN _) (Nat.add_assoc _ _ _))⟩))))
             go_meet
             case rel => exact ⟨_, ((t813 != t816)), (by first | rfl | (simp; done) | (simp [*]; done)), H', ⟨by have := HJ6.out; have := HJ16.out; first | omega | exact Nat.le_refl _⟩, ⟨by (with_reducible repeat (first | apply Kd.R_alloc | apply Kd.R_drewN | apply Kd.R_drew)); exact Kd.R_mono HO799.out (fun _ hk => hk.1.2)⟩, ⟨by (with_reducible repeat (first | apply Kd.R_alloc | apply Kd.R_drewN | apply Kd.R_drew)); exact Kd.R_mono HO803.out (fun _ hk => hk.1.2)⟩, ⟨by repeat (first | (with_reducible first | exact HB.out | apply below_alloc | apply pw_below_drewN | apply below_drew1) | exact HB.out)⟩⟩
           ·rw [if_neg c82] at H
            have c82b0 : (t812 == t815) = false := beq_eq_false_iff_ne.mpr c82
            have c82b1 : (t812 != t815) = true := bne_iff_ne.mpr c82
            as_aux_lemma =>
             have H' := Aside0.mk H
             clear H
             obtain ⟨Ao85, co85, eo85⟩ := Kd.R_slice HO803.out
             subst eo85
             obtain ⟨Ao86, co86, eo86⟩ := Kd.R_slice HO807.out
             subst eo86
             go_wp2_with (first | (go_at_call 35; (with_reducible refine (laws_sameInts.calls kj16 _ _ t800 _ _ t804 true _ ?side1 ?side2 ?side3 ?side4 A77.out).mono ?_); (case side1 => repeat (first | exact (Kd.R_reads' HO803.out).2.2 | (with_reducible refine Kd.C_alloc ?_ _) | (with_reducible refine Kd.C_drewN ?_ _) | (with_reducible refine Kd.C_drew ?_))); (case side2 => exact (Kd.R_reads' HO803.out).2.1); (case side3 => repeat (first | exact (Kd.R_reads' HO807.out).2.2 | (with_reducible refine Kd.C_alloc ?_ _) | (with_reducible refine Kd.C_drewN ?_ _) | (with_reducible refine Kd.C_drew ?_))); (case side4 => exact (Kd.R_reads' HO807.out).2.1); rintro e w' ⟨rfl, ⟨nd, rfl⟩⟩; (try first | exact ⟨rfl, _, World.drewN_drewN _ _ _⟩ | exact ⟨rfl, _, Eq.trans (World.drewN_drewN _ _ _) (congrArg (World.drewN _) (Nat.add_assoc _ _ _))⟩)))
             repeat (go_quiet (first | (go_at_call 35; (with_reducible refine (laws_sameInts.calls kj16 _ _ t800 _ _ t804 true _ ?side1 ?side2 ?side3 ?side4 A77.out).mono ?_); (case side1 => repeat (first | exact (Kd.R_reads' HO803.out).2.2 | (with_reducible refine Kd.C_alloc ?_ _) | (with_reducible refine Kd.C_drewN ?_ _) | (with_reducible refine Kd.C_drew ?_))); (case side2 => exact (Kd.R_reads' HO803.out).2.1); (case side3 => repeat (first | exact (Kd.R_reads' HO807.out).2.2 | (with_reducible refine Kd.C_alloc ?_ _) | (with_reducible refine Kd.C_drewN ?_ _) | (with_reducible refine Kd.C_drew ?_))); (case side4 => exact (Kd.R_reads' HO807.out).2.1); rintro e w' ⟨rfl, ⟨nd, rfl⟩⟩; (try first | exact ⟨rfl, _, World.drewN_drewN _ _ _⟩ | exact ⟨rfl, _, Eq.trans (World.drewN_drewN _ _ _) (congrArg (World.drewN _) (Nat.add_assoc _ _ _))⟩))); try go_wp2_with (first | (go_at_call 35; (with_reducible refine (laws_sameInts.calls kj16 _ _ t800 _ _ t804 true _ ?side1 ?side2 ?side3 ?side4 A77.out).mono ?_); (case side1 => repeat (first | exact (Kd.R_reads' HO803.out).2.2 | (with_reducible refine Kd.C_alloc ?_ _) | (with_reducible refine Kd.C_drewN ?_ _) | (with_reducible refine Kd.C_drew ?_))); (case side2 => exact (Kd.R_reads' HO803.out).2.1); (case side3 => repeat (first | exact (Kd.R_reads' HO807.out).2.2 | (with_reducible refine Kd.C_alloc ?_ _) | (with_reducible refine Kd.C_drewN ?_ _) | (with_reducible refine Kd.C_drew ?_))); (case side4 => exact (Kd.R_reads' HO807.out).2.1); rintro e w' ⟨rfl, ⟨nd, rfl⟩⟩; (try first | exact ⟨rfl, _, World.drewN_drewN _ _ _⟩ | exact ⟨rfl, _, Eq.trans (World.drewN_drewN _ _ _) (congrArg (World.drewN _) (Nat.add_assoc _ _ _))⟩))))
             go_meet
             case rel => exact ⟨_, (true), (by first | rfl | (simp; done) | (simp [*]; done)), H', ⟨by have := HJ6.out; have := HJ16.out; first | omega | exact Nat.le_refl _⟩, ⟨by (with_reducible repeat (first | apply Kd.R_alloc | apply Kd.R_drewN | apply Kd.R_drew)); exact Kd.R_mono HO799.out (fun _ hk => hk.1.2)⟩, ⟨by (with_reducible repeat (first | apply Kd.R_alloc | apply Kd.R_drewN | apply Kd.R_drew)); exact Kd.R_mono HO803.out (fun _ hk => hk.1.2)⟩, ⟨by repeat (first | (with_reducible first | exact HB.out | apply below_alloc | apply pw_below_drewN | apply below_drew1) | exact HB.out)⟩⟩
         ·replace c78 := Bool.eq_false_iff.mpr c78
          subst c78
          have H1 : (laws_FnFars.j6 kj16 t795 t800 true) = some r := by rw [if_neg (show ¬ (false = true) by decide)] at H; exact H
          clear H
          have H := H1
          clear H1
          as_aux_lemma =>
           have H' := Aside0.mk H
           clear H
           obtain ⟨Ao87, co87, eo87⟩ := Kd.R_slice HO803.out
           subst eo87
           obtain ⟨Ao88, co88, eo88⟩ := Kd.R_slice HO807.out
           subst eo88
           go_wp2_with (first | (go_at_call 35; (with_reducible refine (laws_sameInts.calls kj16 _ _ t800 _ _ t804 false _ ?side1 ?side2 ?side3 ?side4 A77.out).mono ?_); (case side1 => repeat (first | exact (Kd.R_reads' HO803.out).2.2 | (with_reducible refine Kd.C_alloc ?_ _) | (with_reducible refine Kd.C_drewN ?_ _) | (with_reducible refine Kd.C_drew ?_))); (case side2 => exact (Kd.R_reads' HO803.out).2.1); (case side3 => repeat (first | exact (Kd.R_reads' HO807.out).2.2 | (with_reducible refine Kd.C_alloc ?_ _) | (with_reducible refine Kd.C_drewN ?_ _) | (with_reducible refine Kd.C_drew ?_))); (case side4 => exact (Kd.R_reads' HO807.out).2.1); rintro e w' ⟨rfl, ⟨nd, rfl⟩⟩; (try first | exact ⟨rfl, _, World.drewN_drewN _ _ _⟩ | exact ⟨rfl, _, Eq.trans (World.drewN_drewN _ _ _) (congrArg (World.drewN _) (Nat.add_assoc _ _ _))⟩)))
           repeat (go_quiet (first | (go_at_call 35; (with_reducible refine (laws_sameInts.calls kj16 _ _ t800 _ _ t804 false _ ?side1 ?side2 ?side3 ?side4 A77.out).mono ?_); (case side1 => repeat (first | exact (Kd.R_reads' HO803.out).2.2 | (with_reducible refine Kd.C_alloc ?_ _) | (with_reducible refine Kd.C_drewN ?_ _) | (with_reducible refine Kd.C_drew ?_))); (case side2 => exact (Kd.R_reads' HO803.out).2.1); (case side3 => repeat (first | exact (Kd.R_reads' HO807.out).2.2 | (with_reducible refine Kd.C_alloc ?_ _) | (with_reducible refine Kd.C_drewN ?_ _) | (with_reducible refine Kd.C_drew ?_))); (case side4 => exact (Kd.R_reads' HO807.out).2.1); rintro e w' ⟨rfl, ⟨nd, rfl⟩⟩; (try first | exact ⟨rfl, _, World.drewN_drewN _ _ _⟩ | exact ⟨rfl, _, Eq.trans (World.drewN_drewN _ _ _) (congrArg (World.drewN _) (Nat.add_assoc _ _ _))⟩))); try go_wp2_with (first | (go_at_call 35; (with_reducible refine (laws_sameInts.calls kj16 _ _ t800 _ _ t804 false _ ?side1 ?side2 ?side3 ?side4 A77.out).mono ?_); (case side1 => repeat (first | exact (Kd.R_reads' HO803.out).2.2 | (with_reducible refine Kd.C_alloc ?_ _) | (with_reducible refine Kd.C_drewN ?_ _) | (with_reducible refine Kd.C_drew ?_))); (case side2 => exact (Kd.R_reads' HO803.out).2.1); (case side3 => repeat (first | exact (Kd.R_reads' HO807.out).2.2 | (with_reducible refine Kd.C_alloc ?_ _) | (with_reducible refine Kd.C_drewN ?_ _) | (with_reducible refine Kd.C_drew ?_))); (case side4 => exact (Kd.R_reads' HO807.out).2.1); rintro e w' ⟨rfl, ⟨nd, rfl⟩⟩; (try first | exact ⟨rfl, _, World.drewN_drewN _ _ _⟩ | exact ⟨rfl, _, Eq.trans (World.drewN_drewN _ _ _) (congrArg (World.drewN _) (Nat.add_assoc _ _ _))⟩))))
           go_meet
           case rel => exact ⟨_, (true), (by first | rfl | (simp; done) | (simp [*]; done)), H', ⟨by have := HJ6.out; have := HJ16.out; first | omega | exact Nat.le_refl _⟩, ⟨by (with_reducible repeat (first | apply Kd.R_alloc | apply Kd.R_drewN | apply Kd.R_drew)); exact Kd.R_mono HO799.out (fun _ hk => hk.1.2)⟩, ⟨by (with_reducible repeat (first | apply Kd.R_alloc | apply Kd.R_drewN | apply Kd.R_drew)); exact Kd.R_mono HO803.out (fun _ hk => hk.1.2)⟩, ⟨by repeat (first | (with_reducible first | exact HB.out | apply below_alloc | apply pw_below_drewN | apply below_drew1) | exact HB.out)⟩⟩
       case rest =>
        clear HC66
        try clear c1
        try clear c2
        try clear p2
        try clear c3
        try clear c3b0
        try clear c4
        try clear c5
        try clear p6
        try clear c7
        try clear p7
        try clear q7
        try clear hx7
        try clear c8
        try clear c10
        try clear c12
        try clear c12b0
        try clear c12b1
        try clear c12b2
        try clear c16
        try clear c18
        try clear c25
        try clear c27
        try clear c28
        try clear c28b0
        try clear c29
        try clear c29b0
        try clear c30
        try clear c30b0
        try clear c30b1
        try clear c34
        try clear c35
        try clear c35b0
        try clear c39
        try clear c40
        try clear c40b0
        try clear c41
        try clear c41b0
        try clear c42
        try clear c42b0
        try clear c43
        try clear c43b0
        try clear c44
        try clear c44b0
        try clear c44b1
        try clear c45
        try clear c45b0
        try clear c46
        try clear c46b0
        try clear c50
        try clear c51
        try clear c51b0
        try clear c52
        try clear c52b0
        try clear c53
        try clear c53b0
        try clear c54
        try clear c54b0
        try clear c55
        try clear c55b0
        try clear c56
        try clear c56b0
        try clear c57
        try clear c57b0
        try clear p64
        try clear c76
        try clear c76b0
        try clear c76b1
        try clear c76b2
        try clear c78
        try clear p78
        try clear q78
        try clear hx78
        try clear c79
        try clear c79b0
        try clear c79b1
        try clear c79b2
        try clear p79
        try clear q79
        try clear hx79
        try clear c82
        try clear c82b0
        try clear c82b1
        try clear hx780_0
        try clear hx785_0
        try clear hx786_0
        try clear hx787_0
        try clear hx788_0
        try clear hx789_0
        try clear hx790_0
        try clear hx791_0
        try clear hx792_0
        try clear p2
        try clear p6
        try clear p7
        try clear p780
        try clear p785
        try clear p786
        try clear p787
        try clear p788
        try clear p789
        try clear p790
        try clear p791
        try clear p792
        try clear q7
        try clear q780
        try clear q785
        try clear q786
        try clear q787
        try clear q788
        try clear q789
        try clear q790
        try clear q791
        try clear q792
        obtain ⟨kq, x229_65, rfl, HA, HJ65, HO_22, HO_23, HB⟩ := hcut
        cases kq with
        | zero => exact absurd HA.out (by simp [laws_FnFars.j6])
        | succ kj65 =>
         have H := HA.out
         clear HA
         simp only [laws_FnFars.j6] at H
         by_cases c89 : x229_65 = true
         ·subst c89
          have H1 : (some false) = some r := by rw [if_pos rfl] at H; exact H
          clear H
          have H := H1
          clear H1
          as_aux_lemma =>
           obtain rfl := Option.some.inj H
           go_wp2
           repeat (go_quiet (fail); try go_wp2)
           go_ret
           exact ⟨by first | rfl | (simp [errW_none, errW_some] <;> rfl) | (simp [*, errW_none, errW_some] <;> rfl), by repeat (first | (with_reducible first | exact HB.out | apply below_alloc | apply pw_below_drewN | apply below_drew1) | exact HB.out)⟩
         ·replace c89 := Bool.eq_false_iff.mpr c89
          subst c89
          have H1 : (laws_FnFars.l2 kj65 t795 t800 (t800.length : Int) 0) = some r := by rw [if_neg (show ¬ (false = true) by decide)] at H; exact H
          clear H
          have H := H1
          clear H1
          have H' := Aside0.mk H
          clear H
          obtain ⟨Ao90, co90, eo90⟩ := Kd.R_slice HO_23.out
          subst eo90
          go_wp2
          repeat (go_quiet (fail); try go_wp2)
          go_loopg [232] kj65 (fun kq v232 w' => ∃ (x232_4 : Int), v232 = .int .i64 x232_4 ∧ Aside0 (laws_FnFars.l2 kq t795 t800 (t800.length : Int) x232_4 = some r) ∧ Aside0 (kq ≤ kj65) ∧ Aside0 (Kd.R (Kd.int .i64) 3 w' w.heap.size (fun k_ => some k_ ≠ ((.slice Ao90 t800.length co90) : Value).ownBlock) (.slice Ao69 t795.length co69) t795) ∧ Aside0 (Kd.R (Kd.int .i64) 3 w' w.heap.size (fun k_ => some k_ ≠ ((.slice Ao69 t795.length co69) : Value).ownBlock) (.slice Ao90 t800.length co90) t800) ∧ Aside0 (Below w.heap.size w w'))
          case atStart => exact ⟨(0), (by first | rfl | (simp; done) | (simp [*]; done)), H', ⟨Nat.le_refl _⟩, ⟨by (with_reducible repeat (first | apply Kd.R_alloc | apply Kd.R_drewN | apply Kd.R_drew)); exact HO_22.out⟩, ⟨by (with_reducible repeat (first | apply Kd.R_alloc | apply Kd.R_drewN | apply Kd.R_drew)); exact HO_23.out⟩, ⟨by repeat (first | (with_reducible first | exact HB.out | apply below_alloc | apply pw_below_drewN | apply below_drew1) | exact HB.out)⟩⟩
          case round =>
           clear H'
           try clear c1
           try clear c2
           try clear p2
           try clear c3
           try clear c3b0
           try clear c4
           try clear c5
           try clear p6
           try clear c7
           try clear p7
           try clear q7
           try clear hx7
           try clear c8
           try clear c10
           try clear c12
           try clear c12b0
           try clear c12b1
           try clear c12b2
           try clear c16
           try clear c18
           try clear c25
           try clear c27
           try clear c28
           try clear c28b0
           try clear c29
           try clear c29b0
           try clear c30
           try clear c30b0
           try clear c30b1
           try clear c34
           try clear c35
           try clear c35b0
           try clear c39
           try clear c40
           try clear c40b0
           try clear c41
           try clear c41b0
           try clear c42
           try clear c42b0
           try clear c43
           try clear c43b0
           try clear c44
           try clear c44b0
           try clear c44b1
           try clear c45
           try clear c45b0
           try clear c46
           try clear c46b0
           try clear c50
           try clear c51
           try clear c51b0
           try clear c52
           try clear c52b0
           try clear c53
           try clear c53b0
           try clear c54
           try clear c54b0
           try clear c55
           try clear c55b0
           try clear c56
           try clear c56b0
           try clear c57
           try clear c57b0
           try clear p64
           try clear c76
           try clear c76b0
           try clear c76b1
           try clear c76b2
           try clear c78
           try clear p78
           try clear q78
           try clear hx78
           try clear c79
           try clear c79b0
           try clear c79b1
           try clear c79b2
           try clear p79
           try clear q79
           try clear hx79
           try clear c82
           try clear c82b0
           try clear c82b1
           try clear c89
           try clear hx780_0
           try clear hx785_0
           try clear hx786_0
           try clear hx787_0
           try clear hx788_0
           try clear hx789_0
           try clear hx790_0
           try clear hx791_0
           try clear hx792_0
           try clear p2
           try clear p6
           try clear p64
           try clear p7
           try clear p78
           try clear p780
           try clear p785
           try clear p786
           try clear p787
           try clear p788
           try clear p789
           try clear p79
           try clear p790
           try clear p791
           try clear p792
           try clear q7
           try clear q78
           try clear q780
           try clear q785
           try clear q786
           try clear q787
           try clear q788
           try clear q789
           try clear q79
           try clear q790
           try clear q791
           try clear q792
           obtain ⟨x232_4, rfl, HA, HK4, HO_22, HO_23, HB⟩ := hrel
           cases gk with
           | zero => exact absurd HA.out (by simp [laws_FnFars.l2])
           | succ k4 =>
            have H := HA.out
            clear HA
            simp only [laws_FnFars.l2] at H
            by_cases c91 : x232_4 < (t800.length : Int)
            ·rw [if_pos c91] at H
             have c91b0 : decide (x232_4 < (t800.length : Int)) = true := decide_eq_true c91
             clear c91
             by_cases c92 : 0 ≤ x232_4
             ·rw [if_pos c92] at H
              have c92b0 : decide (0 ≤ x232_4) = true := decide_eq_true c92
              clear c92
              by_cases c93 : x232_4 < (t800.length : Int)
              ·rw [if_pos c93] at H
               have c93b0 : decide (x232_4 < (t800.length : Int)) = true := decide_eq_true c93
               clear c93
               by_cases c94 : x232_4 < (t795.length : Int)
               ·rw [if_pos c94] at H
                have c94b0 : decide (x232_4 < (t795.length : Int)) = true := decide_eq_true c94
                clear c94
                by_cases c95 : (rd t800 x232_4) > (rd t795 x232_4)
                ·rw [if_pos c95] at H
                 have c95b0 : decide ((rd t795 x232_4) < (rd t800 x232_4)) = true := decide_eq_true c95
                 clear c95
                 as_aux_lemma =>
                  obtain rfl := Option.some.inj H
                  have p819 : 0 ≤ (x232_4 : Int) := of_decide_eq_true (by first | (with_reducible assumption) | assumption)
                  have q819 : x232_4 < (t800.length : Int) := of_decide_eq_true (by first | (with_reducible assumption) | assumption)
                  obtain ⟨ad819, e819, hx819_0⟩ := Kd.at_int (Kd.R_reads' HO_23.out).2.2 x232_4 p819 q819
                  cases e819
                  replace p819 := eq_true p819
                  replace q819 := eq_true q819
                  have p820 : 0 ≤ (x232_4 : Int) := of_decide_eq_true (by first | (with_reducible assumption) | assumption)
                  have q820 : x232_4 < (t795.length : Int) := of_decide_eq_true (by first | (with_reducible assumption) | assumption)
                  obtain ⟨ad820, e820, hx820_0⟩ := Kd.at_int (Kd.R_reads' HO_22.out).2.2 x232_4 p820 q820
                  cases e820
                  replace p820 := eq_true p820
                  replace q820 := eq_true q820
                  go_wp2
                  repeat (go_quiet (fail); try go_wp2)
                  go_ret
                  exact ⟨by first | rfl | (simp [errW_none, errW_some] <;> rfl) | (simp [*, errW_none, errW_some] <;> rfl), by repeat (first | (with_reducible first | exact HB.out | apply below_alloc | apply pw_below_drewN | apply below_drew1) | exact HB.out)⟩
                ·rw [if_neg c95] at H
                 have c95b0 : decide ((rd t795 x232_4) < (rd t800 x232_4)) = false := decide_eq_false c95
                 clear c95
                 as_aux_lemma =>
                  have H' := Aside0.mk H
                  clear H
                  have p819 : 0 ≤ (x232_4 : Int) := of_decide_eq_true (by first | (with_reducible assumption) | assumption)
                  have q819 : x232_4 < (t800.length : Int) := of_decide_eq_true (by first | (with_reducible assumption) | assumption)
                  obtain ⟨ad819, e819, hx819_0⟩ := Kd.at_int (Kd.R_reads' HO_23.out).2.2 x232_4 p819 q819
                  cases e819
                  replace p819 := eq_true p819
                  replace q819 := eq_true q819
                  have p820 : 0 ≤ (x232_4 : Int) := of_decide_eq_true (by first | (with_reducible assumption) | assumption)
                  have q820 : x232_4 < (t795.length : Int) := of_decide_eq_true (by first | (with_reducible assumption) | assumption)
                  obtain ⟨ad820, e820, hx820_0⟩ := Kd.at_int (Kd.R_reads' HO_22.out).2.2 x232_4 p820 q820
                  cases e820
                  replace p820 := eq_true p820
                  replace q820 := eq_true q820
                  go_wp2
                  repeat (go_quiet (fail); try go_wp2)
                  go_roundg k4
                  case measure => have := HJ6.out; have := HJ16.out; have := HJ65.out; have := HK4.out; omega
                  case rel => exact ⟨(wrap64 (x232_4 + 1)), (by first | rfl | (simp; done) | (simp [*]; done)), H', ⟨by have := HJ6.out; have := HJ16.out; have := HJ65.out; have := HK4.out; omega⟩, ⟨by (with_reducible repeat (first | apply Kd.R_alloc | apply Kd.R_drewN | apply Kd.R_drew)); exact HO_22.out⟩, ⟨by (with_reducible repeat (first | apply Kd.R_alloc | apply Kd.R_drewN | apply Kd.R_drew)); exact HO_23.out⟩, ⟨by repeat (first | (with_reducible first | exact HB.out | apply below_alloc | apply pw_below_drewN | apply below_drew1) | exact HB.out)⟩⟩
               ·rw [if_neg c94] at H
                exact absurd H (by simp)
              ·rw [if_neg c93] at H
               exact absurd H (by simp)
             ·rw [if_neg c92] at H
              exact absurd H (by simp)
            ·rw [if_neg c91] at H
             have c91b0 : decide (x232_4 < (t800.length : Int)) = false := decide_eq_false c91
             clear c91
             as_aux_lemma =>
              obtain rfl := Option.some.inj H
              go_wp2
              repeat (go_quiet (fail); try go_wp2)
              go_ret
              exact ⟨by first | rfl | (simp [errW_none, errW_some] <;> rfl) | (simp [*, errW_none, errW_some] <;> rfl), by repeat (first | (with_reducible first | exact HB.out | apply below_alloc | apply pw_below_drewN | apply below_drew1) | exact HB.out)⟩
/-- THE ONE PURE STATEMENT of laws_FnFars: yours. -/
def laws_FnFars.Pure : Prop := ∀ (l0 : List Int) (l1 : List Int), l0.length ≤ maxLen → l0.length * 1 ≤ 140737488351232 → (∀ x ∈ l0, (Lit.int .u8 x).wf = true) → l1.length ≤ maxLen → l1.length * 1 ≤ 140737488351232 → (∀ x ∈ l1, (Lit.int .u8 x).wf = true) → ∃ k, laws_FnFars.f k l0 l1 = some true
theorem laws_FnFars.walk (P : laws_FnFars.Pure) (a0 : Option Addr) (len0 cap0 : Nat) (z0 : List Int) (a1 : Option Addr) (len1 cap1 : Nat) (z1 : List Int) (w : World) (w0 : (a0 = none ∧ len0 = 0 ∧ cap0 = 0 ∧ z0 = []) ∨ ∃ x, a0 = some x ∧ len0 ≤ cap0 ∧ cap0 ≤ maxLen ∧ z0.length = cap0 ∧ (∀ i, i < z0.length → w.cell? (x.add i) = some (.int .u8 (z0.getD i 0))) ∧ ∀ n ∈ z0, (Lit.int .u8 n).wf = true) (y0 : len0 * 1 ≤ 140737488351232) (w1 : (a1 = none ∧ len1 = 0 ∧ cap1 = 0 ∧ z1 = []) ∨ ∃ x, a1 = some x ∧ len1 ≤ cap1 ∧ cap1 ≤ maxLen ∧ z1.length = cap1 ∧ (∀ i, i < z1.length → w.cell? (x.add i) = some (.int .u8 (z1.getD i 0))) ∧ ∀ n ∈ z1, (Lit.int .u8 n).wf = true) (y1 : len1 * 1 ≤ 140737488351232) :
  Calls Try.prog 10 #[.slice a0 len0 cap0, .slice a1 len1 cap1] w fun e w' => e = .returned (.bool true) ∧ Below w.heap.size w w' := by
 obtain ⟨l0, rfl, hr0, hm0, hw0, hc0⟩ := ReadsInt.ofRowC w0
 obtain ⟨l1, rfl, hr1, hm1, hw1, hc1⟩ := ReadsInt.ofRowC w1
 obtain ⟨k, h⟩ := P l0 l1 hm0 y0 hw0 hm1 y1 hw1
 refine (laws_FnFars.calls k _ _ l0 _ _ l1 true w (Kd.C_of_reads (d := (0 : Int)) (h1 := fun _ => rfl) hr0) hc0 (Kd.C_of_reads (d := (0 : Int)) (h1 := fun _ => rfl) hr1) hc1 h).mono ?_
 rintro e w' ⟨rfl, hd⟩
 exact ⟨rfl, hd⟩
end Go.Proofs.Ytklecgkjoofipaa.P

namespace Go.Proofs.Ytklecgkjoofipaa.P
open Go.RowKit Go.Proofs.YtklecgkjoofipaaW.PrintWords
set_option linter.unusedVariables false
set_option linter.unusedSimpArgs false
theorem wrap_id {x : Int} (h0 : -9223372036854775808 ≤ x) (h1 : x ≤ 9223372036854775807) : wrap64 x = x := by unfold wrap64; omega
theorem Ev.succ {α : Type} {g : Nat → Option α} {r : α} (h : Ev (fun k => g (k + 1)) r) : Ev g r := Ev.step (fun _ => rfl) h
theorem Ev.some_ {α : Type} {r s : α} (h : r = s) : Ev (fun _ => some r) s := h ▸ Ev.now r
theorem getD_mid {α : Type} (d : α) (pre : List α) (x : α) (suf : List α) : (pre ++ x :: suf).getD ((pre.length : Int)).toNat d = x := by simp
theorem set_mid {α : Type} (pre : List α) (x y : α) (suf : List α) : (pre ++ x :: suf).set ((pre.length : Int)).toNat y = pre ++ y :: suf := by simp
theorem app_one {α : Type} (pre : List α) (x : α) (suf : List α) : pre ++ x :: suf = (pre ++ [x]) ++ suf := by simp
theorem len_mid {α : Type} (pre : List α) (x : α) (suf : List α) : ((pre ++ x :: suf).length : Int) = pre.length + suf.length + 1 := by simp; omega
theorem len_one {α : Type} (pre : List α) (x : α) : ((pre ++ [x]).length : Int) = pre.length + 1 := by simp
theorem nil_or_snoc {α : Type} (l : List α) : l = [] ∨ ∃ p y, l = p ++ [y] := by
 rcases List.eq_nil_or_concat l with rfl | ⟨p, y, rfl⟩
 ·exact .inl rfl
 ·exact .inr ⟨p, y, by simp⟩
end Go.Proofs.Ytklecgkjoofipaa.P

namespace Go.Proofs.Ytklecgkjoofipaa.P
open Go.RowKit Go.Proofs.YtklecgkjoofipaaW.PrintWords Go.Proofs.YtklecgkjoofipaaW.PrintLast
set_option linter.unusedVariables false
set_option linter.unusedSimpArgs false
theorem rdEdge_mid (pre : List S67) (x : S67) (suf : List S67) : rd_T67 (pre ++ x :: suf) (pre.length : Int) = x := getD_mid _ pre x suf
end Go.Proofs.Ytklecgkjoofipaa.P

namespace Go.Proofs.Ytklecgkjoofipaa.P
open Go.RowKit Go.Proofs.YtklecgkjoofipaaW.PrintWords Go.Proofs.YtklecgkjoofipaaW.PrintLast
set_option linter.unusedVariables false
set_option linter.unusedSimpArgs false
theorem rd_mid (pre : List Int) (x : Int) (suf : List Int) : rd (pre ++ x :: suf) (pre.length : Int) = x := getD_mid _ pre x suf
end Go.Proofs.Ytklecgkjoofipaa.P

namespace Go.Proofs.Ytklecgkjoofipaa.P
open Go.RowKit Go.Proofs.YtklecgkjoofipaaW.PrintWords Go.Proofs.YtklecgkjoofipaaW.PrintLast
set_option linter.unusedVariables false
set_option linter.unusedSimpArgs false
-- sweeps over a list of numbers, and a list taken over, both sides
theorem specIn (a b c : Int) : spec_l1In.f a b c = some (decide (b ≤ a ∧ a ≤ c)) := by
 unfold spec_l1In.f
 by_cases h : a ≥ b
 ·rw [if_pos h]
  congr 1
  by_cases h2 : a ≤ c
  ·rw [decide_eq_true h2, decide_eq_true ⟨h, h2⟩]
  ·rw [decide_eq_false h2, decide_eq_false (fun hc => h2 hc.2)]
 ·rw [if_neg h, decide_eq_false (fun hc => h hc.1)]
theorem implIn (a b c : Int) : impl_in.f a b c = some (decide (b ≤ a ∧ a ≤ c)) := specIn a b c
def allIn (a b : Int) (l : List Int) : Bool := l.all fun x => decide (a ≤ x ∧ x ≤ b)
theorem implAll_l (a b : Int) (suf : List Int) : ∀ (pre : List Int), ((pre ++ suf).length : Int) ≤ 1099511627776 → Ev (fun k => impl_allIn.l0 k a b (pre ++ suf) ((pre ++ suf).length : Int) pre.length) (allIn a b suf) := by
 induction suf with
 | nil =>
  intro pre h
  refine Ev.succ ?_
  simp only [impl_allIn.l0, List.append_nil, Int.lt_irrefl, if_false]
  exact Ev.now _
 | cons x suf ih =>
  intro pre h
  refine Ev.succ ?_
  rw [len_mid] at h ⊢
  simp only [impl_allIn.l0]
  simp only [if_pos (show ((pre.length : Int) < pre.length + suf.length + 1) by omega), if_pos (show (0 : Int) ≤ pre.length by omega), len_mid, rd_mid, implIn, Option.bind_some, wrap_id (show (-9223372036854775808 : Int) ≤ pre.length + 1 by omega) (show ((pre.length : Int) + 1 ≤ 9223372036854775807) by omega)]
  by_cases hx : a ≤ x ∧ x ≤ b
  ·have := ih (pre ++ [x]) (by rw [← app_one, len_mid]; exact h)
   rw [← app_one, len_mid, len_one] at this
   simp only [hx, and_self, decide_true, if_true]
   rw [show allIn a b (x :: suf) = allIn a b suf by simp [allIn, hx]]
   exact this
  ·simp only [decide_eq_true_eq, if_neg hx]
   rw [show allIn a b (x :: suf) = false by simp [allIn]; intro h1 h2; exact absurd ⟨h1, h2⟩ hx]
   exact Ev.now _
theorem implAll_ev (a b : Int) (l : List Int) (h : (l.length : Int) ≤ 1099511627776) : Ev (fun k => impl_allIn.f k l a b) (allIn a b l) := by
 have := implAll_l a b l [] h
 exact this
end Go.Proofs.Ytklecgkjoofipaa.P

namespace Go.Proofs.Ytklecgkjoofipaa.P
open Go.RowKit Go.Proofs.YtklecgkjoofipaaW.PrintWords Go.Proofs.YtklecgkjoofipaaW.PrintLast
set_option linter.unusedVariables false
set_option linter.unusedSimpArgs false
def isEdge (m : Int) (x : S67) : Bool := decide (0 ≤ x.f0 ∧ x.f0 ≤ m ∧ 0 ≤ x.f1 ∧ x.f1 ≤ m ∧ x.f0 < x.f1 ∧ 1 ≤ x.f2 ∧ x.f2 ≤ 100)
def edgeLt (y x : S67) : Bool := decide (y.f0 < x.f0 ∨ y.f0 = x.f0 ∧ y.f1 < x.f1)
def goodEF (m : Int) : Option S67 → List S67 → Bool
 | _, [] => true
 | none, x :: r => isEdge m x && goodEF m (some x) r
 | some y, x :: r => isEdge m x && (edgeLt y x && goodEF m (some x) r)
def goodE (n : Int) (l : List S67) : Bool := goodEF (wrap64 (n - 1)) none l && (decide (1 ≤ n ∧ n ≤ 12) && decide (l.length ≤ 40))
theorem isEdge_iff (m : Int) (x : S67) : isEdge m x = true ↔ (0 ≤ x.f0 ∧ x.f0 ≤ m ∧ 0 ≤ x.f1 ∧ x.f1 ≤ m ∧ x.f0 < x.f1 ∧ 1 ≤ x.f2 ∧ x.f2 ≤ 100) := by unfold isEdge; simp only [decide_eq_true_eq]
theorem specGoodE_l (n : Int) (suf : List S67) : ∀ (pre : List S67), (pre.length : Int) + suf.length ≤ 1099511627776 →
  Ev (fun k => spec_GoodEdges.l0 k n (pre ++ suf) (pre ++ suf) ((pre ++ suf).length : Int) (pre.length : Int)) (goodEF (wrap64 (n - 1)) pre.getLast? suf && (decide (1 ≤ n ∧ n ≤ 12) && decide ((pre ++ suf).length ≤ 40))) := by
 induction suf with
 | nil =>
  intro pre hb
  refine Ev.succ ?_
  simp only [spec_GoodEdges.l0]
  simp only [if_neg (show ¬ (pre.length : Int) < ((pre ++ ([] : List S67)).length : Int) by simp), specIn, Option.bind_some]
  have : goodEF (wrap64 (n - 1)) pre.getLast? [] = true := by cases pre.getLast? <;> rfl
  rw [this, Bool.true_and]
  by_cases h : 1 ≤ n ∧ n ≤ 12
  ·simp only [h, and_self, decide_true, if_true, Bool.true_and]
   refine Ev.some_ ?_
   congr 1
   simp only [eq_iff_iff]
   omega
  ·simp only [h, decide_false, Bool.false_eq_true, if_false, Bool.false_and]
   exact Ev.now _
 | cons x suf ih =>
  intro pre hb
  simp only [List.length_cons] at hb
  have c1 : (pre.length : Int) < ((pre ++ x :: suf).length : Int) := by simp <;> omega
  have c0 : (0 : Int) ≤ (pre.length : Int) := by omega
  have h := ih (pre ++ [x]) (by simp <;> omega)
  rw [← app_one, len_one, List.getLast?_concat] at h
  refine Ev.succ ?_
  simp only [spec_GoodEdges.l0]
  simp only [if_pos c1, if_pos c0, rdEdge_mid, specIn, Option.bind_some]
  generalize wrap64 (n - 1) = m at h ⊢
  generalize hfin : (decide (1 ≤ n ∧ n ≤ 12) && decide ((pre ++ x :: suf).length ≤ 40)) = fin at h ⊢
  have bad : ∀ (b : Bool), isEdge m x = false → b = true → Ev (fun k => spec_GoodEdges.j1 k n (pre ++ x :: suf) (pre.length : Int) (pre ++ x :: suf) ((pre ++ x :: suf).length : Int) (pre.length : Int) b x.f0 x.f1 x.f2) (goodEF m pre.getLast? (x :: suf) && fin) := by
   intro b he hb
   refine Ev.succ ?_
   simp only [spec_GoodEdges.j1, hb, if_true]
   refine Ev.some_ ?_
   cases pre.getLast? <;> simp [goodEF, he]
  by_cases h1 : 0 ≤ x.f0 ∧ x.f0 ≤ m
  ·simp only [h1, and_self, decide_true, if_true]
   by_cases h2 : 0 ≤ x.f1 ∧ x.f1 ≤ m
   ·simp only [h2, and_self, decide_true, if_true]
    by_cases h3 : x.f0 ≥ x.f1
    ·simp only [if_pos h3]
     refine bad true ?_ rfl
     unfold isEdge; simp only [decide_eq_false_iff_not]; omega
    ·simp only [if_neg h3]
     by_cases h4 : 1 ≤ x.f2 ∧ x.f2 ≤ 100
     ·have he : isEdge m x = true := by rw [isEdge_iff]; omega
      simp only [h4, and_self, decide_true, Bool.not_true]
      refine Ev.succ ?_
      simp only [spec_GoodEdges.j1, Bool.false_eq_true, if_false]
      rw [wrap_id (x := (pre.length : Int) + 1) (by omega) (by omega)]
      rcases nil_or_snoc pre with rfl | ⟨pre', y, rfl⟩
      ·simp only [if_neg (show ¬ (([] : List S67).length : Int) > 0 by simp)]
       have e : goodEF m ([] : List S67).getLast? (x :: suf) = goodEF m (some x) suf := by simp [goodEF, he]
       rw [e]
       exact h
      ·have hy : rd_T67 ((pre' ++ [y]) ++ x :: suf) (((pre' ++ [y]).length : Int) - 1) = y := by
        rw [show ((pre' ++ [y]) ++ x :: suf) = pre' ++ y :: (x :: suf) by simp, show (((pre' ++ [y]).length : Int) - 1) = (pre'.length : Int) by simp]
        exact rdEdge_mid _ _ _
       have q0 : (((pre' ++ [y]).length : Int)) > 0 := by simp <;> omega
       rw [wrap_id (x := ((pre' ++ [y]).length : Int) - 1) (by omega) (by omega)]
       simp only [if_pos q0, if_pos (show 0 ≤ ((pre' ++ [y]).length : Int) - 1 by omega), if_pos (show ((pre' ++ [y]).length : Int) - 1 < (((pre' ++ [y]) ++ x :: suf).length : Int) by omega), hy]
       have e : goodEF m (pre' ++ [y]).getLast? (x :: suf) = (edgeLt y x && goodEF m (some x) suf) := by simp [goodEF, he]
       rw [e]
       by_cases g1 : y.f0 > x.f0
       ·simp only [if_pos g1]
        refine Ev.some_ ?_
        have : edgeLt y x = false := by unfold edgeLt; simp only [decide_eq_false_iff_not]; omega
        rw [this]; rfl
       ·simp only [if_neg g1]
        by_cases g2 : y.f0 = x.f0
        ·simp only [if_pos g2]
         by_cases g3 : y.f1 ≥ x.f1
         ·simp only [if_pos g3]
          refine Ev.some_ ?_
          have : edgeLt y x = false := by unfold edgeLt; simp only [decide_eq_false_iff_not]; omega
          rw [this]; rfl
         ·simp only [if_neg g3]
          have : edgeLt y x = true := by unfold edgeLt; simp only [decide_eq_true_eq]; omega
          rw [this, Bool.true_and]
          exact h
        ·simp only [if_neg g2]
         have : edgeLt y x = true := by unfold edgeLt; simp only [decide_eq_true_eq]; omega
         rw [this, Bool.true_and]
         exact h
     ·simp only [h4, decide_false, Bool.not_false]
      refine bad true ?_ rfl
      unfold isEdge; simp only [decide_eq_false_iff_not]; omega
   ·simp only [h2, decide_false, Bool.false_eq_true, if_false]
    refine bad true ?_ rfl
    unfold isEdge; simp only [decide_eq_false_iff_not]; omega
  ·simp only [h1, decide_false, Bool.false_eq_true, if_false]
   refine bad true ?_ rfl
   unfold isEdge; simp only [decide_eq_false_iff_not]; omega
theorem specGoodE_ev (n : Int) (l : List S67) (hl : l.length ≤ 1048576) : Ev (fun k => spec_GoodEdges.f k n l) (goodE n l) := by
 unfold spec_GoodEdges.f
 exact specGoodE_l n l [] (by simp <;> omega)
theorem implGoodE_l (n : Int) (hm : wrap64 (n - 1) ≤ 9223372036854775807) (suf : List S67) : ∀ (pre : List S67), (pre.length : Int) + suf.length ≤ 1099511627776 → (∀ y, pre.getLast? = some y → isEdge (wrap64 (n - 1)) y = true) →
  Ev (fun k => impl_GoodEdges.l0 k n (pre ++ suf) (pre ++ suf) ((pre ++ suf).length : Int) (pre.length : Int)) (goodEF (wrap64 (n - 1)) pre.getLast? suf && (decide (1 ≤ n ∧ n ≤ 12) && decide ((pre ++ suf).length ≤ 40))) := by
 induction suf with
 | nil =>
  intro pre hb _
  refine Ev.succ ?_
  simp only [impl_GoodEdges.l0]
  simp only [if_neg (show ¬ (pre.length : Int) < ((pre ++ ([] : List S67)).length : Int) by simp), impl_isSpots.f, implIn, Option.bind_some]
  have : goodEF (wrap64 (n - 1)) pre.getLast? [] = true := by cases pre.getLast? <;> rfl
  rw [this, Bool.true_and]
  by_cases h : 1 ≤ n ∧ n ≤ 12
  ·simp only [h, and_self, decide_true, if_true, Bool.true_and]
   refine Ev.some_ ?_
   congr 1
   simp only [eq_iff_iff]
   omega
  ·simp only [h, decide_false, Bool.false_eq_true, if_false, Bool.false_and]
   exact Ev.now _
 | cons x suf ih =>
  intro pre hb hlast
  simp only [List.length_cons] at hb
  have c1 : (pre.length : Int) < ((pre ++ x :: suf).length : Int) := by simp <;> omega
  have c0 : (0 : Int) ≤ (pre.length : Int) := by omega
  have h := ih (pre ++ [x]) (by simp <;> omega)
  rw [← app_one, len_one, List.getLast?_concat] at h
  refine Ev.succ ?_
  simp only [impl_GoodEdges.l0]
  simp only [if_pos c1, if_pos c0, rdEdge_mid, implIn, Option.bind_some]
  generalize wrap64 (n - 1) = m at h hm hlast ⊢
  generalize hfin : (decide (1 ≤ n ∧ n ≤ 12) && decide ((pre ++ x :: suf).length ≤ 40)) = fin at h ⊢
  have bad : isEdge m x = false → Ev (fun k => some false) (goodEF m pre.getLast? (x :: suf) && fin) := by
   intro he
   refine Ev.some_ ?_
   cases pre.getLast? <;> simp [goodEF, he]
  by_cases h1 : 0 ≤ x.f0 ∧ x.f0 ≤ m
  ·simp only [h1, and_self, decide_true, if_true]
   by_cases h2 : 0 ≤ x.f1 ∧ x.f1 ≤ m
   ·simp only [h2, and_self, decide_true, if_true]
    by_cases h3 : x.f0 ≥ x.f1
    ·simp only [if_pos h3]
     refine bad ?_
     unfold isEdge; simp only [decide_eq_false_iff_not]; omega
    ·simp only [if_neg h3]
     by_cases h4 : 1 ≤ x.f2 ∧ x.f2 ≤ 100
     ·have he : isEdge m x = true := by rw [isEdge_iff]; omega
      have h := h (fun y hy => by cases hy; exact he)
      simp only [h4, and_self, decide_true, if_true]
      rw [wrap_id (x := (pre.length : Int) + 1) (by omega) (by omega)]
      rcases nil_or_snoc pre with rfl | ⟨pre', y, rfl⟩
      ·simp only [if_neg (show ¬ (([] : List S67).length : Int) > 0 by simp)]
       have e : goodEF m ([] : List S67).getLast? (x :: suf) = goodEF m (some x) suf := by simp [goodEF, he]
       rw [e]
       exact h
      ·have hy : rd_T67 ((pre' ++ [y]) ++ x :: suf) (((pre' ++ [y]).length : Int) - 1) = y := by
        rw [show ((pre' ++ [y]) ++ x :: suf) = pre' ++ y :: (x :: suf) by simp, show (((pre' ++ [y]).length : Int) - 1) = (pre'.length : Int) by simp]
        exact rdEdge_mid _ _ _
       have hye := (isEdge_iff m y).1 (hlast y (by simp))
       have hxe := (isEdge_iff m x).1 he
       have q0 : (((pre' ++ [y]).length : Int)) > 0 := by simp <;> omega
       rw [wrap_id (x := ((pre' ++ [y]).length : Int) - 1) (by omega) (by omega)]
       simp only [if_pos q0, if_pos (show 0 ≤ ((pre' ++ [y]).length : Int) - 1 by omega), if_pos (show ((pre' ++ [y]).length : Int) - 1 < (((pre' ++ [y]) ++ x :: suf).length : Int) by omega), hy]
       have e : goodEF m (pre' ++ [y]).getLast? (x :: suf) = (edgeLt y x && goodEF m (some x) suf) := by simp [goodEF, he]
       rw [e]
       have eb : impl_byEnds.f y.f0 y.f1 y.f2 x.f0 x.f1 x.f2 = some (if y.f0 = x.f0 then y.f1 - x.f1 else y.f0 - x.f0) := by
        unfold impl_byEnds.f
        split
        ·rw [wrap_id (by omega) (by omega)]
        ·rw [wrap_id (by omega) (by omega)]
       simp only [eb, Option.bind_some]
       by_cases g : edgeLt y x = true
       ·have g' : (y.f0 < x.f0 ∨ y.f0 = x.f0 ∧ y.f1 < x.f1) := by unfold edgeLt at g; simpa only [decide_eq_true_eq] using g
        rw [g, Bool.true_and]
        simp only [if_neg (show ¬ (if y.f0 = x.f0 then y.f1 - x.f1 else y.f0 - x.f0) ≥ 0 by split <;> omega)]
        exact h
       ·have g' : ¬ (y.f0 < x.f0 ∨ y.f0 = x.f0 ∧ y.f1 < x.f1) := by unfold edgeLt at g; simpa only [decide_eq_true_eq] using g
        simp only [if_pos (show (if y.f0 = x.f0 then y.f1 - x.f1 else y.f0 - x.f0) ≥ 0 by split <;> omega)]
        refine Ev.some_ ?_
        rw [Bool.not_eq_true] at g
        rw [g]; rfl
     ·simp only [h4, decide_false, Bool.false_eq_true, if_false]
      refine bad ?_
      unfold isEdge; simp only [decide_eq_false_iff_not]; omega
   ·simp only [h2, decide_false, Bool.false_eq_true, if_false]
    refine bad ?_
    unfold isEdge; simp only [decide_eq_false_iff_not]; omega
  ·simp only [h1, decide_false, Bool.false_eq_true, if_false]
   refine bad ?_
   unfold isEdge; simp only [decide_eq_false_iff_not]; omega
theorem wrap_top (x : Int) : -9223372036854775808 ≤ wrap64 x ∧ wrap64 x ≤ 9223372036854775807 := by unfold wrap64; omega
theorem implGoodE_ev (n : Int) (l : List S67) (hl : l.length ≤ 1048576) : Ev (fun k => impl_GoodEdges.f k n l) (goodE n l) := by
 unfold impl_GoodEdges.f
 exact implGoodE_l n (wrap_top _).2 l [] (by simp <;> omega) (fun y hy => by simp at hy)
/-- What good edges are. -/
theorem goodE_n {n : Int} {l : List S67} (h : goodE n l = true) : 1 ≤ n ∧ n ≤ 12 ∧ l.length ≤ 40 := by
 unfold goodE at h
 simp only [Bool.and_eq_true, decide_eq_true_eq] at h
 exact ⟨h.2.1.1, h.2.1.2, h.2.2⟩
theorem goodEF_all {m : Int} : ∀ (l : List S67) (o : Option S67), goodEF m o l = true → ∀ x ∈ l, isEdge m x = true
 | [], _, _, x, hx => by simp at hx
 | y :: r, o, h, x, hx => by
  have h2 : isEdge m y = true ∧ goodEF m (some y) r = true := by
   cases o with
   | none => simpa [goodEF] using h
   | some z =>
    simp only [goodEF, Bool.and_eq_true] at h
    exact ⟨h.1, h.2.2⟩
  rcases List.mem_cons.1 hx with rfl | hx
  ·exact h2.1
  ·exact goodEF_all r _ h2.2 x hx
theorem goodE_edge {n : Int} {l : List S67} (h : goodE n l = true) : ∀ x ∈ l, 0 ≤ x.f0 ∧ x.f0 < x.f1 ∧ x.f1 < n ∧ 1 ≤ x.f2 ∧ x.f2 ≤ 100 := by
 have hn := goodE_n h
 intro x hx
 unfold goodE at h
 simp only [Bool.and_eq_true] at h
 have := (isEdge_iff _ _).1 (goodEF_all l none h.1 x hx)
 rw [wrap_id (by omega) (by omega)] at this
 omega
theorem goodEF_rise {m : Int} : ∀ (l : List S67) (y : S67), goodEF m (some y) l = true → ∀ x ∈ l, (y.f0 < x.f0 ∨ y.f0 = x.f0 ∧ y.f1 < x.f1)
 | [], _, _, x, hx => by simp at hx
 | a :: r, y, h, x, hx => by
  simp only [goodEF, Bool.and_eq_true, edgeLt, decide_eq_true_eq] at h
  rcases List.mem_cons.1 hx with rfl | hx
  ·exact h.2.1
  ·have := goodEF_rise r a h.2.2 x hx
   omega
theorem goodEF_pair {m : Int} : ∀ (l : List S67) (o : Option S67), goodEF m o l = true → l.Pairwise (fun y x => y.f0 < x.f0 ∨ y.f0 = x.f0 ∧ y.f1 < x.f1)
 | [], _, _ => List.Pairwise.nil
 | y :: r, o, h => by
  have h2 : goodEF m (some y) r = true := by
   cases o with
   | none => simp only [goodEF, Bool.and_eq_true] at h; exact h.2
   | some z => simp only [goodEF, Bool.and_eq_true] at h; exact h.2.2
  exact List.Pairwise.cons (goodEF_rise r y h2) (goodEF_pair r _ h2)
theorem goodE_pair {n : Int} {l : List S67} (h : goodE n l = true) : l.Pairwise (fun y x => y.f0 < x.f0 ∨ y.f0 = x.f0 ∧ y.f1 < x.f1) := by
 unfold goodE at h
 simp only [Bool.and_eq_true] at h
 exact goodEF_pair l none h.1
end Go.Proofs.Ytklecgkjoofipaa.P

namespace Go.Proofs.Ytklecgkjoofipaa.P
open Go.RowKit Go.Proofs.YtklecgkjoofipaaW.PrintWords Go.Proofs.YtklecgkjoofipaaW.PrintLast
set_option linter.unusedVariables false
set_option linter.unusedSimpArgs false
def at_ (out : List Int) (v : Nat) : Int := out.getD v 0
def stepG (out : List Int) (e : Nat × Nat) : List Int := (out.set e.1 (min (at_ out e.1) (at_ out e.2))).set e.2 (min (at_ out e.1) (at_ out e.2))
def roundG (E : List (Nat × Nat)) (out : List Int) : List Int := E.foldl stepG out
def iterG (E : List (Nat × Nat)) (out : List Int) : Nat → List Int
 | 0 => out
 | k + 1 => roundG E (iterG E out k)
def InG (n : Nat) (E : List (Nat × Nat)) : Prop := ∀ e ∈ E, e.1 < n ∧ e.2 < n
inductive Conn (E : List (Nat × Nat)) : Nat → Nat → Prop
 | refl (v : Nat) : Conn E v v
 | fwd {v a b : Nat} : Conn E v a → (a, b) ∈ E → Conn E v b
 | bwd {v a b : Nat} : Conn E v b → (a, b) ∈ E → Conn E v a
theorem Conn.trans {E : List (Nat × Nat)} {u v w : Nat} (h : Conn E u v) (k : Conn E v w) : Conn E u w := by
 induction k with
 | refl => exact h
 | fwd _ he ih => exact .fwd ih he
 | bwd _ he ih => exact .bwd ih he
theorem Conn.symm {E : List (Nat × Nat)} {u v : Nat} (h : Conn E u v) : Conn E v u := by
 induction h with
 | refl => exact .refl _
 | fwd _ he ih => exact (Conn.bwd (.refl _) he).trans ih
 | bwd _ he ih => exact (Conn.fwd (.refl _) he).trans ih
theorem Conn.lt {n : Nat} {E : List (Nat × Nat)} (hE : InG n E) {u v : Nat} (h : Conn E u v) (hu : u < n) : v < n := by
 induction h with
 | refl => exact hu
 | fwd _ he _ => exact (hE _ he).2
 | bwd _ he _ => exact (hE _ he).1
theorem stepG_len (out : List Int) (e : Nat × Nat) : (stepG out e).length = out.length := by simp [stepG]
theorem at_set (out : List Int) (a v : Nat) (x : Int) (ha : a < out.length) : at_ (out.set a x) v = if v = a then x else at_ out v := by
 unfold at_
 rw [List.getD_eq_getElem?_getD, List.getD_eq_getElem?_getD]
 by_cases h : v = a
 ·subst h; rw [List.getElem?_set_self ha, if_pos rfl]; rfl
 ·rw [List.getElem?_set_ne (fun e => h e.symm), if_neg h]
theorem stepG_at (out : List Int) (e : Nat × Nat) (h1 : e.1 < out.length) (h2 : e.2 < out.length) (v : Nat) : at_ (stepG out e) v = if v = e.1 ∨ v = e.2 then min (at_ out e.1) (at_ out e.2) else at_ out v := by
 unfold stepG
 rw [at_set _ _ _ _ (by simpa using h2), at_set _ _ _ _ h1]
 by_cases h : v = e.2
 ·simp [h]
 ·by_cases h' : v = e.1 <;> simp [h, h']
theorem stepG_le (out : List Int) (e : Nat × Nat) (h1 : e.1 < out.length) (h2 : e.2 < out.length) (v : Nat) : at_ (stepG out e) v ≤ at_ out v := by
 rw [stepG_at out e h1 h2]
 split
 ·rename_i h
  rcases h with rfl | rfl <;> omega
 ·exact Int.le_refl _
theorem roundG_len : ∀ (E : List (Nat × Nat)) (out : List Int), (roundG E out).length = out.length
 | [], _ => rfl
 | e :: E, out => by
  show (roundG E (stepG out e)).length = _
  rw [roundG_len E, stepG_len]
theorem roundG_le : ∀ (E : List (Nat × Nat)) (out : List Int), InG out.length E → ∀ v, at_ (roundG E out) v ≤ at_ out v
 | [], _, _, v => Int.le_refl _
 | e :: E, out, h, v => by
  have he := h e (by simp)
  have h1 := roundG_le E (stepG out e) (by rw [stepG_len]; exact fun x hx => h x (by simp [hx])) v
  have h2 := stepG_le out e he.1 he.2 v
  show at_ (roundG E (stepG out e)) v ≤ _
  omega
/-- Behind a round both ends of an edge have no more than either had. -/
theorem roundG_edge : ∀ (E : List (Nat × Nat)) (out : List Int), InG out.length E → ∀ a b, (a, b) ∈ E → at_ (roundG E out) a ≤ at_ out b ∧ at_ (roundG E out) b ≤ at_ out a
 | [], _, _, a, b, h => by simp at h
 | e :: E, out, h, a, b, hab => by
  have he := h e (by simp)
  have hE : InG (stepG out e).length E := by rw [stepG_len]; exact fun x hx => h x (by simp [hx])
  show at_ (roundG E (stepG out e)) a ≤ _ ∧ at_ (roundG E (stepG out e)) b ≤ _
  rcases List.mem_cons.1 hab with rfl | hab
  ·have ha := roundG_le E (stepG out (a, b)) hE a
   have hb := roundG_le E (stepG out (a, b)) hE b
   rw [stepG_at out (a, b) he.1 he.2] at ha hb
   simp only [true_or, or_true, if_true] at ha hb
   omega
  ·have h1 := roundG_edge E (stepG out e) hE a b hab
   have h2 := stepG_le out e he.1 he.2 a
   have h3 := stepG_le out e he.1 he.2 b
   omega
theorem iterG_len (E : List (Nat × Nat)) (out : List Int) : ∀ k, (iterG E out k).length = out.length
 | 0 => rfl
 | k + 1 => by simp only [iterG]; rw [roundG_len, iterG_len E out k]
/-- Each label is a spot that is joined. -/
def LabG (E : List (Nat × Nat)) (out : List Int) : Prop := ∀ v, v < out.length → ∃ u : Nat, at_ out v = u ∧ Conn E v u
theorem stepG_lab {E : List (Nat × Nat)} {out : List Int} (e : Nat × Nat) (he : e ∈ E) (h1 : e.1 < out.length) (h2 : e.2 < out.length) (h : LabG E out) : LabG E (stepG out e) := by
 intro v hv
 rw [stepG_len] at hv
 rw [stepG_at out e h1 h2]
 split
 ·rename_i hve
  obtain ⟨x, y⟩ := e
  obtain ⟨u1, e1, c1⟩ := h x h1
  obtain ⟨u2, e2, c2⟩ := h y h2
  have cxy : Conn E x y := .fwd (.refl _) he
  have cv : Conn E v x ∧ Conn E v y := by
   rcases hve with rfl | rfl
   ·exact ⟨.refl _, cxy⟩
   ·exact ⟨cxy.symm, .refl _⟩
  simp only
  rw [e1, e2]
  rcases Int.le_total (u1 : Int) u2 with hle | hle
  ·exact ⟨u1, by omega, cv.1.trans c1⟩
  ·exact ⟨u2, by omega, cv.2.trans c2⟩
 ·exact h v hv
theorem foldl_lab {E : List (Nat × Nat)} : ∀ (D : List (Nat × Nat)) (out : List Int), (∀ e ∈ D, e ∈ E) → InG out.length D → LabG E out → LabG E (D.foldl stepG out)
 | [], _, _, _, h => h
 | e :: D, out, hD, hin, h => by
  have he := hin e (by simp)
  exact foldl_lab D (stepG out e) (fun x hx => hD x (by simp [hx])) (by rw [stepG_len]; exact fun x hx => hin x (by simp [hx])) (stepG_lab e (hD e (by simp)) he.1 he.2 h)
theorem iterG_lab {E : List (Nat × Nat)} {out : List Int} (hin : InG out.length E) (h : LabG E out) : ∀ k, LabG E (iterG E out k)
 | 0 => h
 | k + 1 => foldl_lab E _ (fun _ he => he) (by rw [iterG_len]; exact hin) (iterG_lab hin h k)
/-- How many spots have at most m. -/
def cntG (out : List Int) (m : Int) : Nat := (List.range out.length).countP fun v => decide (at_ out v ≤ m)
theorem countP_mono {α : Type} (p q : α → Bool) (l : List α) (h : ∀ x ∈ l, p x = true → q x = true) : l.countP p ≤ l.countP q := List.countP_mono_left h
theorem countP_lt {α : Type} (p q : α → Bool) : ∀ (l : List α), (∀ x ∈ l, p x = true → q x = true) → (∃ x ∈ l, p x = false ∧ q x = true) → l.countP p < l.countP q
 | [], _, ⟨x, hx, _⟩ => by simp at hx
 | y :: l, h, ⟨x, hx, hp, hq⟩ => by
  have h1 := countP_mono p q l (fun z hz => h z (by simp [hz]))
  rw [List.countP_cons, List.countP_cons]
  rcases List.mem_cons.1 hx with rfl | hx
  ·simp only [hp, hq, if_true, Bool.false_eq_true, if_false]
   omega
  ·have h2 := countP_lt p q l (fun z hz => h z (by simp [hz])) ⟨x, hx, hp, hq⟩
   have h3 := h y (by simp)
   cases hy : p y with
   | false => simp only [Bool.false_eq_true, if_false]; omega
   | true => simp only [h3 hy, if_true]; omega
/-- The spots that have at most m: all that are joined with m, or they grow. -/
theorem spread_one {E : List (Nat × Nat)} {out : List Int} (hin : InG out.length E) (m : Nat) (hm : at_ out m ≤ m) (hmn : m < out.length) :
  (∀ v, Conn E m v → at_ out v ≤ m) ∨ cntG out m < cntG (roundG E out) m := by
 by_cases hc : ∀ a b, (a, b) ∈ E → (at_ out a ≤ m ↔ at_ out b ≤ m)
 ·left
  intro v hv
  induction hv with
  | refl => exact hm
  | fwd _ he ih => exact (hc _ _ he).1 ih
  | bwd _ he ih => exact (hc _ _ he).2 ih
 ·right
  have hc2 : ∃ a b, (a, b) ∈ E ∧ ¬ (at_ out a ≤ m ↔ at_ out b ≤ m) := Classical.byContradiction fun hn => hc fun a b he => Classical.byContradiction fun h => hn ⟨a, b, he, h⟩
  obtain ⟨a, b, he, hne⟩ := hc2
  have hlen := roundG_len E out
  unfold cntG
  rw [hlen]
  have hab := hin _ he
  have hr := roundG_edge E out hin a b he
  refine countP_lt _ _ _ (fun v _ hv => ?_) ?_
  ·simp only [decide_eq_true_eq] at hv ⊢
   have := roundG_le E out hin v
   omega
  ·by_cases ha : at_ out a ≤ m
   ·have hb : ¬ at_ out b ≤ m := fun hb => hne ⟨fun _ => hb, fun _ => ha⟩
    exact ⟨b, List.mem_range.2 hab.2, by simpa using hb, by simp only [decide_eq_true_eq]; omega⟩
   ·have hb : at_ out b ≤ m := Classical.byContradiction fun hb => hne ⟨fun h => absurd h ha, fun h => absurd h hb⟩
    exact ⟨a, List.mem_range.2 hab.1, by simpa using ha, by simp only [decide_eq_true_eq]; omega⟩
theorem iterG_le {E : List (Nat × Nat)} {out : List Int} (hin : InG out.length E) (v : Nat) (k : Nat) : at_ (iterG E out (k + 1)) v ≤ at_ (iterG E out k) v :=
 roundG_le E _ (by rw [iterG_len]; exact hin) v
theorem spread_all {E : List (Nat × Nat)} {out : List Int} (hin : InG out.length E) (m : Nat) (hm : at_ out m ≤ m) (hmn : m < out.length) : ∀ k, at_ (iterG E out k) m ≤ m ∧ ((∀ v, Conn E m v → at_ (iterG E out k) v ≤ m) ∨ k + 1 ≤ cntG (iterG E out k) m)
 | 0 => by
  refine ⟨hm, .inr ?_⟩
  have : 0 < cntG out m := by
   unfold cntG
   rw [List.countP_pos_iff]
   exact ⟨m, List.mem_range.2 hmn, by simpa using hm⟩
  show 0 + 1 ≤ cntG out m
  omega
 | k + 1 => by
  obtain ⟨h1, h2⟩ := spread_all hin m hm hmn k
  have hin2 : InG (iterG E out k).length E := by rw [iterG_len]; exact hin
  refine ⟨Int.le_trans (iterG_le hin m k) h1, ?_⟩
  rcases h2 with h2 | h2
  ·exact .inl fun v hv => Int.le_trans (iterG_le hin v k) (h2 v hv)
  ·rcases spread_one hin2 m h1 (by rw [iterG_len]; exact hmn) with h3 | h3
   ·exact .inl fun v hv => Int.le_trans (iterG_le hin v k) (h3 v hv)
   ·right
    show k + 1 + 1 ≤ cntG (roundG E (iterG E out k)) m
    omega
theorem spread_done {E : List (Nat × Nat)} {out : List Int} (hin : InG out.length E) (m : Nat) (hm : at_ out m ≤ m) (hmn : m < out.length) {k : Nat} (hk : out.length ≤ k + 1) : ∀ v, Conn E m v → at_ (iterG E out k) v ≤ m := by
 rcases (spread_all hin m hm hmn k).2 with h | h
 ·exact h
 ·intro v hv
  refine Classical.byContradiction fun hn => ?_
  have hv2 := hv.lt hin hmn
  have : cntG (iterG E out k) m < (List.range out.length).countP (fun _ => true) := by
   unfold cntG
   rw [iterG_len]
   refine countP_lt _ _ _ (fun _ _ _ => rfl) ⟨v, List.mem_range.2 hv2, by simpa using hn, rfl⟩
  rw [show (List.range out.length).countP (fun _ => true) = out.length by simp] at this
  omega
/-- The spots' own numbers. -/
def own0 (n : Nat) : List Int := (List.range n).map fun (i : Nat) => (i : Int)
theorem own0_len (n : Nat) : (own0 n).length = n := by simp [own0]
theorem own0_at {n v : Nat} (h : v < n) : at_ (own0 n) v = v := by
 unfold at_ own0
 rw [List.getD_eq_getElem?_getD, List.getElem?_map, List.getElem?_range h]
 rfl
/-- The groups: to each spot the least one that edges lead to from it. -/
def grp (n : Nat) (E : List (Nat × Nat)) : List Int := iterG E (own0 n) n
theorem grp_len (n : Nat) (E : List (Nat × Nat)) : (grp n E).length = n := by unfold grp; rw [iterG_len, own0_len]
theorem grp_ok {n : Nat} {E : List (Nat × Nat)} (hE : InG n E) {v : Nat} (hv : v < n) : ∃ u : Nat, at_ (grp n E) v = u ∧ Conn E v u ∧ u < n ∧ ∀ m, Conn E v m → u ≤ m := by
 have hin : InG (own0 n).length E := by rw [own0_len]; exact hE
 have hlab : LabG E (own0 n) := fun v hv => by
  rw [own0_len] at hv
  exact ⟨v, own0_at hv, .refl _⟩
 obtain ⟨u, e, c⟩ := iterG_lab hin hlab n v (by rw [iterG_len, own0_len]; exact hv)
 refine ⟨u, e, c, c.lt hE hv, fun m hm => ?_⟩
 have hmn := hm.lt hE hv
 have := spread_done hin m (by rw [own0_at hmn]; exact Int.le_refl _) (by rw [own0_len]; exact hmn) (k := n) (by rw [own0_len]; omega) v hm.symm
 rw [e] at this
 omega
/-- From as many rounds on as there are spots nothing changes. -/
theorem iterG_fix {n : Nat} {E : List (Nat × Nat)} (hE : InG n E) : roundG E (grp n E) = grp n E := by
 have hin : InG (own0 n).length E := by rw [own0_len]; exact hE
 apply List.ext_getElem?
 intro v
 by_cases hv : v < n
 ·have l1 : v < (roundG E (grp n E)).length := by rw [roundG_len, grp_len]; exact hv
  have l2 : v < (grp n E).length := by rw [grp_len]; exact hv
  obtain ⟨u, e, c, hu, _⟩ := grp_ok hE hv
  have hlab : LabG E (own0 n) := fun v hv => by
   rw [own0_len] at hv
   exact ⟨v, own0_at hv, .refl _⟩
  obtain ⟨u2, e2, c2⟩ := iterG_lab hin hlab (n + 1) v (by rw [iterG_len, own0_len]; exact hv)
  have e2' : at_ (roundG E (grp n E)) v = u2 := e2
  obtain ⟨u3, e3, _, _, h3⟩ := grp_ok hE hv
  have h4 := roundG_le E (grp n E) (by rw [grp_len]; exact hE) v
  have h5 := h3 u2 c2
  have : at_ (roundG E (grp n E)) v = at_ (grp n E) v := by
   rw [e2', e3]
   rw [e2', e3] at h4
   omega
  unfold at_ at this
  rw [List.getD_eq_getElem?_getD, List.getD_eq_getElem?_getD, List.getElem?_eq_getElem l1, List.getElem?_eq_getElem l2] at this
  rw [List.getElem?_eq_getElem l1, List.getElem?_eq_getElem l2]
  exact congrArg some this
 ·rw [List.getElem?_eq_none (by rw [roundG_len, grp_len]; omega), List.getElem?_eq_none (by rw [grp_len]; omega)]
end Go.Proofs.Ytklecgkjoofipaa.P
