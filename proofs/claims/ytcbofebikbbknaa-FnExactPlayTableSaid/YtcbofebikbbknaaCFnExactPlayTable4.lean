/- Functions, walks and plain lemmas that the law FnExactPlayTable reaches, part 4. -/
import Derived.Test.YtcbofebikbbknaaCFnExactPlayTable3
import Derived.WalkKit
import Derived.ProofKit
import Derived.OpenShut
import Derived.ChangeOld
import Derived.Below
import Derived.SizedLaws
import Derived.ChangeArms
import Derived.DataElems
import Derived.Deep.Draws
import Derived.Deep.AppendLies
import Derived.Maps.AppendAt
import Derived.OwnWalk
import Derived.Laws.BytesArg
import Derived.Laws.MakeOwn
import Derived.Laws.OwnMore
import Derived.Deep.OwnRows
import Derived.Tactics
import Derived.Lib.ConvBytes
import Derived.Laws.Slices
import Derived.KernelRfl
import Derived.RowKit3
import Derived.Deep.LoopGhost
import Derived.Deep.QuietTactic
import Derived.BigQuiet
import Derived.WideLaws
import Derived.Deep.DeepCutAuto
import Derived.Deep.CutBlock
import Derived.Deep.RegionHeld3
import Derived.Laws.Rows
import Derived.Lib.AppendStr
import Derived.ArgAppend
import Derived.Laws.IdiomCopy
import Derived.OrdersHeld
import Derived.Laws.BitsLemmas
import Derived.RowKit
import Derived.WalkSpells
import Derived.Lib.SliceRun
import Derived.Shelf.Abstract
import Derived.ShutString
namespace Go.Proofs.Ytcbofebikbbknaa.P
open Go.RowKit Go.Proofs.YtcbofebikbbknaaW.PrintWords Go.Proofs.YtcbofebikbbknaaW.PrintLast Go.Proofs.YtcbofebikbbknaaW.PrintMore
attribute [local go_sem] max2_int min2_int max_two min_two max_three min_three max_four min_four   -- for this text's walks alone
set_option linter.unusedVariables false
set_option linter.unusedSimpArgs false
mutual
def laws_FnExactPlayTable.j0 : Nat → Int → List (S51) → Bool → List (S53) → Bool → Bool → Int → List (S53) → Int → List (S53) → Option (Bool)
 | 0, _, _, _, _, _, _, _, _, _, _ => none
 | k + 1, x0, x1, x7, x8, x10, x44, x506000, x506001, x515000, x515001 => if x44 = true then (some false) else ((laws_toSeenS.f k x1).bind fun t516 => ((laws_eqSeenS.f k x8 t516).bind fun t519 => (if t519 = true then ((laws_markSeenS.f k x8 1).bind fun bt520 => (if bt520.1 < 0 then (laws_FnExactPlayTable.j1 k x0 x1 x7 true x506000 x506001 x515000 x515001) else ((laws_eqTable.f k x515000 x515001 x506000 x506001).bind fun t522 => (if t522 = true then (laws_FnExactPlayTable.j1 k x0 x1 x7 (x10 != x7) x506000 x506001 x515000 x515001) else (laws_FnExactPlayTable.j1 k x0 x1 x7 true x506000 x506001 x515000 x515001))))) else (some false))))
def laws_FnExactPlayTable.j1 : Nat → Int → List (S51) → Bool → Bool → Int → List (S53) → Int → List (S53) → Option (Bool)
 | 0, _, _, _, _, _, _, _, _ => none
 | k + 1, x0, x1, x7, x65, x506000, x506001, x515000, x515001 => if x65 = true then (some false) else ((laws_markTable.f k x515000 x515001 1).bind fun bt523 => ((laws_heldTable.f k x515000 bt523.2 1).bind fun t525 => (if t525 < 0 then (some false) else (if t525 = bt523.1 then ((laws_toSeenS.f k x1).bind fun t526 => ((impl_PlayTable.f k x0 t526).bind fun bt529 => ((laws_eqTable.f k bt529.1 bt529.2.1 x506000 x506001).bind fun t535 => (if t535 = true then (laws_FnExactPlayTable.j2 k bt523.1 (bt529.2.2 != x7) x515000 bt523.2) else (laws_FnExactPlayTable.j2 k bt523.1 true x515000 bt523.2))))) else (some false)))))
def laws_FnExactPlayTable.j2 : Nat → Int → Bool → Int → List (S53) → Option (Bool)
 | 0, _, _, _, _ => none
 | k + 1, x12, x92, x515000, x515001 => if x92 = true then (some false) else ((laws_heldTable.f k x515000 x515001 1).bind fun t536 => (if t536 < 0 then (some false) else (if t536 = x12 then (some true) else (some false))))
end
def laws_FnExactPlayTable.f (k : Nat) (a0 : Int) (l1 : List (S51)) : Option (Bool) := (laws_szSeenS.f l1 1048576).bind fun t496 => (if t496 < 0 then (some true) else ((laws_toSeenS.f k l1).bind fun t497 => ((spec_PlayTable.f k a0 t497).bind fun bt500 => ((laws_toSeenS.f k l1).bind fun t506 => ((impl_PlayTable.f k a0 t506).bind fun bt509 => ((laws_eqTable.f k bt509.1 bt509.2.1 bt500.1 bt500.2.1).bind fun t515 => (if t515 = true then (laws_FnExactPlayTable.j0 k a0 l1 bt500.2.2 t506 bt509.2.2 (bt509.2.2 != bt500.2.2) bt500.1 bt500.2.1 bt509.1 bt509.2.1) else (laws_FnExactPlayTable.j0 k a0 l1 bt500.2.2 t506 bt509.2.2 true bt500.1 bt500.2.1 bt509.1 bt509.2.1))))))))
set_option maxHeartbeats 8000000 in
set_option maxRecDepth 100000 in
theorem laws_FnExactPlayTable.calls (k : Nat) (a0 : Int) (A1 : Option Addr) (c1 : Nat) (l1 : List (S51)) (r : Bool) (w : World) (hr1 : Kd.C k51 w A1 l1.length l1) (hc1 : l1.length ≤ c1) (h : laws_FnExactPlayTable.f k a0 l1 = some r) :
  Calls Try.prog 9 #[.int .i64 a0, .slice A1 l1.length c1] w fun e w' => e = .returned (.bool r) ∧ Below w.heap.size w w' := by
 have hu24 := Try.underlying24
 have HR1 := Aside0.mk hr1
 have HC1 := Aside0.mk hc1
 clear hr1 hc1
 have HB := Aside0.mk (Below.refl w.heap.size w)
 have H : ((laws_szSeenS.f l1 1048576).bind fun t496 => (if t496 < 0 then (some true) else ((laws_toSeenS.f k l1).bind fun t497 => ((spec_PlayTable.f k a0 t497).bind fun bt500 => ((laws_toSeenS.f k l1).bind fun t506 => ((impl_PlayTable.f k a0 t506).bind fun bt509 => ((laws_eqTable.f k bt509.1 bt509.2.1 bt500.1 bt500.2.1).bind fun t515 => (if t515 = true then (laws_FnExactPlayTable.j0 k a0 l1 bt500.2.2 t506 bt509.2.2 (bt509.2.2 != bt500.2.2) bt500.1 bt500.2.1 bt509.1 bt509.2.1) else (laws_FnExactPlayTable.j0 k a0 l1 bt500.2.2 t506 bt509.2.2 true bt500.1 bt500.2.1 bt509.1 bt509.2.1))))))))) = some r := h
 clear h
 replace H := Option.bind_eq_some_iff.mp H
 obtain ⟨t496, A30, H⟩ := H
 replace H : (if t496 < 0 then (some true) else ((laws_toSeenS.f k l1).bind fun t497 => ((spec_PlayTable.f k a0 t497).bind fun bt500 => ((laws_toSeenS.f k l1).bind fun t506 => ((impl_PlayTable.f k a0 t506).bind fun bt509 => ((laws_eqTable.f k bt509.1 bt509.2.1 bt500.1 bt500.2.1).bind fun t515 => (if t515 = true then (laws_FnExactPlayTable.j0 k a0 l1 bt500.2.2 t506 bt509.2.2 (bt509.2.2 != bt500.2.2) bt500.1 bt500.2.1 bt509.1 bt509.2.1) else (laws_FnExactPlayTable.j0 k a0 l1 bt500.2.2 t506 bt509.2.2 true bt500.1 bt500.2.1 bt509.1 bt509.2.1)))))))) = some r := H
 have A3 := Aside0.mk A30
 clear A30
 by_cases c4 : t496 < 0
 ·rw [if_pos c4] at H
  have c4b0 : decide (t496 < 0) = true := decide_eq_true c4
  clear c4
  obtain rfl := Option.some.inj H
  go_enter Try.func9, Try.ntmps9
  go_wp2_with (first | ((with_reducible refine gate_callee (f := 23) rfl ?_); refine goesL_ (some 18) rfl rfl Try.func23 (by kernel_rfl) rfl #[.slice A1 l1.length c1, .int .i64 1048576] rfl (by (try simp only [List.map_toArray, List.map_cons, List.map_nil]); first | done | rfl | (simp only [List.length_drop, List.length_take]; rfl)) ?_; (with_reducible refine (laws_szSeenS.calls _ _ l1 1048576 t496 _ ?side1 ?side2 A3.out).mono ?_); (case side1 => repeat (first | exact HR1.out | (with_reducible refine Kd.C_alloc ?_ _) | (with_reducible refine Kd.C_drewN ?_ _) | (with_reducible refine Kd.C_drew ?_))); (case side2 => exact HC1.out); rintro e w' ⟨rfl, ⟨nd, rfl⟩⟩; refine ⟨_, rfl, ?_⟩))
  go_ret
  exact ⟨by first | rfl | (simp [errW_none, errW_some] <;> rfl) | (simp [*, errW_none, errW_some] <;> rfl), by repeat (first | (with_reducible first | exact HB.out | apply below_alloc | apply pw_below_drewN | apply below_drew1) | exact HB.out)⟩
 ·rw [if_neg c4] at H
  have c4b0 : decide (t496 < 0) = false := decide_eq_false c4
  clear c4
  replace H := Option.bind_eq_some_iff.mp H
  obtain ⟨t497, A50, H⟩ := H
  replace H : ((spec_PlayTable.f k a0 t497).bind fun bt500 => ((laws_toSeenS.f k l1).bind fun t506 => ((impl_PlayTable.f k a0 t506).bind fun bt509 => ((laws_eqTable.f k bt509.1 bt509.2.1 bt500.1 bt500.2.1).bind fun t515 => (if t515 = true then (laws_FnExactPlayTable.j0 k a0 l1 bt500.2.2 t506 bt509.2.2 (bt509.2.2 != bt500.2.2) bt500.1 bt500.2.1 bt509.1 bt509.2.1) else (laws_FnExactPlayTable.j0 k a0 l1 bt500.2.2 t506 bt509.2.2 true bt500.1 bt500.2.1 bt509.1 bt509.2.1)))))) = some r := H
  have A5 := Aside0.mk A50
  clear A50
  replace H := Option.bind_eq_some_iff.mp H
  obtain ⟨⟨t500, t501, t504⟩, A60, H⟩ := H
  replace H : ((laws_toSeenS.f k l1).bind fun t506 => ((impl_PlayTable.f k a0 t506).bind fun bt509 => ((laws_eqTable.f k bt509.1 bt509.2.1 t500 t501).bind fun t515 => (if t515 = true then (laws_FnExactPlayTable.j0 k a0 l1 t504 t506 bt509.2.2 (bt509.2.2 != t504) t500 t501 bt509.1 bt509.2.1) else (laws_FnExactPlayTable.j0 k a0 l1 t504 t506 bt509.2.2 true t500 t501 bt509.1 bt509.2.1))))) = some r := H
  have A6 := Aside0.mk A60
  clear A60
  replace H := Option.bind_eq_some_iff.mp H
  obtain ⟨t506, A70, H⟩ := H
  replace H : ((impl_PlayTable.f k a0 t506).bind fun bt509 => ((laws_eqTable.f k bt509.1 bt509.2.1 t500 t501).bind fun t515 => (if t515 = true then (laws_FnExactPlayTable.j0 k a0 l1 t504 t506 bt509.2.2 (bt509.2.2 != t504) t500 t501 bt509.1 bt509.2.1) else (laws_FnExactPlayTable.j0 k a0 l1 t504 t506 bt509.2.2 true t500 t501 bt509.1 bt509.2.1)))) = some r := H
  have A7 := Aside0.mk A70
  clear A70
  replace H := Option.bind_eq_some_iff.mp H
  obtain ⟨⟨t509, t510, t513⟩, A80, H⟩ := H
  replace H : ((laws_eqTable.f k t509 t510 t500 t501).bind fun t515 => (if t515 = true then (laws_FnExactPlayTable.j0 k a0 l1 t504 t506 t513 (t513 != t504) t500 t501 t509 t510) else (laws_FnExactPlayTable.j0 k a0 l1 t504 t506 t513 true t500 t501 t509 t510))) = some r := H
  have A8 := Aside0.mk A80
  clear A80
  have HC9 := Aside0.mk H
  clear H
  go_enter Try.func9, Try.ntmps9
  go_upto_region 8 with (first | ((with_reducible refine gate_callee (f := 23) rfl ?_); refine goesL_ (some 18) rfl rfl Try.func23 (by kernel_rfl) rfl #[.slice A1 l1.length c1, .int .i64 1048576] rfl (by (try simp only [List.map_toArray, List.map_cons, List.map_nil]); first | done | rfl | (simp only [List.length_drop, List.length_take]; rfl)) ?_; (with_reducible refine (laws_szSeenS.calls _ _ l1 1048576 t496 _ ?side1 ?side2 A3.out).mono ?_); (case side1 => repeat (first | exact HR1.out | (with_reducible refine Kd.C_alloc ?_ _) | (with_reducible refine Kd.C_drewN ?_ _) | (with_reducible refine Kd.C_drew ?_))); (case side2 => exact HC1.out); rintro e w' ⟨rfl, ⟨nd, rfl⟩⟩; refine ⟨_, rfl, ?_⟩) | ((with_reducible refine gate_callee (f := 25) rfl ?_); refine goesL_ (some 24) rfl rfl Try.func25 (by kernel_rfl) rfl #[.slice A1 l1.length c1] rfl (by (try simp only [List.map_toArray, List.map_cons, List.map_nil]); first | done | rfl | (simp only [List.length_drop, List.length_take]; rfl)) ?_; (with_reducible refine (laws_toSeenS.calls k _ _ l1 t497 _ ?side1 ?side2 A5.out).mono ?_); (case side1 => repeat (first | exact HR1.out | (with_reducible refine Kd.C_alloc ?_ _) | (with_reducible refine Kd.C_drewN ?_ _) | (with_reducible refine Kd.C_drew ?_))); (case side2 => exact HC1.out); rintro e w10 ⟨v498, rfl, ho0, hb⟩; refine ⟨_, rfl, ?_⟩; have n0_ := Aside0.mk (Kd.R_lower ho0 (below_size (by repeat (first | (with_reducible first | exact HB.out | apply below_alloc | apply pw_below_drewN | apply below_drew1) | exact HB.out)))); have n1_ := Aside0.mk (below_step (by repeat (first | (with_reducible first | exact HB.out | apply below_alloc | apply pw_below_drewN | apply below_drew1) | exact HB.out)) hb); clear HB; have HO499 := n0_; have HB := n1_; clear n0_ n1_; (try clear hb); (try clear hb2); (try clear hk); (try clear hi); (try clear ho0); obtain ⟨Ao11, co11, eo11⟩ := Kd.R_slice HO499.out; subst eo11) | ((with_reducible refine gate_callee (f := 32) rfl ?_); refine goesL_ (some 25) rfl rfl Try.func32 (by kernel_rfl) rfl #[.int .i64 a0, .slice Ao11 t497.length co11] rfl (by (try simp only [List.map_toArray, List.map_cons, List.map_nil]); first | done | rfl | (simp only [List.length_drop, List.length_take]; rfl)) ?_; (with_reducible refine (spec_PlayTable.calls k a0 _ _ t497 t500 t501 t504 _ ?side1 ?side2 A6.out).mono ?_); (case side1 => repeat (first | exact (Kd.R_reads' HO499.out).2.2 | (with_reducible refine Kd.C_alloc ?_ _) | (with_reducible refine Kd.C_drewN ?_ _) | (with_reducible refine Kd.C_drew ?_))); (case side2 => exact (Kd.R_reads' HO499.out).2.1); rintro e w12 ⟨v502, rfl, ho0, hb⟩; refine ⟨_, rfl, ?_⟩; have n0_ := Aside0.mk (Kd.R_elder' (by (with_reducible repeat (first | apply Kd.R_alloc | apply Kd.R_drewN | apply Kd.R_drew)); exact HO499.out) (Kd.R_base ho0) hb); have n1_ := Aside0.mk (Kd.R_lower (Kd.R_new' ho0 (Kd.R_lt (by (with_reducible repeat (first | apply Kd.R_alloc | apply Kd.R_drewN | apply Kd.R_drew)); exact HO499.out))) (below_size (by repeat (first | (with_reducible first | exact HB.out | apply below_alloc | apply pw_below_drewN | apply below_drew1) | exact HB.out)))); have n2_ := Aside0.mk (below_step (by repeat (first | (with_reducible first | exact HB.out | apply below_alloc | apply pw_below_drewN | apply below_drew1) | exact HB.out)) hb); clear HO499; clear HB; have HO499 := n0_; have HO503 := n1_; have HB := n2_; clear n0_ n1_ n2_; (try clear hb); (try clear hb2); (try clear hk); (try clear hi); (try clear ho0)) | ((with_reducible refine gate_dst (N := 6) rfl ?_); refine box_event ?hg (N := 6) ?hd (cs := #[.int .i64 0, .slice none 0 0]) (t := 24) ?hr ?_; (case hd => rfl); (case hg => rfl); (case hr => first | (go_simp; done) | (go_simp; rfl)); intro gb505 hg w13 hbox hb; have n0_ := Aside0.mk (Kd.R_below (by (with_reducible repeat (first | apply Kd.R_alloc | apply Kd.R_drewN | apply Kd.R_drew)); exact HO499.out) hb); have n1_ := Aside0.mk (Kd.R_below (by (with_reducible repeat (first | apply Kd.R_alloc | apply Kd.R_drewN | apply Kd.R_drew)); exact HO503.out) hb); have n2_ := Aside0.mk (below_step (by repeat (first | (with_reducible first | exact HB.out | apply below_alloc | apply pw_below_drewN | apply below_drew1) | exact HB.out)) hb); have n3_ := Aside0.mk (hbox); have n4_ := Aside0.mk ((by rw [hg]; exact (below_size (by repeat (first | (with_reducible first | exact HB.out | apply below_alloc | apply pw_below_drewN | apply below_drew1) | exact HB.out))) : w.heap.size ≤ gb505)); have n5_ := Aside0.mk ((by rw [hg]; exact (below_size (by repeat (first | (with_reducible first | exact HB.out | apply below_alloc | apply pw_below_drewN | apply below_drew1) | exact HB.out))) : w.heap.size ≤ gb505)); clear HO499; clear HO503; clear HB; have HO499 := n0_; have HO503 := n1_; have HB := n2_; have BK505 := n3_; have GW505 := n4_; have GE505 := n5_; clear n0_ n1_ n2_ n3_ n4_ n5_; clear hb hbox hg; have hcz14_0 : w13.cell? ⟨gb505, 0, none⟩ = some (.int .i64 0) := (blk_cell BK505.out 0).trans rfl; have hcz14_1 : w13.cell? ⟨gb505, 1, none⟩ = some (.slice none 0 0) := (blk_cell BK505.out 1).trans rfl; have hfz14_0 := blk_frozen BK505.out 0; have hfz14_1 := blk_frozen BK505.out 1; obtain ⟨Ao15, co15, eo15⟩ := Kd.R_slice HO503.out; subst eo15) | ((with_reducible refine gate_callee (f := 25) rfl ?_); refine goesL_ (some 29) rfl rfl Try.func25 (by kernel_rfl) rfl #[.slice A1 l1.length c1] rfl (by (try simp only [List.map_toArray, List.map_cons, List.map_nil]); first | done | rfl | (simp only [List.length_drop, List.length_take]; rfl)) ?_; (with_reducible refine (laws_toSeenS.calls k _ _ l1 t506 _ ?side1 ?side2 A7.out).mono ?_); (case side1 => exact Kd.C_below HR1.out (by repeat (first | (with_reducible first | exact HB.out | apply below_alloc | apply pw_below_drewN | apply below_drew1 | refine below_set ?_ GE505.out) | exact HB.out))); (case side2 => exact HC1.out); rintro e w16 ⟨v507, rfl, ho0, hb⟩; refine ⟨_, rfl, ?_⟩; have n0_ := Aside0.mk (Kd.R_elder' (by (with_reducible repeat (first | apply Kd.R_alloc | apply Kd.R_drewN | apply Kd.R_drew)); exact (Kd.R_mono (Kd.R_far (p := ⟨gb505, 1, none⟩) (Kd.R_far (p := ⟨gb505, 0, none⟩) (Kd.R_types HO499.out BK505.out (by decide)) (fun _ hk => hk.2) (.int .i64 t500)) (fun _ hk => hk.2) (.slice Ao15 t501.length co15)) (fun _ h_ => h_.1))) (Kd.R_base ho0) hb); have n1_ := Aside0.mk (Kd.R_elder' (by (with_reducible repeat (first | apply Kd.R_alloc | apply Kd.R_drewN | apply Kd.R_drew)); exact (Kd.R_mono (Kd.R_far (p := ⟨gb505, 1, none⟩) (Kd.R_far (p := ⟨gb505, 0, none⟩) (Kd.R_types HO503.out BK505.out (by decide)) (fun _ hk => hk.2) (.int .i64 t500)) (fun _ hk => hk.2) (.slice Ao15 t501.length co15)) (fun _ h_ => h_.1))) (Kd.R_base ho0) hb); have n2_ := Aside0.mk (Kd.R_lower (Kd.R_new' (Kd.R_new' ho0 (Kd.R_lt (by (with_reducible repeat (first | apply Kd.R_alloc | apply Kd.R_drewN | apply Kd.R_drew)); exact (Kd.R_mono (Kd.R_far (p := ⟨gb505, 1, none⟩) (Kd.R_far (p := ⟨gb505, 0, none⟩) (Kd.R_types HO499.out BK505.out (by decide)) (fun _ hk => hk.2) (.int .i64 t500)) (fun _ hk => hk.2) (.slice Ao15 t501.length co15)) (fun _ h_ => h_.1))))) (Kd.R_lt (by (with_reducible repeat (first | apply Kd.R_alloc | apply Kd.R_drewN | apply Kd.R_drew)); exact (Kd.R_mono (Kd.R_far (p := ⟨gb505, 1, none⟩) (Kd.R_far (p := ⟨gb505, 0, none⟩) (Kd.R_types HO503.out BK505.out (by decide)) (fun _ hk => hk.2) (.int .i64 t500)) (fun _ hk => hk.2) (.slice Ao15 t501.length co15)) (fun _ h_ => h_.1))))) (below_size (by repeat (first | (with_reducible first | exact HB.out | apply below_alloc | apply pw_below_drewN | apply below_drew1 | refine below_set ?_ GE505.out) | exact HB.out)))); have n3_ := Aside0.mk (blk_below (g := gb505) (o := .cells #[.int .i64 t500, .slice Ao15 t501.length co15] 24 (0, 0)) (by (with_reducible repeat (first | refine blk_drewN ?_ _ | refine blk_drew ?_ | refine blk_alloc ?_ _)); refine blk_put (cs := #[.int .i64 t500, .slice none 0 0]) ?_ 1 _ rfl; (with_reducible repeat (first | refine blk_drewN ?_ _ | refine blk_drew ?_ | refine blk_alloc ?_ _)); refine blk_put (cs := #[.int .i64 0, .slice none 0 0]) ?_ 0 _ rfl; (with_reducible repeat (first | refine blk_drewN ?_ _ | refine blk_drew ?_ | refine blk_alloc ?_ _)); exact BK505.out) hb); have n4_ := Aside0.mk (below_step (by repeat (first | (with_reducible first | exact HB.out | apply below_alloc | apply pw_below_drewN | apply below_drew1 | refine below_set ?_ GE505.out) | exact HB.out)) hb); clear HO499; clear HO503; clear BK505; clear HB; have HO499 := n0_; have HO503 := n1_; have HO508 := n2_; have BK505 := n3_; have HB := n4_; clear n0_ n1_ n2_ n3_ n4_; (try clear hb); (try clear hb2); (try clear hk); (try clear hi); (try clear ho0); obtain ⟨Ao17, co17, eo17⟩ := Kd.R_slice HO508.out; subst eo17) | ((with_reducible refine gate_callee (f := 33) rfl ?_); refine goesL_ (some 33) rfl rfl Try.func33 (by kernel_rfl) rfl #[.int .i64 a0, .slice Ao17 t506.length co17] rfl (by (try simp only [List.map_toArray, List.map_cons, List.map_nil]); first | done | rfl | (simp only [List.length_drop, List.length_take]; rfl)) ?_; (with_reducible refine (impl_PlayTable.calls k a0 _ _ t506 t509 t510 t513 _ ?side1 ?side2 A8.out).mono ?_); (case side1 => repeat (first | exact (Kd.R_reads' HO508.out).2.2 | (with_reducible refine Kd.C_alloc ?_ _) | (with_reducible refine Kd.C_drewN ?_ _) | (with_reducible refine Kd.C_drew ?_))); (case side2 => exact (Kd.R_reads' HO508.out).2.1); rintro e w18 ⟨v511, rfl, ho0, hb⟩; refine ⟨_, rfl, ?_⟩; have n0_ := Aside0.mk (Kd.R_elder' (by (with_reducible repeat (first | apply Kd.R_alloc | apply Kd.R_drewN | apply Kd.R_drew)); exact HO499.out) (Kd.R_base ho0) hb); have n1_ := Aside0.mk (Kd.R_elder' (by (with_reducible repeat (first | apply Kd.R_alloc | apply Kd.R_drewN | apply Kd.R_drew)); exact HO503.out) (Kd.R_base ho0) hb); have n2_ := Aside0.mk (Kd.R_elder' (by (with_reducible repeat (first | apply Kd.R_alloc | apply Kd.R_drewN | apply Kd.R_drew)); exact HO508.out) (Kd.R_base ho0) hb); have n3_ := Aside0.mk (Kd.R_lower (Kd.R_new' (Kd.R_new' (Kd.R_new' ho0 (Kd.R_lt (by (with_reducible repeat (first | apply Kd.R_alloc | apply Kd.R_drewN | apply Kd.R_drew)); exact HO499.out))) (Kd.R_lt (by (with_reducible repeat (first | apply Kd.R_alloc | apply Kd.R_drewN | apply Kd.R_drew)); exact HO503.out))) (Kd.R_lt (by (with_reducible repeat (first | apply Kd.R_alloc | apply Kd.R_drewN | apply Kd.R_drew)); exact HO508.out))) (below_size (by repeat (first | (with_reducible first | exact HB.out | apply below_alloc | apply pw_below_drewN | apply below_drew1 | refine below_set ?_ GE505.out) | exact HB.out)))); have n4_ := Aside0.mk (blk_below (g := gb505) (o := .cells #[.int .i64 t500, .slice Ao15 t501.length co15] 24 (0, 0)) (by (with_reducible repeat (first | refine blk_drewN ?_ _ | refine blk_drew ?_ | refine blk_alloc ?_ _)); exact BK505.out) hb); have n5_ := Aside0.mk (below_step (by repeat (first | (with_reducible first | exact HB.out | apply below_alloc | apply pw_below_drewN | apply below_drew1 | refine below_set ?_ GE505.out) | exact HB.out)) hb); clear HO499; clear HO503; clear HO508; clear BK505; clear HB; have HO499 := n0_; have HO503 := n1_; have HO508 := n2_; have HO512 := n3_; have BK505 := n4_; have HB := n5_; clear n0_ n1_ n2_ n3_ n4_ n5_; (try clear hb); (try clear hb2); (try clear hk); (try clear hi); (try clear ho0)) | ((with_reducible refine gate_dst (N := 9) rfl ?_); refine box_event ?hg (N := 9) ?hd (cs := #[.int .i64 0, .slice none 0 0]) (t := 24) ?hr ?_; (case hd => rfl); (case hg => rfl); (case hr => first | (go_simp; done) | (go_simp; rfl)); intro gb514 hg w19 hbox hb; have n0_ := Aside0.mk (Kd.R_below (by (with_reducible repeat (first | apply Kd.R_alloc | apply Kd.R_drewN | apply Kd.R_drew)); exact HO499.out) hb); have n1_ := Aside0.mk (Kd.R_below (by (with_reducible repeat (first | apply Kd.R_alloc | apply Kd.R_drewN | apply Kd.R_drew)); exact HO503.out) hb); have n2_ := Aside0.mk (Kd.R_below (by (with_reducible repeat (first | apply Kd.R_alloc | apply Kd.R_drewN | apply Kd.R_drew)); exact HO508.out) hb); have n3_ := Aside0.mk (Kd.R_below (by (with_reducible repeat (first | apply Kd.R_alloc | apply Kd.R_drewN | apply Kd.R_drew)); exact HO512.out) hb); have n4_ := Aside0.mk (blk_below (g := gb505) (o := .cells #[.int .i64 t500, .slice Ao15 t501.length co15] 24 (0, 0)) (by (with_reducible repeat (first | refine blk_drewN ?_ _ | refine blk_drew ?_ | refine blk_alloc ?_ _)); exact BK505.out) hb); have n5_ := Aside0.mk (below_step (by repeat (first | (with_reducible first | exact HB.out | apply below_alloc | apply pw_below_drewN | apply below_drew1 | refine below_set ?_ GE505.out) | exact HB.out)) hb); have n6_ := Aside0.mk (hbox); have n7_ := Aside0.mk ((by rw [hg]; exact (below_size (by repeat (first | (with_reducible first | exact HB.out | apply below_alloc | apply pw_below_drewN | apply below_drew1 | refine below_set ?_ GE505.out) | exact HB.out))) : w.heap.size ≤ gb514)); have n8_ := Aside0.mk ((by rw [hg]; exact (below_size (by repeat (first | (with_reducible first | exact HB.out | apply below_alloc | apply pw_below_drewN | apply below_drew1 | refine below_set ?_ GE505.out) | exact HB.out))) : w.heap.size ≤ gb514)); have n9_ := Aside0.mk ((by rw [hg]; exact Nat.ne_of_lt (blk_lt (g := gb505) (o := .cells #[.int .i64 t500, .slice Ao15 t501.length co15] 24 (0, 0)) (by (with_reducible repeat (first | refine blk_drewN ?_ _ | refine blk_drew ?_ | refine blk_alloc ?_ _)); exact BK505.out)) : gb505 ≠ gb514)); have n10_ := Aside0.mk ((by rw [hg]; exact Nat.ne_of_gt (blk_lt (g := gb505) (o := .cells #[.int .i64 t500, .slice Ao15 t501.length co15] 24 (0, 0)) (by (with_reducible repeat (first | refine blk_drewN ?_ _ | refine blk_drew ?_ | refine blk_alloc ?_ _)); exact BK505.out)) : gb514 ≠ gb505)); clear HO499; clear HO503; clear HO508; clear HO512; clear BK505; clear HB; have HO499 := n0_; have HO503 := n1_; have HO508 := n2_; have HO512 := n3_; have BK505 := n4_; have HB := n5_; have BK514 := n6_; have GW514 := n7_; have GE514 := n8_; have NB505_514 := n9_; have NB514_505 := n10_; clear n0_ n1_ n2_ n3_ n4_ n5_ n6_ n7_ n8_ n9_ n10_; clear hb hbox hg; have hnb20 := NB514_505.out; have hnc20 := NB505_514.out; have hcz21_0 : w19.cell? ⟨gb514, 0, none⟩ = some (.int .i64 0) := (blk_cell BK514.out 0).trans rfl; have hcz21_1 : w19.cell? ⟨gb514, 1, none⟩ = some (.slice none 0 0) := (blk_cell BK514.out 1).trans rfl; have hfz21_0 := blk_frozen BK514.out 0; have hfz21_1 := blk_frozen BK514.out 1; obtain ⟨Ao22, co22, eo22⟩ := Kd.R_slice HO512.out; subst eo22))
  (try simp only [Act.put, List.setIfInBounds_toArray, List.set_cons_zero, List.set_cons_succ])
  go_cut [44] (fun v44 wc => ∃ (kq : Nat) (x44_8 : Bool), v44 = .bool x44_8 ∧ Aside0 (laws_FnExactPlayTable.j0 kq a0 l1 t504 t506 t513 x44_8 t500 t501 t509 t510 = some r) ∧ Aside0 (kq ≤ k) ∧ Aside0 (Kd.R k53 53 wc w.heap.size (fun k_ => some k_ ≠ ((.slice Ao15 t501.length co15) : Value).ownBlock ∧ some k_ ≠ ((.slice Ao22 t510.length co22) : Value).ownBlock) (.slice Ao17 t506.length co17) t506) ∧ Aside0 (Kd.R k53 53 wc w.heap.size (fun k_ => some k_ ≠ ((.slice Ao17 t506.length co17) : Value).ownBlock ∧ some k_ ≠ ((.slice Ao22 t510.length co22) : Value).ownBlock) (.slice Ao15 t501.length co15) t501) ∧ Aside0 (Kd.R k53 53 wc w.heap.size (fun k_ => some k_ ≠ ((.slice Ao17 t506.length co17) : Value).ownBlock ∧ some k_ ≠ ((.slice Ao15 t501.length co15) : Value).ownBlock) (.slice Ao22 t510.length co22) t510) ∧ Aside0 (wc.heap[gb505]? = some (.cells #[.int .i64 t500, (.slice Ao15 t501.length co15)] 24 (0, 0))) ∧ Aside0 (wc.heap[gb514]? = some (.cells #[.int .i64 t509, (.slice Ao22 t510.length co22)] 24 (0, 0))) ∧ Aside0 (Below w.heap.size w wc))
  case first =>
   have H := HC9.out
   clear HC9
   replace H := Option.bind_eq_some_iff.mp H
   obtain ⟨t515, A230, H⟩ := H
   replace H : (if t515 = true then (laws_FnExactPlayTable.j0 k a0 l1 t504 t506 t513 (t513 != t504) t500 t501 t509 t510) else (laws_FnExactPlayTable.j0 k a0 l1 t504 t506 t513 true t500 t501 t509 t510)) = some r := H
   have A23 := Aside0.mk A230
   clear A230
   by_cases c24 : t515 = true
   ·subst c24
    have H1 : (laws_FnExactPlayTable.j0 k a0 l1 t504 t506 t513 (t513 != t504) t500 t501 t509 t510) = some r := by rw [if_pos rfl] at H; exact H
    clear H
    have H := H1
    clear H1
    have H' := Aside0.mk H
    clear H
    have hnb25 := NB514_505.out
    have hnc25 := NB505_514.out
    have hcz26_0 : w19.cell? ⟨gb514, 0, none⟩ = some (.int .i64 0) := (blk_cell BK514.out 0).trans rfl
    have hcz26_1 : w19.cell? ⟨gb514, 1, none⟩ = some (.slice none 0 0) := (blk_cell BK514.out 1).trans rfl
    have hfz26_0 := blk_frozen BK514.out 0
    have hfz26_1 := blk_frozen BK514.out 1
    have hcz27_0 : w19.cell? ⟨gb505, 0, none⟩ = some (.int .i64 t500) := (blk_cell BK505.out 0).trans rfl
    have hcz27_1 : w19.cell? ⟨gb505, 1, none⟩ = some (.slice Ao15 t501.length co15) := (blk_cell BK505.out 1).trans rfl
    have hfz27_0 := blk_frozen BK505.out 0
    have hfz27_1 := blk_frozen BK505.out 1
    go_wp2_with (first | ((with_reducible refine gate_callee (f := 14) rfl ?_); refine goesL_ (some 38) rfl rfl Try.func14 (by kernel_rfl) rfl #[.agg #[.int .i64 t509, .slice Ao22 t510.length co22], .agg #[.int .i64 t500, .slice Ao15 t501.length co15]] rfl (by (try simp only [List.map_toArray, List.map_cons, List.map_nil]); first | done | rfl | (simp only [List.length_drop, List.length_take]; rfl)) ?_; (with_reducible refine (laws_eqTable.calls k t509 _ _ t510 t500 _ _ t501 true _ ?side1 ?side2 ?side3 ?side4 A23.out).mono ?_); (case side1 => refine (Kd.R_reads' (e := 53) (base := w.heap.size) (ok := fun k_ => (((True ∧ some k_ ≠ (.slice Ao11 t497.length co11 : Value).ownBlock) ∧ some k_ ≠ (.slice Ao15 t501.length co15 : Value).ownBlock) ∧ some k_ ≠ (.slice Ao17 t506.length co17 : Value).ownBlock)) (n := t510.length) (c := co22) ?_).2.2; exact (by (with_reducible repeat (first | apply Kd.R_alloc | apply Kd.R_drewN | apply Kd.R_drew)); exact (Kd.R_mono (Kd.R_far (p := ⟨gb514, 1, none⟩) (Kd.R_far (p := ⟨gb514, 0, none⟩) (Kd.R_types HO512.out BK514.out (by decide)) (fun _ hk => hk.2) (.int .i64 t509)) (fun _ hk => hk.2) (.slice Ao22 t510.length co22)) (fun _ h_ => h_.1)))); (case side2 => exact (Kd.R_reads' HO512.out).2.1); (case side3 => refine (Kd.R_reads' (e := 53) (base := w.heap.size) (ok := fun k_ => (((True ∧ some k_ ≠ (.slice Ao11 t497.length co11 : Value).ownBlock) ∧ some k_ ≠ (.slice Ao17 t506.length co17 : Value).ownBlock) ∧ some k_ ≠ (.slice Ao22 t510.length co22 : Value).ownBlock)) (n := t501.length) (c := co15) ?_).2.2; exact (by (with_reducible repeat (first | apply Kd.R_alloc | apply Kd.R_drewN | apply Kd.R_drew)); exact (Kd.R_mono (Kd.R_far (p := ⟨gb514, 1, none⟩) (Kd.R_far (p := ⟨gb514, 0, none⟩) (Kd.R_types HO503.out BK514.out (by decide)) (fun _ hk => hk.2) (.int .i64 t509)) (fun _ hk => hk.2) (.slice Ao22 t510.length co22)) (fun _ h_ => h_.1)))); (case side4 => exact (Kd.R_reads' HO503.out).2.1); rintro e w28 ⟨rfl, hb⟩; refine ⟨_, rfl, ?_⟩; have n0_ := Aside0.mk (Kd.R_below (by (with_reducible repeat (first | apply Kd.R_alloc | apply Kd.R_drewN | apply Kd.R_drew)); exact (Kd.R_mono (Kd.R_far (p := ⟨gb514, 1, none⟩) (Kd.R_far (p := ⟨gb514, 0, none⟩) (Kd.R_types HO499.out BK514.out (by decide)) (fun _ hk => hk.2) (.int .i64 t509)) (fun _ hk => hk.2) (.slice Ao22 t510.length co22)) (fun _ h_ => h_.1))) hb); have n1_ := Aside0.mk (Kd.R_below (by (with_reducible repeat (first | apply Kd.R_alloc | apply Kd.R_drewN | apply Kd.R_drew)); exact (Kd.R_mono (Kd.R_far (p := ⟨gb514, 1, none⟩) (Kd.R_far (p := ⟨gb514, 0, none⟩) (Kd.R_types HO503.out BK514.out (by decide)) (fun _ hk => hk.2) (.int .i64 t509)) (fun _ hk => hk.2) (.slice Ao22 t510.length co22)) (fun _ h_ => h_.1))) hb); have n2_ := Aside0.mk (Kd.R_below (by (with_reducible repeat (first | apply Kd.R_alloc | apply Kd.R_drewN | apply Kd.R_drew)); exact (Kd.R_mono (Kd.R_far (p := ⟨gb514, 1, none⟩) (Kd.R_far (p := ⟨gb514, 0, none⟩) (Kd.R_types HO508.out BK514.out (by decide)) (fun _ hk => hk.2) (.int .i64 t509)) (fun _ hk => hk.2) (.slice Ao22 t510.length co22)) (fun _ h_ => h_.1))) hb); have n3_ := Aside0.mk (Kd.R_below (by (with_reducible repeat (first | apply Kd.R_alloc | apply Kd.R_drewN | apply Kd.R_drew)); exact (Kd.R_mono (Kd.R_far (p := ⟨gb514, 1, none⟩) (Kd.R_far (p := ⟨gb514, 0, none⟩) (Kd.R_types HO512.out BK514.out (by decide)) (fun _ hk => hk.2) (.int .i64 t509)) (fun _ hk => hk.2) (.slice Ao22 t510.length co22)) (fun _ h_ => h_.1))) hb); have n4_ := Aside0.mk (blk_below (g := gb505) (o := .cells #[.int .i64 t500, .slice Ao15 t501.length co15] 24 (0, 0)) (by (with_reducible repeat (first | refine blk_drewN ?_ _ | refine blk_drew ?_ | refine blk_alloc ?_ _)); refine blk_far ?_ NB505_514.out _; (with_reducible repeat (first | refine blk_drewN ?_ _ | refine blk_drew ?_ | refine blk_alloc ?_ _)); refine blk_far ?_ NB505_514.out _; (with_reducible repeat (first | refine blk_drewN ?_ _ | refine blk_drew ?_ | refine blk_alloc ?_ _)); exact BK505.out) hb); have n5_ := Aside0.mk (blk_below (g := gb514) (o := .cells #[.int .i64 t509, .slice Ao22 t510.length co22] 24 (0, 0)) (by (with_reducible repeat (first | refine blk_drewN ?_ _ | refine blk_drew ?_ | refine blk_alloc ?_ _)); refine blk_put (cs := #[.int .i64 t509, .slice none 0 0]) ?_ 1 _ rfl; (with_reducible repeat (first | refine blk_drewN ?_ _ | refine blk_drew ?_ | refine blk_alloc ?_ _)); refine blk_put (cs := #[.int .i64 0, .slice none 0 0]) ?_ 0 _ rfl; (with_reducible repeat (first | refine blk_drewN ?_ _ | refine blk_drew ?_ | refine blk_alloc ?_ _)); exact BK514.out) hb); have n6_ := Aside0.mk (below_step (by repeat (first | (with_reducible first | exact HB.out | apply below_alloc | apply pw_below_drewN | apply below_drew1 | refine below_set ?_ GE505.out | refine below_set ?_ GE514.out) | exact HB.out)) hb); clear HO499; clear HO503; clear HO508; clear HO512; clear BK505; clear BK514; clear HB; have HO499 := n0_; have HO503 := n1_; have HO508 := n2_; have HO512 := n3_; have BK505 := n4_; have BK514 := n5_; have HB := n6_; clear n0_ n1_ n2_ n3_ n4_ n5_ n6_; (try clear hb); (try clear hb2); (try clear hk); (try clear hi)))
    go_meet
    case rel => exact ⟨_, ((t513 != t504)), (by first | rfl | (simp; done) | (simp [*]; done)), H', ⟨by first | omega | exact Nat.le_refl _⟩, ⟨by (with_reducible repeat (first | apply Kd.R_alloc | apply Kd.R_drewN | apply Kd.R_drew)); exact Kd.R_mono HO508.out (fun _ hk => ⟨hk.1.2, hk.2⟩)⟩, ⟨by (with_reducible repeat (first | apply Kd.R_alloc | apply Kd.R_drewN | apply Kd.R_drew)); exact Kd.R_mono HO503.out (fun _ hk => ⟨hk.1.2, hk.2⟩)⟩, ⟨by (with_reducible repeat (first | apply Kd.R_alloc | apply Kd.R_drewN | apply Kd.R_drew)); exact Kd.R_mono HO512.out (fun _ hk => ⟨hk.2, hk.1.2⟩)⟩, ⟨by (with_reducible repeat (first | refine blk_drewN ?_ _ | refine blk_drew ?_ | refine blk_alloc ?_ _)); exact BK505.out⟩, ⟨by (with_reducible repeat (first | refine blk_drewN ?_ _ | refine blk_drew ?_ | refine blk_alloc ?_ _)); exact BK514.out⟩, ⟨by repeat (first | (with_reducible first | exact HB.out | apply below_alloc | apply pw_below_drewN | apply below_drew1 | refine below_set ?_ GE505.out | refine below_set ?_ GE514.out) | exact HB.out)⟩⟩
   ·replace c24 := Bool.eq_false_iff.mpr c24
    subst c24
    have H1 : (laws_FnExactPlayTable.j0 k a0 l1 t504 t506 t513 true t500 t501 t509 t510) = some r := by rw [if_neg (show ¬ (false = true) by decide)] at H; exact H
    clear H
    have H := H1
    clear H1
    have H' := Aside0.mk H
    clear H
    have hnb29 := NB514_505.out
    have hnc29 := NB505_514.out
    have hcz30_0 : w19.cell? ⟨gb514, 0, none⟩ = some (.int .i64 0) := (blk_cell BK514.out 0).trans rfl
    have hcz30_1 : w19.cell? ⟨gb514, 1, none⟩ = some (.slice none 0 0) := (blk_cell BK514.out 1).trans rfl
    have hfz30_0 := blk_frozen BK514.out 0
    have hfz30_1 := blk_frozen BK514.out 1
    have hcz31_0 : w19.cell? ⟨gb505, 0, none⟩ = some (.int .i64 t500) := (blk_cell BK505.out 0).trans rfl
    have hcz31_1 : w19.cell? ⟨gb505, 1, none⟩ = some (.slice Ao15 t501.length co15) := (blk_cell BK505.out 1).trans rfl
    have hfz31_0 := blk_frozen BK505.out 0
    have hfz31_1 := blk_frozen BK505.out 1
    go_wp2_with (first | ((with_reducible refine gate_callee (f := 14) rfl ?_); refine goesL_ (some 38) rfl rfl Try.func14 (by kernel_rfl) rfl #[.agg #[.int .i64 t509, .slice Ao22 t510.length co22], .agg #[.int .i64 t500, .slice Ao15 t501.length co15]] rfl (by (try simp only [List.map_toArray, List.map_cons, List.map_nil]); first | done | rfl | (simp only [List.length_drop, List.length_take]; rfl)) ?_; (with_reducible refine (laws_eqTable.calls k t509 _ _ t510 t500 _ _ t501 false _ ?side1 ?side2 ?side3 ?side4 A23.out).mono ?_); (case side1 => refine (Kd.R_reads' (e := 53) (base := w.heap.size) (ok := fun k_ => (((True ∧ some k_ ≠ (.slice Ao11 t497.length co11 : Value).ownBlock) ∧ some k_ ≠ (.slice Ao15 t501.length co15 : Value).ownBlock) ∧ some k_ ≠ (.slice Ao17 t506.length co17 : Value).ownBlock)) (n := t510.length) (c := co22) ?_).2.2; exact (by (with_reducible repeat (first | apply Kd.R_alloc | apply Kd.R_drewN | apply Kd.R_drew)); exact (Kd.R_mono (Kd.R_far (p := ⟨gb514, 1, none⟩) (Kd.R_far (p := ⟨gb514, 0, none⟩) (Kd.R_types HO512.out BK514.out (by decide)) (fun _ hk => hk.2) (.int .i64 t509)) (fun _ hk => hk.2) (.slice Ao22 t510.length co22)) (fun _ h_ => h_.1)))); (case side2 => exact (Kd.R_reads' HO512.out).2.1); (case side3 => refine (Kd.R_reads' (e := 53) (base := w.heap.size) (ok := fun k_ => (((True ∧ some k_ ≠ (.slice Ao11 t497.length co11 : Value).ownBlock) ∧ some k_ ≠ (.slice Ao17 t506.length co17 : Value).ownBlock) ∧ some k_ ≠ (.slice Ao22 t510.length co22 : Value).ownBlock)) (n := t501.length) (c := co15) ?_).2.2; exact (by (with_reducible repeat (first | apply Kd.R_alloc | apply Kd.R_drewN | apply Kd.R_drew)); exact (Kd.R_mono (Kd.R_far (p := ⟨gb514, 1, none⟩) (Kd.R_far (p := ⟨gb514, 0, none⟩) (Kd.R_types HO503.out BK514.out (by decide)) (fun _ hk => hk.2) (.int .i64 t509)) (fun _ hk => hk.2) (.slice Ao22 t510.length co22)) (fun _ h_ => h_.1)))); (case side4 => exact (Kd.R_reads' HO503.out).2.1); rintro e w32 ⟨rfl, hb⟩; refine ⟨_, rfl, ?_⟩; have n0_ := Aside0.mk (Kd.R_below (by (with_reducible repeat (first | apply Kd.R_alloc | apply Kd.R_drewN | apply Kd.R_drew)); exact (Kd.R_mono (Kd.R_far (p := ⟨gb514, 1, none⟩) (Kd.R_far (p := ⟨gb514, 0, none⟩) (Kd.R_types HO499.out BK514.out (by decide)) (fun _ hk => hk.2) (.int .i64 t509)) (fun _ hk => hk.2) (.slice Ao22 t510.length co22)) (fun _ h_ => h_.1))) hb); have n1_ := Aside0.mk (Kd.R_below (by (with_reducible repeat (first | apply Kd.R_alloc | apply Kd.R_drewN | apply Kd.R_drew)); exact (Kd.R_mono (Kd.R_far (p := ⟨gb514, 1, none⟩) (Kd.R_far (p := ⟨gb514, 0, none⟩) (Kd.R_types HO503.out BK514.out (by decide)) (fun _ hk => hk.2) (.int .i64 t509)) (fun _ hk => hk.2) (.slice Ao22 t510.length co22)) (fun _ h_ => h_.1))) hb); have n2_ := Aside0.mk (Kd.R_below (by (with_reducible repeat (first | apply Kd.R_alloc | apply Kd.R_drewN | apply Kd.R_drew)); exact (Kd.R_mono (Kd.R_far (p := ⟨gb514, 1, none⟩) (Kd.R_far (p := ⟨gb514, 0, none⟩) (Kd.R_types HO508.out BK514.out (by decide)) (fun _ hk => hk.2) (.int .i64 t509)) (fun _ hk => hk.2) (.slice Ao22 t510.length co22)) (fun _ h_ => h_.1))) hb); have n3_ := Aside0.mk (Kd.R_below (by (with_reducible repeat (first | apply Kd.R_alloc | apply Kd.R_drewN | apply Kd.R_drew)); exact (Kd.R_mono (Kd.R_far (p := ⟨gb514, 1, none⟩) (Kd.R_far (p := ⟨gb514, 0, none⟩) (Kd.R_types HO512.out BK514.out (by decide)) (fun _ hk => hk.2) (.int .i64 t509)) (fun _ hk => hk.2) (.slice Ao22 t510.length co22)) (fun _ h_ => h_.1))) hb); have n4_ := Aside0.mk (blk_below (g := gb505) (o := .cells #[.int .i64 t500, .slice Ao15 t501.length co15] 24 (0, 0)) (by (with_reducible repeat (first | refine blk_drewN ?_ _ | refine blk_drew ?_ | refine blk_alloc ?_ _)); refine blk_far ?_ NB505_514.out _; (with_reducible repeat (first | refine blk_drewN ?_ _ | refine blk_drew ?_ | refine blk_alloc ?_ _)); refine blk_far ?_ NB505_514.out _; (with_reducible repeat (first | refine blk_drewN ?_ _ | refine blk_drew ?_ | refine blk_alloc ?_ _)); exact BK505.out) hb); have n5_ := Aside0.mk (blk_below (g := gb514) (o := .cells #[.int .i64 t509, .slice Ao22 t510.length co22] 24 (0, 0)) (by (with_reducible repeat (first | refine blk_drewN ?_ _ | refine blk_drew ?_ | refine blk_alloc ?_ _)); refine blk_put (cs := #[.int .i64 t509, .slice none 0 0]) ?_ 1 _ rfl; (with_reducible repeat (first | refine blk_drewN ?_ _ | refine blk_drew ?_ | refine blk_alloc ?_ _)); refine blk_put (cs := #[.int .i64 0, .slice none 0 0]) ?_ 0 _ rfl; (with_reducible repeat (first | refine blk_drewN ?_ _ | refine blk_drew ?_ | refine blk_alloc ?_ _)); exact BK514.out) hb); have n6_ := Aside0.mk (below_step (by repeat (first | (with_reducible first | exact HB.out | apply below_alloc | apply pw_below_drewN | apply below_drew1 | refine below_set ?_ GE505.out | refine below_set ?_ GE514.out) | exact HB.out)) hb); clear HO499; clear HO503; clear HO508; clear HO512; clear BK505; clear BK514; clear HB; have HO499 := n0_; have HO503 := n1_; have HO508 := n2_; have HO512 := n3_; have BK505 := n4_; have BK514 := n5_; have HB := n6_; clear n0_ n1_ n2_ n3_ n4_ n5_ n6_; (try clear hb); (try clear hb2); (try clear hk); (try clear hi)))
    go_meet
    case rel => exact ⟨_, (true), (by first | rfl | (simp; done) | (simp [*]; done)), H', ⟨by first | omega | exact Nat.le_refl _⟩, ⟨by (with_reducible repeat (first | apply Kd.R_alloc | apply Kd.R_drewN | apply Kd.R_drew)); exact Kd.R_mono HO508.out (fun _ hk => ⟨hk.1.2, hk.2⟩)⟩, ⟨by (with_reducible repeat (first | apply Kd.R_alloc | apply Kd.R_drewN | apply Kd.R_drew)); exact Kd.R_mono HO503.out (fun _ hk => ⟨hk.1.2, hk.2⟩)⟩, ⟨by (with_reducible repeat (first | apply Kd.R_alloc | apply Kd.R_drewN | apply Kd.R_drew)); exact Kd.R_mono HO512.out (fun _ hk => ⟨hk.2, hk.1.2⟩)⟩, ⟨by (with_reducible repeat (first | refine blk_drewN ?_ _ | refine blk_drew ?_ | refine blk_alloc ?_ _)); exact BK505.out⟩, ⟨by (with_reducible repeat (first | refine blk_drewN ?_ _ | refine blk_drew ?_ | refine blk_alloc ?_ _)); exact BK514.out⟩, ⟨by repeat (first | (with_reducible first | exact HB.out | apply below_alloc | apply pw_below_drewN | apply below_drew1 | refine below_set ?_ GE505.out | refine below_set ?_ GE514.out) | exact HB.out)⟩⟩
  case rest =>
   clear HC9
   try clear c1
   try clear c2
   try clear p2
   try clear c3
   try clear c4
   try clear c4b0
   try clear c9
   try clear c14
   try clear c20
   try clear c23
   try clear c24
   try clear c25
   try clear c29
   try clear c32
   try clear hcz14_0
   try clear hcz14_1
   try clear hcz21_0
   try clear hcz21_1
   try clear hcz26_0
   try clear hcz26_1
   try clear hcz27_0
   try clear hcz27_1
   try clear hcz30_0
   try clear hcz30_1
   try clear hcz31_0
   try clear hcz31_1
   try clear hfz14_0
   try clear hfz14_1
   try clear hfz21_0
   try clear hfz21_1
   try clear hfz26_0
   try clear hfz26_1
   try clear hfz27_0
   try clear hfz27_1
   try clear hfz30_0
   try clear hfz30_1
   try clear hfz31_0
   try clear hfz31_1
   obtain ⟨kq, x44_8, rfl, HA, HJ8, HO_8, HO_506001, HO_515001, BK505, BK514, HB⟩ := hcut
   cases kq with
   | zero => exact absurd HA.out (by simp [laws_FnExactPlayTable.j0])
   | succ kj8 =>
    have H := HA.out
    clear HA
    simp only [laws_FnExactPlayTable.j0] at H
    by_cases c33 : x44_8 = true
    ·subst c33
     have H1 : (some false) = some r := by rw [if_pos rfl] at H; exact H
     clear H
     have H := H1
     clear H1
     obtain rfl := Option.some.inj H
     go_wp2
     go_ret
     exact ⟨by first | rfl | (simp [errW_none, errW_some] <;> rfl) | (simp [*, errW_none, errW_some] <;> rfl), by repeat (first | (with_reducible first | exact HB.out | apply below_alloc | apply pw_below_drewN | apply below_drew1 | refine below_set ?_ GE505.out | refine below_set ?_ GE514.out) | exact HB.out)⟩
    ·replace c33 := Bool.eq_false_iff.mpr c33
     subst c33
     have H1 : ((laws_toSeenS.f kj8 l1).bind fun t516 => ((laws_eqSeenS.f kj8 t506 t516).bind fun t519 => (if t519 = true then ((laws_markSeenS.f kj8 t506 1).bind fun bt520 => (if bt520.1 < 0 then (laws_FnExactPlayTable.j1 kj8 a0 l1 t504 true t500 t501 t509 t510) else ((laws_eqTable.f kj8 t509 t510 t500 t501).bind fun t522 => (if t522 = true then (laws_FnExactPlayTable.j1 kj8 a0 l1 t504 (t513 != t504) t500 t501 t509 t510) else (laws_FnExactPlayTable.j1 kj8 a0 l1 t504 true t500 t501 t509 t510))))) else (some false)))) = some r := by rw [if_neg (show ¬ (false = true) by decide)] at H; exact H
     clear H
     have H := H1
     clear H1
     replace H := Option.bind_eq_some_iff.mp H
     obtain ⟨t516, A340, H⟩ := H
     replace H : ((laws_eqSeenS.f kj8 t506 t516).bind fun t519 => (if t519 = true then ((laws_markSeenS.f kj8 t506 1).bind fun bt520 => (if bt520.1 < 0 then (laws_FnExactPlayTable.j1 kj8 a0 l1 t504 true t500 t501 t509 t510) else ((laws_eqTable.f kj8 t509 t510 t500 t501).bind fun t522 => (if t522 = true then (laws_FnExactPlayTable.j1 kj8 a0 l1 t504 (t513 != t504) t500 t501 t509 t510) else (laws_FnExactPlayTable.j1 kj8 a0 l1 t504 true t500 t501 t509 t510))))) else (some false))) = some r := H
     have A34 := Aside0.mk A340
     clear A340
     replace H := Option.bind_eq_some_iff.mp H
     obtain ⟨t519, A350, H⟩ := H
     replace H : (if t519 = true then ((laws_markSeenS.f kj8 t506 1).bind fun bt520 => (if bt520.1 < 0 then (laws_FnExactPlayTable.j1 kj8 a0 l1 t504 true t500 t501 t509 t510) else ((laws_eqTable.f kj8 t509 t510 t500 t501).bind fun t522 => (if t522 = true then (laws_FnExactPlayTable.j1 kj8 a0 l1 t504 (t513 != t504) t500 t501 t509 t510) else (laws_FnExactPlayTable.j1 kj8 a0 l1 t504 true t500 t501 t509 t510))))) else (some false)) = some r := H
     have A35 := Aside0.mk A350
     clear A350
     by_cases c36 : t519 = true
     ·subst c36
      have H1 : ((laws_markSeenS.f kj8 t506 1).bind fun bt520 => (if bt520.1 < 0 then (laws_FnExactPlayTable.j1 kj8 a0 l1 t504 true t500 t501 t509 t510) else ((laws_eqTable.f kj8 t509 t510 t500 t501).bind fun t522 => (if t522 = true then (laws_FnExactPlayTable.j1 kj8 a0 l1 t504 (t513 != t504) t500 t501 t509 t510) else (laws_FnExactPlayTable.j1 kj8 a0 l1 t504 true t500 t501 t509 t510))))) = some r := by rw [if_pos rfl] at H; exact H
      clear H
      have H := H1
      clear H1
      replace H := Option.bind_eq_some_iff.mp H
      obtain ⟨⟨t520, t521⟩, A370, H⟩ := H
      replace H : (if t520 < 0 then (laws_FnExactPlayTable.j1 kj8 a0 l1 t504 true t500 t501 t509 t510) else ((laws_eqTable.f kj8 t509 t510 t500 t501).bind fun t522 => (if t522 = true then (laws_FnExactPlayTable.j1 kj8 a0 l1 t504 (t513 != t504) t500 t501 t509 t510) else (laws_FnExactPlayTable.j1 kj8 a0 l1 t504 true t500 t501 t509 t510)))) = some r := H
      have A37 := Aside0.mk A370
      clear A370
      have HC38 := Aside0.mk H
      clear H
      go_upto_region 14 with (first | ((with_reducible refine gate_callee (f := 25) rfl ?_); refine goesL_ (some 47) rfl rfl Try.func25 (by kernel_rfl) rfl #[.slice A1 l1.length c1] rfl (by (try simp only [List.map_toArray, List.map_cons, List.map_nil]); first | done | rfl | (simp only [List.length_drop, List.length_take]; rfl)) ?_; (with_reducible refine (laws_toSeenS.calls kj8 _ _ l1 t516 _ ?side1 ?side2 A34.out).mono ?_); (case side1 => repeat (first | exact (Kd.C_below HR1.out HB.out) | (with_reducible refine Kd.C_alloc ?_ _) | (with_reducible refine Kd.C_drewN ?_ _) | (with_reducible refine Kd.C_drew ?_))); (case side2 => exact HC1.out); rintro e w39 ⟨v517, rfl, ho0, hb⟩; refine ⟨_, rfl, ?_⟩; have n0_ := Aside0.mk (Kd.R_elder' (by (with_reducible repeat (first | apply Kd.R_alloc | apply Kd.R_drewN | apply Kd.R_drew)); exact HO_8.out) (Kd.R_base ho0) hb); have n1_ := Aside0.mk (Kd.R_elder' (by (with_reducible repeat (first | apply Kd.R_alloc | apply Kd.R_drewN | apply Kd.R_drew)); exact HO_506001.out) (Kd.R_base ho0) hb); have n2_ := Aside0.mk (Kd.R_elder' (by (with_reducible repeat (first | apply Kd.R_alloc | apply Kd.R_drewN | apply Kd.R_drew)); exact HO_515001.out) (Kd.R_base ho0) hb); have n3_ := Aside0.mk (Kd.R_lower (Kd.R_new' (Kd.R_new' (Kd.R_new' ho0 (Kd.R_lt (by (with_reducible repeat (first | apply Kd.R_alloc | apply Kd.R_drewN | apply Kd.R_drew)); exact HO_8.out))) (Kd.R_lt (by (with_reducible repeat (first | apply Kd.R_alloc | apply Kd.R_drewN | apply Kd.R_drew)); exact HO_506001.out))) (Kd.R_lt (by (with_reducible repeat (first | apply Kd.R_alloc | apply Kd.R_drewN | apply Kd.R_drew)); exact HO_515001.out))) (below_size (by repeat (first | (with_reducible first | exact HB.out | apply below_alloc | apply pw_below_drewN | apply below_drew1 | refine below_set ?_ GE505.out | refine below_set ?_ GE514.out) | exact HB.out)))); have n4_ := Aside0.mk (blk_below (g := gb505) (o := .cells #[.int .i64 t500, .slice Ao15 t501.length co15] 24 (0, 0)) (by (with_reducible repeat (first | refine blk_drewN ?_ _ | refine blk_drew ?_ | refine blk_alloc ?_ _)); exact BK505.out) hb); have n5_ := Aside0.mk (blk_below (g := gb514) (o := .cells #[.int .i64 t509, .slice Ao22 t510.length co22] 24 (0, 0)) (by (with_reducible repeat (first | refine blk_drewN ?_ _ | refine blk_drew ?_ | refine blk_alloc ?_ _)); exact BK514.out) hb); have n6_ := Aside0.mk (below_step (by repeat (first | (with_reducible first | exact HB.out | apply below_alloc | apply pw_below_drewN | apply below_drew1 | refine below_set ?_ GE505.out | refine below_set ?_ GE514.out) | exact HB.out)) hb); clear HO_8; clear HO_506001; clear HO_515001; clear BK505; clear BK514; clear HB; have HO_8 := n0_; have HO_506001 := n1_; have HO_515001 := n2_; have HO518 := n3_; have BK505 := n4_; have BK514 := n5_; have HB := n6_; clear n0_ n1_ n2_ n3_ n4_ n5_ n6_; (try clear hb); (try clear hb2); (try clear hk); (try clear hi); (try clear ho0); obtain ⟨Ao40, co40, eo40⟩ := Kd.R_slice HO518.out; subst eo40) | ((with_reducible refine gate_callee (f := 27) rfl ?_); refine goesL_ (some 48) rfl rfl Try.func27 (by kernel_rfl) rfl #[.slice Ao17 t506.length co17, .slice Ao40 t516.length co40] rfl (by (try simp only [List.map_toArray, List.map_cons, List.map_nil]); first | done | rfl | (simp only [List.length_drop, List.length_take]; rfl)) ?_; (with_reducible refine (laws_eqSeenS.calls kj8 _ _ t506 _ _ t516 true _ ?side1 ?side2 ?side3 ?side4 A35.out).mono ?_); (case side1 => repeat (first | exact (Kd.R_reads' HO_8.out).2.2 | (with_reducible refine Kd.C_alloc ?_ _) | (with_reducible refine Kd.C_drewN ?_ _) | (with_reducible refine Kd.C_drew ?_))); (case side2 => exact (Kd.R_reads' HO_8.out).2.1); (case side3 => repeat (first | exact (Kd.R_reads' HO518.out).2.2 | (with_reducible refine Kd.C_alloc ?_ _) | (with_reducible refine Kd.C_drewN ?_ _) | (with_reducible refine Kd.C_drew ?_))); (case side4 => exact (Kd.R_reads' HO518.out).2.1); rintro e w41 ⟨rfl, hb⟩; refine ⟨_, rfl, ?_⟩; have n0_ := Aside0.mk (Kd.R_below (by (with_reducible repeat (first | apply Kd.R_alloc | apply Kd.R_drewN | apply Kd.R_drew)); exact HO_8.out) hb); have n1_ := Aside0.mk (Kd.R_below (by (with_reducible repeat (first | apply Kd.R_alloc | apply Kd.R_drewN | apply Kd.R_drew)); exact HO_506001.out) hb); have n2_ := Aside0.mk (Kd.R_below (by (with_reducible repeat (first | apply Kd.R_alloc | apply Kd.R_drewN | apply Kd.R_drew)); exact HO_515001.out) hb); have n3_ := Aside0.mk (Kd.R_below (by (with_reducible repeat (first | apply Kd.R_alloc | apply Kd.R_drewN | apply Kd.R_drew)); exact HO518.out) hb); have n4_ := Aside0.mk (blk_below (g := gb505) (o := .cells #[.int .i64 t500, .slice Ao15 t501.length co15] 24 (0, 0)) (by (with_reducible repeat (first | refine blk_drewN ?_ _ | refine blk_drew ?_ | refine blk_alloc ?_ _)); exact BK505.out) hb); have n5_ := Aside0.mk (blk_below (g := gb514) (o := .cells #[.int .i64 t509, .slice Ao22 t510.length co22] 24 (0, 0)) (by (with_reducible repeat (first | refine blk_drewN ?_ _ | refine blk_drew ?_ | refine blk_alloc ?_ _)); exact BK514.out) hb); have n6_ := Aside0.mk (below_step (by repeat (first | (with_reducible first | exact HB.out | apply below_alloc | apply pw_below_drewN | apply below_drew1 | refine below_set ?_ GE505.out | refine below_set ?_ GE514.out) | exact HB.out)) hb); clear HO_8; clear HO_506001; clear HO_515001; clear HO518; clear BK505; clear BK514; clear HB; have HO_8 := n0_; have HO_506001 := n1_; have HO_515001 := n2_; have HO518 := n3_; have BK505 := n4_; have BK514 := n5_; have HB := n6_; clear n0_ n1_ n2_ n3_ n4_ n5_ n6_; (try clear hb); (try clear hb2); (try clear hk); (try clear hi)) | ((with_reducible refine gate_callee (f := 34) rfl ?_); refine goesL_ (some 52) rfl rfl Try.func34 (by kernel_rfl) rfl #[.slice Ao17 t506.length co17, .int .i64 1] rfl (by (try simp only [List.map_toArray, List.map_cons, List.map_nil]); first | done | rfl | (simp only [List.length_drop, List.length_take]; rfl)) ?_; (with_reducible refine (laws_markSeenS.calls kj8 (fun k_ => some k_ = (.slice Ao17 t506.length co17 : Value).ownBlock) (.slice Ao17 t506.length co17) t506 1 t520 t521 w _ ?side1 ?side2 A37.out).mono ?_); (case side1 => repeat (first | (with_reducible first | exact HB.out | apply below_alloc | apply pw_below_drewN | apply below_drew1 | refine below_set ?_ GE505.out | refine below_set ?_ GE514.out) | exact HB.out)); (case side2 => exact Kd.R_tight rfl HO_8.out); rintro e w42 ⟨rfl, hy0, hb, hkp⟩; refine ⟨_, rfl, ?_⟩; have n0_ := Aside0.mk (Kd.R_reok rfl hy0 (fun k_ e_ => HO_8.out.1 k_ e_)); have n1_ := Aside0.mk (Kd.R_mono (ok' := fun k_ => some k_ ≠ (.slice Ao17 t506.length co17 : Value).ownBlock ∧ some k_ ≠ (.slice Ao22 t510.length co22 : Value).ownBlock ∧ some k_ ≠ (.slice Ao40 t516.length co40 : Value).ownBlock) (Kd.R_keptB (HO_506001.out) hkp (fun k_ hk_ hs_ => (hk_.1.1) hs_)) (fun k_ hk_ => ⟨hk_.1.1.1, hk_.1.1.2, hk_.1.2⟩)); have n2_ := Aside0.mk (Kd.R_mono (ok' := fun k_ => some k_ ≠ (.slice Ao17 t506.length co17 : Value).ownBlock ∧ some k_ ≠ (.slice Ao15 t501.length co15 : Value).ownBlock ∧ some k_ ≠ (.slice Ao40 t516.length co40 : Value).ownBlock) (Kd.R_keptB (HO_515001.out) hkp (fun k_ hk_ hs_ => (hk_.1.1) hs_)) (fun k_ hk_ => ⟨hk_.1.1.1, hk_.1.1.2, hk_.1.2⟩)); have n3_ := Aside0.mk (blk_kept (by (with_reducible repeat (first | refine blk_drewN ?_ _ | refine blk_drew ?_ | refine blk_alloc ?_ _)); exact BK505.out) hkp (fun hs_ => (fun e_ => (Kd.R_ne HO_8.out BK505.out (by decide)) e_) hs_)); have n4_ := Aside0.mk (blk_kept (by (with_reducible repeat (first | refine blk_drewN ?_ _ | refine blk_drew ?_ | refine blk_alloc ?_ _)); exact BK514.out) hkp (fun hs_ => (fun e_ => (Kd.R_ne HO_8.out BK514.out (by decide)) e_) hs_)); have n5_ := Aside0.mk (Kd.R_mono (ok' := fun k_ => some k_ ≠ (.slice Ao17 t506.length co17 : Value).ownBlock ∧ some k_ ≠ (.slice Ao15 t501.length co15 : Value).ownBlock ∧ some k_ ≠ (.slice Ao22 t510.length co22 : Value).ownBlock) (Kd.R_keptB (HO518.out) hkp (fun k_ hk_ hs_ => (hk_.1.1.2) hs_)) (fun k_ hk_ => ⟨hk_.1.1.1.2, hk_.1.1.2, hk_.1.2⟩)); have n6_ := Aside0.mk (hb); clear HO_8; clear HO_506001; clear HO_515001; clear BK505; clear BK514; clear HO518; clear HB; have HO_8 := n0_; have HO_506001 := n1_; have HO_515001 := n2_; have BK505 := n3_; have BK514 := n4_; have HO518 := n5_; have HB := n6_; clear n0_ n1_ n2_ n3_ n4_ n5_ n6_; (try clear hb); (try clear hkp); (try clear hy0)))
      (try simp only [Act.put, List.setIfInBounds_toArray, List.set_cons_zero, List.set_cons_succ])
      go_cut [65] (fun v65 wc => ∃ (kq : Nat) (x65_37 : Bool), v65 = .bool x65_37 ∧ Aside0 (laws_FnExactPlayTable.j1 kq a0 l1 t504 x65_37 t500 t501 t509 t510 = some r) ∧ Aside0 (kq ≤ kj8) ∧ Aside0 (Kd.R k53 53 wc w.heap.size (fun k_ => some k_ ≠ ((.slice Ao22 t510.length co22) : Value).ownBlock) (.slice Ao15 t501.length co15) t501) ∧ Aside0 (Kd.R k53 53 wc w.heap.size (fun k_ => some k_ ≠ ((.slice Ao15 t501.length co15) : Value).ownBlock) (.slice Ao22 t510.length co22) t510) ∧ Aside0 (wc.heap[gb505]? = some (.cells #[.int .i64 t500, (.slice Ao15 t501.length co15)] 24 (0, 0))) ∧ Aside0 (wc.heap[gb514]? = some (.cells #[.int .i64 t509, (.slice Ao22 t510.length co22)] 24 (0, 0))) ∧ Aside0 (Below w.heap.size w wc))
      case first =>
       have H := HC38.out
       clear HC38
       by_cases c43 : t520 < 0
       ·rw [if_pos c43] at H
        have c43b0 : decide (t520 < 0) = true := decide_eq_true c43
        clear c43
        (first | rw [c43b0] | (simp only [i64_w, i32_w]; rw [c43b0]) | skip)
        have H' := Aside0.mk H
        clear H
        go_wp2
        go_meet
        case rel => exact ⟨_, (true), (by first | rfl | (simp; done) | (simp [*]; done)), H', ⟨by have := HJ8.out; first | omega | exact Nat.le_refl _⟩, ⟨by (with_reducible repeat (first | apply Kd.R_alloc | apply Kd.R_drewN | apply Kd.R_drew)); exact Kd.R_mono HO_506001.out (fun _ hk => hk.2.1)⟩, ⟨by (with_reducible repeat (first | apply Kd.R_alloc | apply Kd.R_drewN | apply Kd.R_drew)); exact Kd.R_mono HO_515001.out (fun _ hk => hk.2.1)⟩, ⟨by (with_reducible repeat (first | refine blk_drewN ?_ _ | refine blk_drew ?_ | refine blk_alloc ?_ _)); exact BK505.out⟩, ⟨by (with_reducible repeat (first | refine blk_drewN ?_ _ | refine blk_drew ?_ | refine blk_alloc ?_ _)); exact BK514.out⟩, ⟨by repeat (first | (with_reducible first | exact HB.out | apply below_alloc | apply pw_below_drewN | apply below_drew1 | refine below_set ?_ GE505.out | refine below_set ?_ GE514.out) | exact HB.out)⟩⟩
       ·rw [if_neg c43] at H
        have c43b0 : decide (t520 < 0) = false := decide_eq_false c43
        clear c43
        (first | rw [c43b0] | (simp only [i64_w, i32_w]; rw [c43b0]) | skip)
        replace H := Option.bind_eq_some_iff.mp H
        obtain ⟨t522, A440, H⟩ := H
        replace H : (if t522 = true then (laws_FnExactPlayTable.j1 kj8 a0 l1 t504 (t513 != t504) t500 t501 t509 t510) else (laws_FnExactPlayTable.j1 kj8 a0 l1 t504 true t500 t501 t509 t510)) = some r := H
        have A44 := Aside0.mk A440
        clear A440
        by_cases c45 : t522 = true
        ·subst c45
         have H1 : (laws_FnExactPlayTable.j1 kj8 a0 l1 t504 (t513 != t504) t500 t501 t509 t510) = some r := by rw [if_pos rfl] at H; exact H
         clear H
         have H := H1
         clear H1
         have H' := Aside0.mk H
         clear H
         have hnb46 := NB514_505.out
         have hnc46 := NB505_514.out
         have hcz47_0 : w42.cell? ⟨gb514, 0, none⟩ = some (.int .i64 t509) := (blk_cell BK514.out 0).trans rfl
         have hcz47_1 : w42.cell? ⟨gb514, 1, none⟩ = some (.slice Ao22 t510.length co22) := (blk_cell BK514.out 1).trans rfl
         have hfz47_0 := blk_frozen BK514.out 0
         have hfz47_1 := blk_frozen BK514.out 1
         have hcz48_0 : w42.cell? ⟨gb505, 0, none⟩ = some (.int .i64 t500) := (blk_cell BK505.out 0).trans rfl
         have hcz48_1 : w42.cell? ⟨gb505, 1, none⟩ = some (.slice Ao15 t501.length co15) := (blk_cell BK505.out 1).trans rfl
         have hfz48_0 := blk_frozen BK505.out 0
         have hfz48_1 := blk_frozen BK505.out 1
         go_wp2_with (first | (go_at_call 14; (with_reducible refine (laws_eqTable.calls kj8 t509 _ _ t510 t500 _ _ t501 true _ ?side1 ?side2 ?side3 ?side4 A44.out).mono ?_); (case side1 => repeat (first | exact (Kd.R_reads' HO_515001.out).2.2 | (with_reducible refine Kd.C_alloc ?_ _) | (with_reducible refine Kd.C_drewN ?_ _) | (with_reducible refine Kd.C_drew ?_))); (case side2 => exact (Kd.R_reads' HO_515001.out).2.1); (case side3 => repeat (first | exact (Kd.R_reads' HO_506001.out).2.2 | (with_reducible refine Kd.C_alloc ?_ _) | (with_reducible refine Kd.C_drewN ?_ _) | (with_reducible refine Kd.C_drew ?_))); (case side4 => exact (Kd.R_reads' HO_506001.out).2.1); rintro e w49 ⟨rfl, hb⟩; have n0_ := Aside0.mk (Kd.R_below (by (with_reducible repeat (first | apply Kd.R_alloc | apply Kd.R_drewN | apply Kd.R_drew)); exact HO_8.out) hb); have n1_ := Aside0.mk (Kd.R_below (by (with_reducible repeat (first | apply Kd.R_alloc | apply Kd.R_drewN | apply Kd.R_drew)); exact HO_506001.out) hb); have n2_ := Aside0.mk (Kd.R_below (by (with_reducible repeat (first | apply Kd.R_alloc | apply Kd.R_drewN | apply Kd.R_drew)); exact HO_515001.out) hb); have n3_ := Aside0.mk (Kd.R_below (by (with_reducible repeat (first | apply Kd.R_alloc | apply Kd.R_drewN | apply Kd.R_drew)); exact HO518.out) hb); have n4_ := Aside0.mk (blk_below (g := gb505) (o := .cells #[.int .i64 t500, .slice Ao15 t501.length co15] 24 (0, 0)) (by (with_reducible repeat (first | refine blk_drewN ?_ _ | refine blk_drew ?_ | refine blk_alloc ?_ _)); exact BK505.out) hb); have n5_ := Aside0.mk (blk_below (g := gb514) (o := .cells #[.int .i64 t509, .slice Ao22 t510.length co22] 24 (0, 0)) (by (with_reducible repeat (first | refine blk_drewN ?_ _ | refine blk_drew ?_ | refine blk_alloc ?_ _)); exact BK514.out) hb); have n6_ := Aside0.mk (below_step (by repeat (first | (with_reducible first | exact HB.out | apply below_alloc | apply pw_below_drewN | apply below_drew1 | refine below_set ?_ GE505.out | refine below_set ?_ GE514.out) | exact HB.out)) hb); clear HO_8; clear HO_506001; clear HO_515001; clear HO518; clear BK505; clear BK514; clear HB; have HO_8 := n0_; have HO_506001 := n1_; have HO_515001 := n2_; have HO518 := n3_; have BK505 := n4_; have BK514 := n5_; have HB := n6_; clear n0_ n1_ n2_ n3_ n4_ n5_ n6_; (try clear hb); (try clear hb2); (try clear hk); (try clear hi)))
         go_meet
         case rel => exact ⟨_, ((t513 != t504)), (by first | rfl | (simp; done) | (simp [*]; done)), H', ⟨by have := HJ8.out; first | omega | exact Nat.le_refl _⟩, ⟨by (with_reducible repeat (first | apply Kd.R_alloc | apply Kd.R_drewN | apply Kd.R_drew)); exact Kd.R_mono HO_506001.out (fun _ hk => hk.2.1)⟩, ⟨by (with_reducible repeat (first | apply Kd.R_alloc | apply Kd.R_drewN | apply Kd.R_drew)); exact Kd.R_mono HO_515001.out (fun _ hk => hk.2.1)⟩, ⟨by (with_reducible repeat (first | refine blk_drewN ?_ _ | refine blk_drew ?_ | refine blk_alloc ?_ _)); exact BK505.out⟩, ⟨by (with_reducible repeat (first | refine blk_drewN ?_ _ | refine blk_drew ?_ | refine blk_alloc ?_ _)); exact BK514.out⟩, ⟨by repeat (first | (with_reducible first | exact HB.out | apply below_alloc | apply pw_below_drewN | apply below_drew1 | refine below_set ?_ GE505.out | refine below_set ?_ GE514.out) | exact HB.out)⟩⟩
        ·replace c45 := Bool.eq_false_iff.mpr c45
         subst c45
         have H1 : (laws_FnExactPlayTable.j1 kj8 a0 l1 t504 true t500 t501 t509 t510) = some r := by rw [if_neg (show ¬ (false = true) by decide)] at H; exact H
         clear H
         have H := H1
         clear H1
         have H' := Aside0.mk H
         clear H
         have hnb50 := NB514_505.out
         have hnc50 := NB505_514.out
         have hcz51_0 : w42.cell? ⟨gb514, 0, none⟩ = some (.int .i64 t509) := (blk_cell BK514.out 0).trans rfl
         have hcz51_1 : w42.cell? ⟨gb514, 1, none⟩ = some (.slice Ao22 t510.length co22) := (blk_cell BK514.out 1).trans rfl
         have hfz51_0 := blk_frozen BK514.out 0
         have hfz51_1 := blk_frozen BK514.out 1
         have hcz52_0 : w42.cell? ⟨gb505, 0, none⟩ = some (.int .i64 t500) := (blk_cell BK505.out 0).trans rfl
         have hcz52_1 : w42.cell? ⟨gb505, 1, none⟩ = some (.slice Ao15 t501.length co15) := (blk_cell BK505.out 1).trans rfl
         have hfz52_0 := blk_frozen BK505.out 0
         have hfz52_1 := blk_frozen BK505.out 1
         go_wp2_with (first | (go_at_call 14; (with_reducible refine (laws_eqTable.calls kj8 t509 _ _ t510 t500 _ _ t501 false _ ?side1 ?side2 ?side3 ?side4 A44.out).mono ?_); (case side1 => repeat (first | exact (Kd.R_reads' HO_515001.out).2.2 | (with_reducible refine Kd.C_alloc ?_ _) | (with_reducible refine Kd.C_drewN ?_ _) | (with_reducible refine Kd.C_drew ?_))); (case side2 => exact (Kd.R_reads' HO_515001.out).2.1); (case side3 => repeat (first | exact (Kd.R_reads' HO_506001.out).2.2 | (with_reducible refine Kd.C_alloc ?_ _) | (with_reducible refine Kd.C_drewN ?_ _) | (with_reducible refine Kd.C_drew ?_))); (case side4 => exact (Kd.R_reads' HO_506001.out).2.1); rintro e w53 ⟨rfl, hb⟩; have n0_ := Aside0.mk (Kd.R_below (by (with_reducible repeat (first | apply Kd.R_alloc | apply Kd.R_drewN | apply Kd.R_drew)); exact HO_8.out) hb); have n1_ := Aside0.mk (Kd.R_below (by (with_reducible repeat (first | apply Kd.R_alloc | apply Kd.R_drewN | apply Kd.R_drew)); exact HO_506001.out) hb); have n2_ := Aside0.mk (Kd.R_below (by (with_reducible repeat (first | apply Kd.R_alloc | apply Kd.R_drewN | apply Kd.R_drew)); exact HO_515001.out) hb); have n3_ := Aside0.mk (Kd.R_below (by (with_reducible repeat (first | apply Kd.R_alloc | apply Kd.R_drewN | apply Kd.R_drew)); exact HO518.out) hb); have n4_ := Aside0.mk (blk_below (g := gb505) (o := .cells #[.int .i64 t500, .slice Ao15 t501.length co15] 24 (0, 0)) (by (with_reducible repeat (first | refine blk_drewN ?_ _ | refine blk_drew ?_ | refine blk_alloc ?_ _)); exact BK505.out) hb); have n5_ := Aside0.mk (blk_below (g := gb514) (o := .cells #[.int .i64 t509, .slice Ao22 t510.length co22] 24 (0, 0)) (by (with_reducible repeat (first | refine blk_drewN ?_ _ | refine blk_drew ?_ | refine blk_alloc ?_ _)); exact BK514.out) hb); have n6_ := Aside0.mk (below_step (by repeat (first | (with_reducible first | exact HB.out | apply below_alloc | apply pw_below_drewN | apply below_drew1 | refine below_set ?_ GE505.out | refine below_set ?_ GE514.out) | exact HB.out)) hb); clear HO_8; clear HO_506001; clear HO_515001; clear HO518; clear BK505; clear BK514; clear HB; have HO_8 := n0_; have HO_506001 := n1_; have HO_515001 := n2_; have HO518 := n3_; have BK505 := n4_; have BK514 := n5_; have HB := n6_; clear n0_ n1_ n2_ n3_ n4_ n5_ n6_; (try clear hb); (try clear hb2); (try clear hk); (try clear hi)))
         go_meet
         case rel => exact ⟨_, (true), (by first | rfl | (simp; done) | (simp [*]; done)), H', ⟨by have := HJ8.out; first | omega | exact Nat.le_refl _⟩, ⟨by (with_reducible repeat (first | apply Kd.R_alloc | apply Kd.R_drewN | apply Kd.R_drew)); exact Kd.R_mono HO_506001.out (fun _ hk => hk.2.1)⟩, ⟨by (with_reducible repeat (first | apply Kd.R_alloc | apply Kd.R_drewN | apply Kd.R_drew)); exact Kd.R_mono HO_515001.out (fun _ hk => hk.2.1)⟩, ⟨by (with_reducible repeat (first | refine blk_drewN ?_ _ | refine blk_drew ?_ | refine blk_alloc ?_ _)); exact BK505.out⟩, ⟨by (with_reducible repeat (first | refine blk_drewN ?_ _ | refine blk_drew ?_ | refine blk_alloc ?_ _)); exact BK514.out⟩, ⟨by repeat (first | (with_reducible first | exact HB.out | apply below_alloc | apply pw_below_drewN | apply below_drew1 | refine below_set ?_ GE505.out | refine below_set ?_ GE514.out) | exact HB.out)⟩⟩
      case rest =>
       clear HC38
       try clear c1
       try clear c2
       try clear p2
       try clear c3
       try clear c4
       try clear c4b0
       try clear c5
       try clear c9
       try clear c14
       try clear c20
       try clear c23
       try clear c24
       try clear c25
       try clear c27
       try clear c29
       try clear c32
       try clear c33
       try clear c34
       try clear c36
       try clear c43
       try clear c43b0
       try clear c45
       try clear c46
       try clear c50
       try clear hcz14_0
       try clear hcz14_1
       try clear hcz21_0
       try clear hcz21_1
       try clear hcz26_0
       try clear hcz26_1
       try clear hcz27_0
       try clear hcz27_1
       try clear hcz30_0
       try clear hcz30_1
       try clear hcz31_0
       try clear hcz31_1
       try clear hcz47_0
       try clear hcz47_1
       try clear hcz48_0
       try clear hcz48_1
       try clear hcz51_0
       try clear hcz51_1
       try clear hcz52_0
       try clear hcz52_1
       try clear hfz14_0
       try clear hfz14_1
       try clear hfz21_0
       try clear hfz21_1
       try clear hfz26_0
       try clear hfz26_1
       try clear hfz27_0
       try clear hfz27_1
       try clear hfz30_0
       try clear hfz30_1
       try clear hfz31_0
       try clear hfz31_1
       try clear hfz47_0
       try clear hfz47_1
       try clear hfz48_0
       try clear hfz48_1
       try clear hfz51_0
       try clear hfz51_1
       try clear hfz52_0
       try clear hfz52_1
       try clear p2
       obtain ⟨kq, x65_37, rfl, HA, HJ37, HO_506001, HO_515001, BK505, BK514, HB⟩ := hcut
       cases kq with
       | zero => exact absurd HA.out (by simp [laws_FnExactPlayTable.j1])
       | succ kj37 =>
        have H := HA.out
        clear HA
        simp only [laws_FnExactPlayTable.j1] at H
        by_cases c54 : x65_37 = true
        ·subst c54
         have H1 : (some false) = some r := by rw [if_pos rfl] at H; exact H
         clear H
         have H := H1
         clear H1
         obtain rfl := Option.some.inj H
         go_wp2
         go_ret
         exact ⟨by first | rfl | (simp [errW_none, errW_some] <;> rfl) | (simp [*, errW_none, errW_some] <;> rfl), by repeat (first | (with_reducible first | exact HB.out | apply below_alloc | apply pw_below_drewN | apply below_drew1 | refine below_set ?_ GE505.out | refine below_set ?_ GE514.out) | exact HB.out)⟩
        ·replace c54 := Bool.eq_false_iff.mpr c54
         subst c54
         have H1 : ((laws_markTable.f kj37 t509 t510 1).bind fun bt523 => ((laws_heldTable.f kj37 t509 bt523.2 1).bind fun t525 => (if t525 < 0 then (some false) else (if t525 = bt523.1 then ((laws_toSeenS.f kj37 l1).bind fun t526 => ((impl_PlayTable.f kj37 a0 t526).bind fun bt529 => ((laws_eqTable.f kj37 bt529.1 bt529.2.1 t500 t501).bind fun t535 => (if t535 = true then (laws_FnExactPlayTable.j2 kj37 bt523.1 (bt529.2.2 != t504) t509 bt523.2) else (laws_FnExactPlayTable.j2 kj37 bt523.1 true t509 bt523.2))))) else (some false))))) = some r := by rw [if_neg (show ¬ (false = true) by decide)] at H; exact H
         clear H
         have H := H1
         clear H1
         replace H := Option.bind_eq_some_iff.mp H
         obtain ⟨⟨t523, t524⟩, A550, H⟩ := H
         replace H : ((laws_heldTable.f kj37 t509 t524 1).bind fun t525 => (if t525 < 0 then (some false) else (if t525 = t523 then ((laws_toSeenS.f kj37 l1).bind fun t526 => ((impl_PlayTable.f kj37 a0 t526).bind fun bt529 => ((laws_eqTable.f kj37 bt529.1 bt529.2.1 t500 t501).bind fun t535 => (if t535 = true then (laws_FnExactPlayTable.j2 kj37 t523 (bt529.2.2 != t504) t509 t524) else (laws_FnExactPlayTable.j2 kj37 t523 true t509 t524))))) else (some false)))) = some r := H
         have A55 := Aside0.mk A550
         clear A550
         replace H := Option.bind_eq_some_iff.mp H
         obtain ⟨t525, A560, H⟩ := H
         replace H : (if t525 < 0 then (some false) else (if t525 = t523 then ((laws_toSeenS.f kj37 l1).bind fun t526 => ((impl_PlayTable.f kj37 a0 t526).bind fun bt529 => ((laws_eqTable.f kj37 bt529.1 bt529.2.1 t500 t501).bind fun t535 => (if t535 = true then (laws_FnExactPlayTable.j2 kj37 t523 (bt529.2.2 != t504) t509 t524) else (laws_FnExactPlayTable.j2 kj37 t523 true t509 t524))))) else (some false))) = some r := H
         have A56 := Aside0.mk A560
         clear A560
         by_cases c57 : t525 < 0
         ·rw [if_pos c57] at H
          have c57b0 : decide (t525 < 0) = true := decide_eq_true c57
          clear c57
          obtain rfl := Option.some.inj H
          have hnb58 := NB514_505.out
          have hnc58 := NB505_514.out
          have hcz59_0 : wc.cell? ⟨gb514, 0, none⟩ = some (.int .i64 t509) := (blk_cell BK514.out 0).trans rfl
          have hcz59_1 : wc.cell? ⟨gb514, 1, none⟩ = some (.slice Ao22 t510.length co22) := (blk_cell BK514.out 1).trans rfl
          have hfz59_0 := blk_frozen BK514.out 0
          have hfz59_1 := blk_frozen BK514.out 1
          go_wp2_with (first | ((with_reducible refine gate_callee (f := 15) rfl ?_); refine goesL_ (some 68) rfl rfl Try.func15 (by kernel_rfl) rfl #[.agg #[.int .i64 t509, .slice Ao22 t510.length co22], .int .i64 1] rfl (by (try simp only [List.map_toArray, List.map_cons, List.map_nil]); first | done | rfl | (simp only [List.length_drop, List.length_take]; rfl)) ?_; (with_reducible refine (laws_markTable.calls kj37 t509 (fun k_ => some k_ = (.slice Ao22 t510.length co22 : Value).ownBlock) (.slice Ao22 t510.length co22) t510 1 t523 t524 w _ ?side1 ?side2 A55.out).mono ?_); (case side1 => repeat (first | (with_reducible first | exact HB.out | apply below_alloc | apply pw_below_drewN | apply below_drew1 | refine below_set ?_ GE505.out | refine below_set ?_ GE514.out) | exact HB.out)); (case side2 => exact Kd.R_tight rfl HO_515001.out); rintro e w60 ⟨rfl, hy0, hb, hkp⟩; refine ⟨_, rfl, ?_⟩; have n0_ := Aside0.mk (Kd.R_mono (ok' := fun k_ => some k_ ≠ (.slice Ao22 t510.length co22 : Value).ownBlock) (Kd.R_keptB (HO_506001.out) hkp (fun k_ hk_ hs_ => (hk_) hs_)) (fun k_ hk_ => hk_.1)); have n1_ := Aside0.mk (Kd.R_reok rfl hy0 (fun k_ e_ => HO_515001.out.1 k_ e_)); have n2_ := Aside0.mk (blk_kept (by (with_reducible repeat (first | refine blk_drewN ?_ _ | refine blk_drew ?_ | refine blk_alloc ?_ _)); exact BK505.out) hkp (fun hs_ => (fun e_ => (Kd.R_ne HO_515001.out BK505.out (by decide)) e_) hs_)); have n3_ := Aside0.mk (blk_kept (by (with_reducible repeat (first | refine blk_drewN ?_ _ | refine blk_drew ?_ | refine blk_alloc ?_ _)); exact BK514.out) hkp (fun hs_ => (fun e_ => (Kd.R_ne HO_515001.out BK514.out (by decide)) e_) hs_)); have n4_ := Aside0.mk (hb); clear HO_506001; clear HO_515001; clear BK505; clear BK514; clear HB; have HO_506001 := n0_; have HO_515001 := n1_; have BK505 := n2_; have BK514 := n3_; have HB := n4_; clear n0_ n1_ n2_ n3_ n4_; (try clear hb); (try clear hkp); (try clear hy0); have hcz61_0 : w60.cell? ⟨gb514, 0, none⟩ = some (.int .i64 t509) := (blk_cell BK514.out 0).trans rfl; have hcz61_1 : w60.cell? ⟨gb514, 1, none⟩ = some (.slice Ao22 t510.length co22) := (blk_cell BK514.out 1).trans rfl; have hfz61_0 := blk_frozen BK514.out 0; have hfz61_1 := blk_frozen BK514.out 1) | ((with_reducible refine gate_callee (f := 16) rfl ?_); refine goesL_ (some 71) rfl rfl Try.func16 (by kernel_rfl) rfl #[.agg #[.int .i64 t509, .slice Ao22 t524.length co22], .int .i64 1] rfl (by (try simp only [List.map_toArray, List.map_cons, List.map_nil]); first | done | (rw [show t524.length = t510.length from (Kd.R_reads' HO_515001.out).1.symm] <;> rfl) | rfl | (simp only [List.length_drop, List.length_take]; rfl)) ?_; (with_reducible refine (laws_heldTable.calls kj37 t509 _ _ t524 1 t525 _ ?side1 ?side2 A56.out).mono ?_); (case side1 => repeat (first | exact (Kd.R_reads' HO_515001.out).2.2 | (with_reducible refine Kd.C_alloc ?_ _) | (with_reducible refine Kd.C_drewN ?_ _) | (with_reducible refine Kd.C_drew ?_))); (case side2 => rw [show t524.length = t510.length from (Kd.R_reads' HO_515001.out).1.symm]; exact (Kd.R_reads' HO_515001.out).2.1); rintro e w62 ⟨rfl, hb⟩; refine ⟨_, rfl, ?_⟩; have n0_ := Aside0.mk (Kd.R_below (by (with_reducible repeat (first | apply Kd.R_alloc | apply Kd.R_drewN | apply Kd.R_drew)); exact HO_506001.out) hb); have n1_ := Aside0.mk (Kd.R_below (by (with_reducible repeat (first | apply Kd.R_alloc | apply Kd.R_drewN | apply Kd.R_drew)); exact HO_515001.out) hb); have n2_ := Aside0.mk (blk_below (g := gb505) (o := .cells #[.int .i64 t500, .slice Ao15 t501.length co15] 24 (0, 0)) (by (with_reducible repeat (first | refine blk_drewN ?_ _ | refine blk_drew ?_ | refine blk_alloc ?_ _)); exact BK505.out) hb); have n3_ := Aside0.mk (blk_below (g := gb514) (o := .cells #[.int .i64 t509, .slice Ao22 t510.length co22] 24 (0, 0)) (by (with_reducible repeat (first | refine blk_drewN ?_ _ | refine blk_drew ?_ | refine blk_alloc ?_ _)); exact BK514.out) hb); have n4_ := Aside0.mk (below_step (by repeat (first | (with_reducible first | exact HB.out | apply below_alloc | apply pw_below_drewN | apply below_drew1 | refine below_set ?_ GE505.out | refine below_set ?_ GE514.out) | exact HB.out)) hb); clear HO_506001; clear HO_515001; clear BK505; clear BK514; clear HB; have HO_506001 := n0_; have HO_515001 := n1_; have BK505 := n2_; have BK514 := n3_; have HB := n4_; clear n0_ n1_ n2_ n3_ n4_; (try clear hb); (try clear hb2); (try clear hk); (try clear hi)))
          go_ret
          exact ⟨by first | rfl | (simp [errW_none, errW_some] <;> rfl) | (simp [*, errW_none, errW_some] <;> rfl), by repeat (first | (with_reducible first | exact HB.out | apply below_alloc | apply pw_below_drewN | apply below_drew1 | refine below_set ?_ GE505.out | refine below_set ?_ GE514.out) | exact HB.out)⟩
         ·rw [if_neg c57] at H
          have c57b0 : decide (t525 < 0) = false := decide_eq_false c57
          clear c57
          by_cases c63 : t525 = t523
          ·rw [if_pos c63] at H
           have c63b0 : (t525 == t523) = true := beq_iff_eq.mpr c63
           have c63b1 : (t525 != t523) = false := bne_eq_false_iff_eq.mpr c63
           clear c63
           replace H := Option.bind_eq_some_iff.mp H
           obtain ⟨t526, A640, H⟩ := H
           replace H : ((impl_PlayTable.f kj37 a0 t526).bind fun bt529 => ((laws_eqTable.f kj37 bt529.1 bt529.2.1 t500 t501).bind fun t535 => (if t535 = true then (laws_FnExactPlayTable.j2 kj37 t523 (bt529.2.2 != t504) t509 t524) else (laws_FnExactPlayTable.j2 kj37 t523 true t509 t524)))) = some r := H
           have A64 := Aside0.mk A640
           clear A640
           replace H := Option.bind_eq_some_iff.mp H
           obtain ⟨⟨t529, t530, t533⟩, A650, H⟩ := H
           replace H : ((laws_eqTable.f kj37 t529 t530 t500 t501).bind fun t535 => (if t535 = true then (laws_FnExactPlayTable.j2 kj37 t523 (t533 != t504) t509 t524) else (laws_FnExactPlayTable.j2 kj37 t523 true t509 t524))) = some r := H
           have A65 := Aside0.mk A650
           clear A650
           have HC66 := Aside0.mk H
           clear H
           have hnb67 := NB514_505.out
           have hnc67 := NB505_514.out
           have hcz68_0 : wc.cell? ⟨gb514, 0, none⟩ = some (.int .i64 t509) := (blk_cell BK514.out 0).trans rfl
           have hcz68_1 : wc.cell? ⟨gb514, 1, none⟩ = some (.slice Ao22 t510.length co22) := (blk_cell BK514.out 1).trans rfl
           have hfz68_0 := blk_frozen BK514.out 0
           have hfz68_1 := blk_frozen BK514.out 1
           go_upto_region 25 with (first | ((with_reducible refine gate_callee (f := 15) rfl ?_); refine goesL_ (some 68) rfl rfl Try.func15 (by kernel_rfl) rfl #[.agg #[.int .i64 t509, .slice Ao22 t510.length co22], .int .i64 1] rfl (by (try simp only [List.map_toArray, List.map_cons, List.map_nil]); first | done | rfl | (simp only [List.length_drop, List.length_take]; rfl)) ?_; (with_reducible refine (laws_markTable.calls kj37 t509 (fun k_ => some k_ = (.slice Ao22 t510.length co22 : Value).ownBlock) (.slice Ao22 t510.length co22) t510 1 t523 t524 w _ ?side1 ?side2 A55.out).mono ?_); (case side1 => repeat (first | (with_reducible first | exact HB.out | apply below_alloc | apply pw_below_drewN | apply below_drew1 | refine below_set ?_ GE505.out | refine below_set ?_ GE514.out) | exact HB.out)); (case side2 => exact Kd.R_tight rfl HO_515001.out); rintro e w69 ⟨rfl, hy0, hb, hkp⟩; refine ⟨_, rfl, ?_⟩; have n0_ := Aside0.mk (Kd.R_mono (ok' := fun k_ => some k_ ≠ (.slice Ao22 t510.length co22 : Value).ownBlock) (Kd.R_keptB (HO_506001.out) hkp (fun k_ hk_ hs_ => (hk_) hs_)) (fun k_ hk_ => hk_.1)); have n1_ := Aside0.mk (Kd.R_reok rfl hy0 (fun k_ e_ => HO_515001.out.1 k_ e_)); have n2_ := Aside0.mk (blk_kept (by (with_reducible repeat (first | refine blk_drewN ?_ _ | refine blk_drew ?_ | refine blk_alloc ?_ _)); exact BK505.out) hkp (fun hs_ => (fun e_ => (Kd.R_ne HO_515001.out BK505.out (by decide)) e_) hs_)); have n3_ := Aside0.mk (blk_kept (by (with_reducible repeat (first | refine blk_drewN ?_ _ | refine blk_drew ?_ | refine blk_alloc ?_ _)); exact BK514.out) hkp (fun hs_ => (fun e_ => (Kd.R_ne HO_515001.out BK514.out (by decide)) e_) hs_)); have n4_ := Aside0.mk (hb); clear HO_506001; clear HO_515001; clear BK505; clear BK514; clear HB; have HO_506001 := n0_; have HO_515001 := n1_; have BK505 := n2_; have BK514 := n3_; have HB := n4_; clear n0_ n1_ n2_ n3_ n4_; (try clear hb); (try clear hkp); (try clear hy0); have hcz70_0 : w69.cell? ⟨gb514, 0, none⟩ = some (.int .i64 t509) := (blk_cell BK514.out 0).trans rfl; have hcz70_1 : w69.cell? ⟨gb514, 1, none⟩ = some (.slice Ao22 t510.length co22) := (blk_cell BK514.out 1).trans rfl; have hfz70_0 := blk_frozen BK514.out 0; have hfz70_1 := blk_frozen BK514.out 1) | ((with_reducible refine gate_callee (f := 16) rfl ?_); refine goesL_ (some 71) rfl rfl Try.func16 (by kernel_rfl) rfl #[.agg #[.int .i64 t509, .slice Ao22 t524.length co22], .int .i64 1] rfl (by (try simp only [List.map_toArray, List.map_cons, List.map_nil]); first | done | (rw [show t524.length = t510.length from (Kd.R_reads' HO_515001.out).1.symm] <;> rfl) | rfl | (simp only [List.length_drop, List.length_take]; rfl)) ?_; (with_reducible refine (laws_heldTable.calls kj37 t509 _ _ t524 1 t525 _ ?side1 ?side2 A56.out).mono ?_); (case side1 => repeat (first | exact (Kd.R_reads' HO_515001.out).2.2 | (with_reducible refine Kd.C_alloc ?_ _) | (with_reducible refine Kd.C_drewN ?_ _) | (with_reducible refine Kd.C_drew ?_))); (case side2 => rw [show t524.length = t510.length from (Kd.R_reads' HO_515001.out).1.symm]; exact (Kd.R_reads' HO_515001.out).2.1); rintro e w71 ⟨rfl, hb⟩; refine ⟨_, rfl, ?_⟩; have n0_ := Aside0.mk (Kd.R_below (by (with_reducible repeat (first | apply Kd.R_alloc | apply Kd.R_drewN | apply Kd.R_drew)); exact HO_506001.out) hb); have n1_ := Aside0.mk (Kd.R_below (by (with_reducible repeat (first | apply Kd.R_alloc | apply Kd.R_drewN | apply Kd.R_drew)); exact HO_515001.out) hb); have n2_ := Aside0.mk (blk_below (g := gb505) (o := .cells #[.int .i64 t500, .slice Ao15 t501.length co15] 24 (0, 0)) (by (with_reducible repeat (first | refine blk_drewN ?_ _ | refine blk_drew ?_ | refine blk_alloc ?_ _)); exact BK505.out) hb); have n3_ := Aside0.mk (blk_below (g := gb514) (o := .cells #[.int .i64 t509, .slice Ao22 t510.length co22] 24 (0, 0)) (by (with_reducible repeat (first | refine blk_drewN ?_ _ | refine blk_drew ?_ | refine blk_alloc ?_ _)); exact BK514.out) hb); have n4_ := Aside0.mk (below_step (by repeat (first | (with_reducible first | exact HB.out | apply below_alloc | apply pw_below_drewN | apply below_drew1 | refine below_set ?_ GE505.out | refine below_set ?_ GE514.out) | exact HB.out)) hb); clear HO_506001; clear HO_515001; clear BK505; clear BK514; clear HB; have HO_506001 := n0_; have HO_515001 := n1_; have BK505 := n2_; have BK514 := n3_; have HB := n4_; clear n0_ n1_ n2_ n3_ n4_; (try clear hb); (try clear hb2); (try clear hk); (try clear hi)) | ((with_reducible refine gate_callee (f := 25) rfl ?_); refine goesL_ (some 80) rfl rfl Try.func25 (by kernel_rfl) rfl #[.slice A1 l1.length c1] rfl (by (try simp only [List.map_toArray, List.map_cons, List.map_nil]); first | done | rfl | (simp only [List.length_drop, List.length_take]; rfl)) ?_; (with_reducible refine (laws_toSeenS.calls kj37 _ _ l1 t526 _ ?side1 ?side2 A64.out).mono ?_); (case side1 => repeat (first | exact (Kd.C_below HR1.out HB.out) | (with_reducible refine Kd.C_alloc ?_ _) | (with_reducible refine Kd.C_drewN ?_ _) | (with_reducible refine Kd.C_drew ?_))); (case side2 => exact HC1.out); rintro e w72 ⟨v527, rfl, ho0, hb⟩; refine ⟨_, rfl, ?_⟩; have n0_ := Aside0.mk (Kd.R_elder' (by (with_reducible repeat (first | apply Kd.R_alloc | apply Kd.R_drewN | apply Kd.R_drew)); exact HO_506001.out) (Kd.R_base ho0) hb); have n1_ := Aside0.mk (Kd.R_elder' (by (with_reducible repeat (first | apply Kd.R_alloc | apply Kd.R_drewN | apply Kd.R_drew)); exact HO_515001.out) (Kd.R_base ho0) hb); have n2_ := Aside0.mk (Kd.R_lower (Kd.R_new' (Kd.R_new' ho0 (Kd.R_lt (by (with_reducible repeat (first | apply Kd.R_alloc | apply Kd.R_drewN | apply Kd.R_drew)); exact HO_506001.out))) (Kd.R_lt (by (with_reducible repeat (first | apply Kd.R_alloc | apply Kd.R_drewN | apply Kd.R_drew)); exact HO_515001.out))) (below_size (by repeat (first | (with_reducible first | exact HB.out | apply below_alloc | apply pw_below_drewN | apply below_drew1 | refine below_set ?_ GE505.out | refine below_set ?_ GE514.out) | exact HB.out)))); have n3_ := Aside0.mk (blk_below (g := gb505) (o := .cells #[.int .i64 t500, .slice Ao15 t501.length co15] 24 (0, 0)) (by (with_reducible repeat (first | refine blk_drewN ?_ _ | refine blk_drew ?_ | refine blk_alloc ?_ _)); exact BK505.out) hb); have n4_ := Aside0.mk (blk_below (g := gb514) (o := .cells #[.int .i64 t509, .slice Ao22 t510.length co22] 24 (0, 0)) (by (with_reducible repeat (first | refine blk_drewN ?_ _ | refine blk_drew ?_ | refine blk_alloc ?_ _)); exact BK514.out) hb); have n5_ := Aside0.mk (below_step (by repeat (first | (with_reducible first | exact HB.out | apply below_alloc | apply pw_below_drewN | apply below_drew1 | refine below_set ?_ GE505.out | refine below_set ?_ GE514.out) | exact HB.out)) hb); clear HO_506001; clear HO_515001; clear BK505; clear BK514; clear HB; have HO_506001 := n0_; have HO_515001 := n1_; have HO528 := n2_; have BK505 := n3_; have BK514 := n4_; have HB := n5_; clear n0_ n1_ n2_ n3_ n4_ n5_; (try clear hb); (try clear hb2); (try clear hk); (try clear hi); (try clear ho0); obtain ⟨Ao73, co73, eo73⟩ := Kd.R_slice HO528.out; subst eo73) | ((with_reducible refine gate_callee (f := 33) rfl ?_); refine goesL_ (some 81) rfl rfl Try.func33 (by kernel_rfl) rfl #[.int .i64 a0, .slice Ao73 t526.length co73] rfl (by (try simp only [List.map_toArray, List.map_cons, List.map_nil]); first | done | rfl | (simp only [List.length_drop, List.length_take]; rfl)) ?_; (with_reducible refine (impl_PlayTable.calls kj37 a0 _ _ t526 t529 t530 t533 _ ?side1 ?side2 A65.out).mono ?_); (case side1 => repeat (first | exact (Kd.R_reads' HO528.out).2.2 | (with_reducible refine Kd.C_alloc ?_ _) | (with_reducible refine Kd.C_drewN ?_ _) | (with_reducible refine Kd.C_drew ?_))); (case side2 => exact (Kd.R_reads' HO528.out).2.1); rintro e w74 ⟨v531, rfl, ho0, hb⟩; refine ⟨_, rfl, ?_⟩; have n0_ := Aside0.mk (Kd.R_elder' (by (with_reducible repeat (first | apply Kd.R_alloc | apply Kd.R_drewN | apply Kd.R_drew)); exact HO_506001.out) (Kd.R_base ho0) hb); have n1_ := Aside0.mk (Kd.R_elder' (by (with_reducible repeat (first | apply Kd.R_alloc | apply Kd.R_drewN | apply Kd.R_drew)); exact HO_515001.out) (Kd.R_base ho0) hb); have n2_ := Aside0.mk (Kd.R_elder' (by (with_reducible repeat (first | apply Kd.R_alloc | apply Kd.R_drewN | apply Kd.R_drew)); exact HO528.out) (Kd.R_base ho0) hb); have n3_ := Aside0.mk (Kd.R_lower (Kd.R_new' (Kd.R_new' (Kd.R_new' ho0 (Kd.R_lt (by (with_reducible repeat (first | apply Kd.R_alloc | apply Kd.R_drewN | apply Kd.R_drew)); exact HO_506001.out))) (Kd.R_lt (by (with_reducible repeat (first | apply Kd.R_alloc | apply Kd.R_drewN | apply Kd.R_drew)); exact HO_515001.out))) (Kd.R_lt (by (with_reducible repeat (first | apply Kd.R_alloc | apply Kd.R_drewN | apply Kd.R_drew)); exact HO528.out))) (below_size (by repeat (first | (with_reducible first | exact HB.out | apply below_alloc | apply pw_below_drewN | apply below_drew1 | refine below_set ?_ GE505.out | refine below_set ?_ GE514.out) | exact HB.out)))); have n4_ := Aside0.mk (blk_below (g := gb505) (o := .cells #[.int .i64 t500, .slice Ao15 t501.length co15] 24 (0, 0)) (by (with_reducible repeat (first | refine blk_drewN ?_ _ | refine blk_drew ?_ | refine blk_alloc ?_ _)); exact BK505.out) hb); have n5_ := Aside0.mk (blk_below (g := gb514) (o := .cells #[.int .i64 t509, .slice Ao22 t510.length co22] 24 (0, 0)) (by (with_reducible repeat (first | refine blk_drewN ?_ _ | refine blk_drew ?_ | refine blk_alloc ?_ _)); exact BK514.out) hb); have n6_ := Aside0.mk (below_step (by repeat (first | (with_reducible first | exact HB.out | apply below_alloc | apply pw_below_drewN | apply below_drew1 | refine below_set ?_ GE505.out | refine below_set ?_ GE514.out) | exact HB.out)) hb); clear HO_506001; clear HO_515001; clear HO528; clear BK505; clear BK514; clear HB; have HO_506001 := n0_; have HO_515001 := n1_; have HO528 := n2_; have HO532 := n3_; have BK505 := n4_; have BK514 := n5_; have HB := n6_; clear n0_ n1_ n2_ n3_ n4_ n5_ n6_; (try clear hb); (try clear hb2); (try clear hk); (try clear hi); (try clear ho0)) | ((with_reducible refine gate_dst (N := 14) rfl ?_); refine box_event ?hg (N := 14) ?hd (cs := #[.int .i64 0, .slice none 0 0]) (t := 24) ?hr ?_; (case hd => rfl); (case hg => rfl); (case hr => first | (go_simp; done) | (go_simp; rfl)); intro gb534 hg w75 hbox hb; have n0_ := Aside0.mk (Kd.R_below (by (with_reducible repeat (first | apply Kd.R_alloc | apply Kd.R_drewN | apply Kd.R_drew)); exact HO_506001.out) hb); have n1_ := Aside0.mk (Kd.R_below (by (with_reducible repeat (first | apply Kd.R_alloc | apply Kd.R_drewN | apply Kd.R_drew)); exact HO_515001.out) hb); have n2_ := Aside0.mk (Kd.R_below (by (with_reducible repeat (first | apply Kd.R_alloc | apply Kd.R_drewN | apply Kd.R_drew)); exact HO528.out) hb); have n3_ := Aside0.mk (Kd.R_below (by (with_reducible repeat (first | apply Kd.R_alloc | apply Kd.R_drewN | apply Kd.R_drew)); exact HO532.out) hb); have n4_ := Aside0.mk (blk_below (g := gb505) (o := .cells #[.int .i64 t500, .slice Ao15 t501.length co15] 24 (0, 0)) (by (with_reducible repeat (first | refine blk_drewN ?_ _ | refine blk_drew ?_ | refine blk_alloc ?_ _)); exact BK505.out) hb); have n5_ := Aside0.mk (blk_below (g := gb514) (o := .cells #[.int .i64 t509, .slice Ao22 t510.length co22] 24 (0, 0)) (by (with_reducible repeat (first | refine blk_drewN ?_ _ | refine blk_drew ?_ | refine blk_alloc ?_ _)); exact BK514.out) hb); have n6_ := Aside0.mk (below_step (by repeat (first | (with_reducible first | exact HB.out | apply below_alloc | apply pw_below_drewN | apply below_drew1 | refine below_set ?_ GE505.out | refine below_set ?_ GE514.out) | exact HB.out)) hb); have n7_ := Aside0.mk (hbox); have n8_ := Aside0.mk ((by rw [hg]; exact (below_size (by repeat (first | (with_reducible first | exact HB.out | apply below_alloc | apply pw_below_drewN | apply below_drew1 | refine below_set ?_ GE505.out | refine below_set ?_ GE514.out) | exact HB.out))) : w.heap.size ≤ gb534)); have n9_ := Aside0.mk ((by rw [hg]; exact (below_size (by repeat (first | (with_reducible first | exact HB.out | apply below_alloc | apply pw_below_drewN | apply below_drew1 | refine below_set ?_ GE505.out | refine below_set ?_ GE514.out) | exact HB.out))) : w.heap.size ≤ gb534)); have n10_ := Aside0.mk ((by rw [hg]; exact Nat.ne_of_lt (blk_lt (g := gb505) (o := .cells #[.int .i64 t500, .slice Ao15 t501.length co15] 24 (0, 0)) (by (with_reducible repeat (first | refine blk_drewN ?_ _ | refine blk_drew ?_ | refine blk_alloc ?_ _)); exact BK505.out)) : gb505 ≠ gb534)); have n11_ := Aside0.mk ((by rw [hg]; exact Nat.ne_of_gt (blk_lt (g := gb505) (o := .cells #[.int .i64 t500, .slice Ao15 t501.length co15] 24 (0, 0)) (by (with_reducible repeat (first | refine blk_drewN ?_ _ | refine blk_drew ?_ | refine blk_alloc ?_ _)); exact BK505.out)) : gb534 ≠ gb505)); have n12_ := Aside0.mk ((by rw [hg]; exact Nat.ne_of_lt (blk_lt (g := gb514) (o := .cells #[.int .i64 t509, .slice Ao22 t510.length co22] 24 (0, 0)) (by (with_reducible repeat (first | refine blk_drewN ?_ _ | refine blk_drew ?_ | refine blk_alloc ?_ _)); exact BK514.out)) : gb514 ≠ gb534)); have n13_ := Aside0.mk ((by rw [hg]; exact Nat.ne_of_gt (blk_lt (g := gb514) (o := .cells #[.int .i64 t509, .slice Ao22 t510.length co22] 24 (0, 0)) (by (with_reducible repeat (first | refine blk_drewN ?_ _ | refine blk_drew ?_ | refine blk_alloc ?_ _)); exact BK514.out)) : gb534 ≠ gb514)); clear HO_506001; clear HO_515001; clear HO528; clear HO532; clear BK505; clear BK514; clear HB; have HO_506001 := n0_; have HO_515001 := n1_; have HO528 := n2_; have HO532 := n3_; have BK505 := n4_; have BK514 := n5_; have HB := n6_; have BK534 := n7_; have GW534 := n8_; have GE534 := n9_; have NB505_534 := n10_; have NB534_505 := n11_; have NB514_534 := n12_; have NB534_514 := n13_; clear n0_ n1_ n2_ n3_ n4_ n5_ n6_ n7_ n8_ n9_ n10_ n11_ n12_ n13_; clear hb hbox hg; have hnb76 := NB534_505.out; have hnc76 := NB505_534.out; have hnb77 := NB534_514.out; have hnc77 := NB514_534.out; have hcz78_0 : w75.cell? ⟨gb534, 0, none⟩ = some (.int .i64 0) := (blk_cell BK534.out 0).trans rfl; have hcz78_1 : w75.cell? ⟨gb534, 1, none⟩ = some (.slice none 0 0) := (blk_cell BK534.out 1).trans rfl; have hfz78_0 := blk_frozen BK534.out 0; have hfz78_1 := blk_frozen BK534.out 1; obtain ⟨Ao79, co79, eo79⟩ := Kd.R_slice HO532.out; subst eo79))
           (try simp only [Act.put, List.setIfInBounds_toArray, List.set_cons_zero, List.set_cons_succ])
           go_cut [92] (fun v92 wc => ∃ (kq : Nat) (x92_65 : Bool), v92 = .bool x92_65 ∧ Aside0 (laws_FnExactPlayTable.j2 kq t523 x92_65 t509 t524 = some r) ∧ Aside0 (kq ≤ kj37) ∧ Aside0 (Kd.R k53 53 wc w.heap.size (fun k_ => some k_ ≠ ((.slice Ao22 t510.length co22) : Value).ownBlock ∧ some k_ ≠ ((.slice Ao79 t530.length co79) : Value).ownBlock) (.slice Ao15 t501.length co15) t501) ∧ Aside0 (Kd.R k53 53 wc w.heap.size (fun k_ => some k_ ≠ ((.slice Ao15 t501.length co15) : Value).ownBlock ∧ some k_ ≠ ((.slice Ao79 t530.length co79) : Value).ownBlock) (.slice Ao22 t510.length co22) t524) ∧ Aside0 (Kd.R k53 53 wc w.heap.size (fun k_ => some k_ ≠ ((.slice Ao15 t501.length co15) : Value).ownBlock ∧ some k_ ≠ ((.slice Ao22 t510.length co22) : Value).ownBlock) (.slice Ao79 t530.length co79) t530) ∧ Aside0 (wc.heap[gb505]? = some (.cells #[.int .i64 t500, (.slice Ao15 t501.length co15)] 24 (0, 0))) ∧ Aside0 (wc.heap[gb514]? = some (.cells #[.int .i64 t509, (.slice Ao22 t510.length co22)] 24 (0, 0))) ∧ Aside0 (wc.heap[gb534]? = some (.cells #[.int .i64 t529, (.slice Ao79 t530.length co79)] 24 (0, 0))) ∧ Aside0 (Below w.heap.size w wc))
           case first =>
            have H := HC66.out
            clear HC66
            replace H := Option.bind_eq_some_iff.mp H
            obtain ⟨t535, A800, H⟩ := H
            replace H : (if t535 = true then (laws_FnExactPlayTable.j2 kj37 t523 (t533 != t504) t509 t524) else (laws_FnExactPlayTable.j2 kj37 t523 true t509 t524)) = some r := H
            have A80 := Aside0.mk A800
            clear A800
            by_cases c81 : t535 = true
            ·subst c81
             have H1 : (laws_FnExactPlayTable.j2 kj37 t523 (t533 != t504) t509 t524) = some r := by rw [if_pos rfl] at H; exact H
             clear H
             have H := H1
             clear H1
             have H' := Aside0.mk H
             clear H
             have hnb82 := NB534_505.out
             have hnc82 := NB505_534.out
             have hnb83 := NB534_514.out
             have hnc83 := NB514_534.out
             have hcz84_0 : w75.cell? ⟨gb534, 0, none⟩ = some (.int .i64 0) := (blk_cell BK534.out 0).trans rfl
             have hcz84_1 : w75.cell? ⟨gb534, 1, none⟩ = some (.slice none 0 0) := (blk_cell BK534.out 1).trans rfl
             have hfz84_0 := blk_frozen BK534.out 0
             have hfz84_1 := blk_frozen BK534.out 1
             have hnb85 := NB505_514.out
             have hnc85 := NB514_505.out
             have hcz86_0 : w75.cell? ⟨gb505, 0, none⟩ = some (.int .i64 t500) := (blk_cell BK505.out 0).trans rfl
             have hcz86_1 : w75.cell? ⟨gb505, 1, none⟩ = some (.slice Ao15 t501.length co15) := (blk_cell BK505.out 1).trans rfl
             have hfz86_0 := blk_frozen BK505.out 0
             have hfz86_1 := blk_frozen BK505.out 1
             go_wp2_with (first | ((with_reducible refine gate_callee (f := 14) rfl ?_); refine goesL_ (some 86) rfl rfl Try.func14 (by kernel_rfl) rfl #[.agg #[.int .i64 t529, .slice Ao79 t530.length co79], .agg #[.int .i64 t500, .slice Ao15 t501.length co15]] rfl (by (try simp only [List.map_toArray, List.map_cons, List.map_nil]); first | done | rfl | (simp only [List.length_drop, List.length_take]; rfl)) ?_; (with_reducible refine (laws_eqTable.calls kj37 t529 _ _ t530 t500 _ _ t501 true _ ?side1 ?side2 ?side3 ?side4 A80.out).mono ?_); (case side1 => refine (Kd.R_reads' (e := 53) (base := w.heap.size) (ok := fun k_ => (((True ∧ some k_ ≠ (.slice Ao15 t501.length co15 : Value).ownBlock) ∧ some k_ ≠ (.slice Ao22 t510.length co22 : Value).ownBlock) ∧ some k_ ≠ (.slice Ao73 t526.length co73 : Value).ownBlock)) (n := t530.length) (c := co79) ?_).2.2; exact (by (with_reducible repeat (first | apply Kd.R_alloc | apply Kd.R_drewN | apply Kd.R_drew)); exact (Kd.R_mono (Kd.R_far (p := ⟨gb534, 1, none⟩) (Kd.R_far (p := ⟨gb534, 0, none⟩) (Kd.R_types HO532.out BK534.out (by decide)) (fun _ hk => hk.2) (.int .i64 t529)) (fun _ hk => hk.2) (.slice Ao79 t530.length co79)) (fun _ h_ => h_.1)))); (case side2 => exact (Kd.R_reads' HO532.out).2.1); (case side3 => refine (Kd.R_reads' (e := 53) (base := w.heap.size) (ok := fun k_ => ((some k_ ≠ (.slice Ao22 t510.length co22 : Value).ownBlock ∧ some k_ ≠ (.slice Ao73 t526.length co73 : Value).ownBlock) ∧ some k_ ≠ (.slice Ao79 t530.length co79 : Value).ownBlock)) (n := t501.length) (c := co15) ?_).2.2; exact (by (with_reducible repeat (first | apply Kd.R_alloc | apply Kd.R_drewN | apply Kd.R_drew)); exact (Kd.R_mono (Kd.R_far (p := ⟨gb534, 1, none⟩) (Kd.R_far (p := ⟨gb534, 0, none⟩) (Kd.R_types HO_506001.out BK534.out (by decide)) (fun _ hk => hk.2) (.int .i64 t529)) (fun _ hk => hk.2) (.slice Ao79 t530.length co79)) (fun _ h_ => h_.1)))); (case side4 => exact (Kd.R_reads' HO_506001.out).2.1); rintro e w87 ⟨rfl, hb⟩; refine ⟨_, rfl, ?_⟩; have n0_ := Aside0.mk (Kd.R_below (by (with_reducible repeat (first | apply Kd.R_alloc | apply Kd.R_drewN | apply Kd.R_drew)); exact (Kd.R_mono (Kd.R_far (p := ⟨gb534, 1, none⟩) (Kd.R_far (p := ⟨gb534, 0, none⟩) (Kd.R_types HO_506001.out BK534.out (by decide)) (fun _ hk => hk.2) (.int .i64 t529)) (fun _ hk => hk.2) (.slice Ao79 t530.length co79)) (fun _ h_ => h_.1))) hb); have n1_ := Aside0.mk (Kd.R_below (by (with_reducible repeat (first | apply Kd.R_alloc | apply Kd.R_drewN | apply Kd.R_drew)); exact (Kd.R_mono (Kd.R_far (p := ⟨gb534, 1, none⟩) (Kd.R_far (p := ⟨gb534, 0, none⟩) (Kd.R_types HO_515001.out BK534.out (by decide)) (fun _ hk => hk.2) (.int .i64 t529)) (fun _ hk => hk.2) (.slice Ao79 t530.length co79)) (fun _ h_ => h_.1))) hb); have n2_ := Aside0.mk (Kd.R_below (by (with_reducible repeat (first | apply Kd.R_alloc | apply Kd.R_drewN | apply Kd.R_drew)); exact (Kd.R_mono (Kd.R_far (p := ⟨gb534, 1, none⟩) (Kd.R_far (p := ⟨gb534, 0, none⟩) (Kd.R_types HO528.out BK534.out (by decide)) (fun _ hk => hk.2) (.int .i64 t529)) (fun _ hk => hk.2) (.slice Ao79 t530.length co79)) (fun _ h_ => h_.1))) hb); have n3_ := Aside0.mk (Kd.R_below (by (with_reducible repeat (first | apply Kd.R_alloc | apply Kd.R_drewN | apply Kd.R_drew)); exact (Kd.R_mono (Kd.R_far (p := ⟨gb534, 1, none⟩) (Kd.R_far (p := ⟨gb534, 0, none⟩) (Kd.R_types HO532.out BK534.out (by decide)) (fun _ hk => hk.2) (.int .i64 t529)) (fun _ hk => hk.2) (.slice Ao79 t530.length co79)) (fun _ h_ => h_.1))) hb); have n4_ := Aside0.mk (blk_below (g := gb505) (o := .cells #[.int .i64 t500, .slice Ao15 t501.length co15] 24 (0, 0)) (by (with_reducible repeat (first | refine blk_drewN ?_ _ | refine blk_drew ?_ | refine blk_alloc ?_ _)); refine blk_far ?_ NB505_534.out _; (with_reducible repeat (first | refine blk_drewN ?_ _ | refine blk_drew ?_ | refine blk_alloc ?_ _)); refine blk_far ?_ NB505_534.out _; (with_reducible repeat (first | refine blk_drewN ?_ _ | refine blk_drew ?_ | refine blk_alloc ?_ _)); exact BK505.out) hb); have n5_ := Aside0.mk (blk_below (g := gb514) (o := .cells #[.int .i64 t509, .slice Ao22 t510.length co22] 24 (0, 0)) (by (with_reducible repeat (first | refine blk_drewN ?_ _ | refine blk_drew ?_ | refine blk_alloc ?_ _)); refine blk_far ?_ NB514_534.out _; (with_reducible repeat (first | refine blk_drewN ?_ _ | refine blk_drew ?_ | refine blk_alloc ?_ _)); refine blk_far ?_ NB514_534.out _; (with_reducible repeat (first | refine blk_drewN ?_ _ | refine blk_drew ?_ | refine blk_alloc ?_ _)); exact BK514.out) hb); have n6_ := Aside0.mk (blk_below (g := gb534) (o := .cells #[.int .i64 t529, .slice Ao79 t530.length co79] 24 (0, 0)) (by (with_reducible repeat (first | refine blk_drewN ?_ _ | refine blk_drew ?_ | refine blk_alloc ?_ _)); refine blk_put (cs := #[.int .i64 t529, .slice none 0 0]) ?_ 1 _ rfl; (with_reducible repeat (first | refine blk_drewN ?_ _ | refine blk_drew ?_ | refine blk_alloc ?_ _)); refine blk_put (cs := #[.int .i64 0, .slice none 0 0]) ?_ 0 _ rfl; (with_reducible repeat (first | refine blk_drewN ?_ _ | refine blk_drew ?_ | refine blk_alloc ?_ _)); exact BK534.out) hb); have n7_ := Aside0.mk (below_step (by repeat (first | (with_reducible first | exact HB.out | apply below_alloc | apply pw_below_drewN | apply below_drew1 | refine below_set ?_ GE505.out | refine below_set ?_ GE514.out | refine below_set ?_ GE534.out) | exact HB.out)) hb); clear HO_506001; clear HO_515001; clear HO528; clear HO532; clear BK505; clear BK514; clear BK534; clear HB; have HO_506001 := n0_; have HO_515001 := n1_; have HO528 := n2_; have HO532 := n3_; have BK505 := n4_; have BK514 := n5_; have BK534 := n6_; have HB := n7_; clear n0_ n1_ n2_ n3_ n4_ n5_ n6_ n7_; (try clear hb); (try clear hb2); (try clear hk); (try clear hi)))
             go_meet
             case rel => exact ⟨_, ((t533 != t504)), (by first | rfl | (simp; done) | (simp [*]; done)), H', ⟨by have := HJ8.out; have := HJ37.out; first | omega | exact Nat.le_refl _⟩, ⟨by (with_reducible repeat (first | apply Kd.R_alloc | apply Kd.R_drewN | apply Kd.R_drew)); exact Kd.R_mono HO_506001.out (fun _ hk => ⟨hk.1.1, hk.2⟩)⟩, ⟨by (with_reducible repeat (first | apply Kd.R_alloc | apply Kd.R_drewN | apply Kd.R_drew)); exact Kd.R_mono HO_515001.out (fun _ hk => ⟨hk.1.1, hk.2⟩)⟩, ⟨by (with_reducible repeat (first | apply Kd.R_alloc | apply Kd.R_drewN | apply Kd.R_drew)); exact Kd.R_mono HO532.out (fun _ hk => ⟨hk.1.1.2, hk.1.2⟩)⟩, ⟨by (with_reducible repeat (first | refine blk_drewN ?_ _ | refine blk_drew ?_ | refine blk_alloc ?_ _)); exact BK505.out⟩, ⟨by (with_reducible repeat (first | refine blk_drewN ?_ _ | refine blk_drew ?_ | refine blk_alloc ?_ _)); exact BK514.out⟩, ⟨by (with_reducible repeat (first | refine blk_drewN ?_ _ | refine blk_drew ?_ | refine blk_alloc ?_ _)); exact BK534.out⟩, ⟨by repeat (first | (with_reducible first | exact HB.out | apply below_alloc | apply pw_below_drewN | apply below_drew1 | refine below_set ?_ GE505.out | refine below_set ?_ GE514.out | refine below_set ?_ GE534.out) | exact HB.out)⟩⟩
            ·replace c81 := Bool.eq_false_iff.mpr c81
             subst c81
             have H1 : (laws_FnExactPlayTable.j2 kj37 t523 true t509 t524) = some r := by rw [if_neg (show ¬ (false = true) by decide)] at H; exact H
             clear H
             have H := H1
             clear H1
             have H' := Aside0.mk H
             clear H
             have hnb88 := NB534_505.out
             have hnc88 := NB505_534.out
             have hnb89 := NB534_514.out
             have hnc89 := NB514_534.out
             have hcz90_0 : w75.cell? ⟨gb534, 0, none⟩ = some (.int .i64 0) := (blk_cell BK534.out 0).trans rfl
             have hcz90_1 : w75.cell? ⟨gb534, 1, none⟩ = some (.slice none 0 0) := (blk_cell BK534.out 1).trans rfl
             have hfz90_0 := blk_frozen BK534.out 0
             have hfz90_1 := blk_frozen BK534.out 1
             have hnb91 := NB505_514.out
             have hnc91 := NB514_505.out
             have hcz92_0 : w75.cell? ⟨gb505, 0, none⟩ = some (.int .i64 t500) := (blk_cell BK505.out 0).trans rfl
             have hcz92_1 : w75.cell? ⟨gb505, 1, none⟩ = some (.slice Ao15 t501.length co15) := (blk_cell BK505.out 1).trans rfl
             have hfz92_0 := blk_frozen BK505.out 0
             have hfz92_1 := blk_frozen BK505.out 1
             go_wp2_with (first | ((with_reducible refine gate_callee (f := 14) rfl ?_); refine goesL_ (some 86) rfl rfl Try.func14 (by kernel_rfl) rfl #[.agg #[.int .i64 t529, .slice Ao79 t530.length co79], .agg #[.int .i64 t500, .slice Ao15 t501.length co15]] rfl (by (try simp only [List.map_toArray, List.map_cons, List.map_nil]); first | done | rfl | (simp only [List.length_drop, List.length_take]; rfl)) ?_; (with_reducible refine (laws_eqTable.calls kj37 t529 _ _ t530 t500 _ _ t501 false _ ?side1 ?side2 ?side3 ?side4 A80.out).mono ?_); (case side1 => refine (Kd.R_reads' (e := 53) (base := w.heap.size) (ok := fun k_ => (((True ∧ some k_ ≠ (.slice Ao15 t501.length co15 : Value).ownBlock) ∧ some k_ ≠ (.slice Ao22 t510.length co22 : Value).ownBlock) ∧ some k_ ≠ (.slice Ao73 t526.length co73 : Value).ownBlock)) (n := t530.length) (c := co79) ?_).2.2; exact (by (with_reducible repeat (first | apply Kd.R_alloc | apply Kd.R_drewN | apply Kd.R_drew)); exact (Kd.R_mono (Kd.R_far (p := ⟨gb534, 1, none⟩) (Kd.R_far (p := ⟨gb534, 0, none⟩) (Kd.R_types HO532.out BK534.out (by decide)) (fun _ hk => hk.2) (.int .i64 t529)) (fun _ hk => hk.2) (.slice Ao79 t530.length co79)) (fun _ h_ => h_.1)))); (case side2 => exact (Kd.R_reads' HO532.out).2.1); (case side3 => refine (Kd.R_reads' (e := 53) (base := w.heap.size) (ok := fun k_ => ((some k_ ≠ (.slice Ao22 t510.length co22 : Value).ownBlock ∧ some k_ ≠ (.slice Ao73 t526.length co73 : Value).ownBlock) ∧ some k_ ≠ (.slice Ao79 t530.length co79 : Value).ownBlock)) (n := t501.length) (c := co15) ?_).2.2; exact (by (with_reducible repeat (first | apply Kd.R_alloc | apply Kd.R_drewN | apply Kd.R_drew)); exact (Kd.R_mono (Kd.R_far (p := ⟨gb534, 1, none⟩) (Kd.R_far (p := ⟨gb534, 0, none⟩) (Kd.R_types HO_506001.out BK534.out (by decide)) (fun _ hk => hk.2) (.int .i64 t529)) (fun _ hk => hk.2) (.slice Ao79 t530.length co79)) (fun _ h_ => h_.1)))); (case side4 => exact (Kd.R_reads' HO_506001.out).2.1); rintro e w93 ⟨rfl, hb⟩; refine ⟨_, rfl, ?_⟩; have n0_ := Aside0.mk (Kd.R_below (by (with_reducible repeat (first | apply Kd.R_alloc | apply Kd.R_drewN | apply Kd.R_drew)); exact (Kd.R_mono (Kd.R_far (p := ⟨gb534, 1, none⟩) (Kd.R_far (p := ⟨gb534, 0, none⟩) (Kd.R_types HO_506001.out BK534.out (by decide)) (fun _ hk => hk.2) (.int .i64 t529)) (fun _ hk => hk.2) (.slice Ao79 t530.length co79)) (fun _ h_ => h_.1))) hb); have n1_ := Aside0.mk (Kd.R_below (by (with_reducible repeat (first | apply Kd.R_alloc | apply Kd.R_drewN | apply Kd.R_drew)); exact (Kd.R_mono (Kd.R_far (p := ⟨gb534, 1, none⟩) (Kd.R_far (p := ⟨gb534, 0, none⟩) (Kd.R_types HO_515001.out BK534.out (by decide)) (fun _ hk => hk.2) (.int .i64 t529)) (fun _ hk => hk.2) (.slice Ao79 t530.length co79)) (fun _ h_ => h_.1))) hb); have n2_ := Aside0.mk (Kd.R_below (by (with_reducible repeat (first | apply Kd.R_alloc | apply Kd.R_drewN | apply Kd.R_drew)); exact (Kd.R_mono (Kd.R_far (p := ⟨gb534, 1, none⟩) (Kd.R_far (p := ⟨gb534, 0, none⟩) (Kd.R_types HO528.out BK534.out (by decide)) (fun _ hk => hk.2) (.int .i64 t529)) (fun _ hk => hk.2) (.slice Ao79 t530.length co79)) (fun _ h_ => h_.1))) hb); have n3_ := Aside0.mk (Kd.R_below (by (with_reducible repeat (first | apply Kd.R_alloc | apply Kd.R_drewN | apply Kd.R_drew)); exact (Kd.R_mono (Kd.R_far (p := ⟨gb534, 1, none⟩) (Kd.R_far (p := ⟨gb534, 0, none⟩) (Kd.R_types HO532.out BK534.out (by decide)) (fun _ hk => hk.2) (.int .i64 t529)) (fun _ hk => hk.2) (.slice Ao79 t530.length co79)) (fun _ h_ => h_.1))) hb); have n4_ := Aside0.mk (blk_below (g := gb505) (o := .cells #[.int .i64 t500, .slice Ao15 t501.length co15] 24 (0, 0)) (by (with_reducible repeat (first | refine blk_drewN ?_ _ | refine blk_drew ?_ | refine blk_alloc ?_ _)); refine blk_far ?_ NB505_534.out _; (with_reducible repeat (first | refine blk_drewN ?_ _ | refine blk_drew ?_ | refine blk_alloc ?_ _)); refine blk_far ?_ NB505_534.out _; (with_reducible repeat (first | refine blk_drewN ?_ _ | refine blk_drew ?_ | refine blk_alloc ?_ _)); exact BK505.out) hb); have n5_ := Aside0.mk (blk_below (g := gb514) (o := .cells #[.int .i64 t509, .slice Ao22 t510.length co22] 24 (0, 0)) (by (with_reducible repeat (first | refine blk_drewN ?_ _ | refine blk_drew ?_ | refine blk_alloc ?_ _)); refine blk_far ?_ NB514_534.out _; (with_reducible repeat (first | refine blk_drewN ?_ _ | refine blk_drew ?_ | refine blk_alloc ?_ _)); refine blk_far ?_ NB514_534.out _; (with_reducible repeat (first | refine blk_drewN ?_ _ | refine blk_drew ?_ | refine blk_alloc ?_ _)); exact BK514.out) hb); have n6_ := Aside0.mk (blk_below (g := gb534) (o := .cells #[.int .i64 t529, .slice Ao79 t530.length co79] 24 (0, 0)) (by (with_reducible repeat (first | refine blk_drewN ?_ _ | refine blk_drew ?_ | refine blk_alloc ?_ _)); refine blk_put (cs := #[.int .i64 t529, .slice none 0 0]) ?_ 1 _ rfl; (with_reducible repeat (first | refine blk_drewN ?_ _ | refine blk_drew ?_ | refine blk_alloc ?_ _)); refine blk_put (cs := #[.int .i64 0, .slice none 0 0]) ?_ 0 _ rfl; (with_reducible repeat (first | refine blk_drewN ?_ _ | refine blk_drew ?_ | refine blk_alloc ?_ _)); exact BK534.out) hb); have n7_ := Aside0.mk (below_step (by repeat (first | (with_reducible first | exact HB.out | apply below_alloc | apply pw_below_drewN | apply below_drew1 | refine below_set ?_ GE505.out | refine below_set ?_ GE514.out | refine below_set ?_ GE534.out) | exact HB.out)) hb); clear HO_506001; clear HO_515001; clear HO528; clear HO532; clear BK505; clear BK514; clear BK534; clear HB; have HO_506001 := n0_; have HO_515001 := n1_; have HO528 := n2_; have HO532 := n3_; have BK505 := n4_; have BK514 := n5_; have BK534 := n6_; have HB := n7_; clear n0_ n1_ n2_ n3_ n4_ n5_ n6_ n7_; (try clear hb); (try clear hb2); (try clear hk); (try clear hi)))
             go_meet
             case rel => exact ⟨_, (true), (by first | rfl | (simp; done) | (simp [*]; done)), H', ⟨by have := HJ8.out; have := HJ37.out; first | omega | exact Nat.le_refl _⟩, ⟨by (with_reducible repeat (first | apply Kd.R_alloc | apply Kd.R_drewN | apply Kd.R_drew)); exact Kd.R_mono HO_506001.out (fun _ hk => ⟨hk.1.1, hk.2⟩)⟩, ⟨by (with_reducible repeat (first | apply Kd.R_alloc | apply Kd.R_drewN | apply Kd.R_drew)); exact Kd.R_mono HO_515001.out (fun _ hk => ⟨hk.1.1, hk.2⟩)⟩, ⟨by (with_reducible repeat (first | apply Kd.R_alloc | apply Kd.R_drewN | apply Kd.R_drew)); exact Kd.R_mono HO532.out (fun _ hk => ⟨hk.1.1.2, hk.1.2⟩)⟩, ⟨by (with_reducible repeat (first | refine blk_drewN ?_ _ | refine blk_drew ?_ | refine blk_alloc ?_ _)); exact BK505.out⟩, ⟨by (with_reducible repeat (first | refine blk_drewN ?_ _ | refine blk_drew ?_ | refine blk_alloc ?_ _)); exact BK514.out⟩, ⟨by (with_reducible repeat (first | refine blk_drewN ?_ _ | refine blk_drew ?_ | refine blk_alloc ?_ _)); exact BK534.out⟩, ⟨by repeat (first | (with_reducible first | exact HB.out | apply below_alloc | apply pw_below_drewN | apply below_drew1 | refine below_set ?_ GE505.out | refine below_set ?_ GE514.out | refine below_set ?_ GE534.out) | exact HB.out)⟩⟩
           case rest =>
            clear HC66
            try clear c1
            try clear c2
            try clear p2
            try clear c3
            try clear c4
            try clear c4b0
            try clear c5
            try clear c6
            try clear c7
            try clear c8
            try clear c9
            try clear c14
            try clear c15
            try clear c16
            try clear c20
            try clear c23
            try clear c24
            try clear c25
            try clear c27
            try clear c29
            try clear c32
            try clear c33
            try clear c34
            try clear c36
            try clear c43
            try clear c43b0
            try clear c45
            try clear c46
            try clear c50
            try clear c54
            try clear c57
            try clear c57b0
            try clear c58
            try clear c63
            try clear c63b0
            try clear c63b1
            try clear c67
            try clear c76
            try clear c77
            try clear c81
            try clear c82
            try clear c83
            try clear c85
            try clear c88
            try clear c89
            try clear c91
            try clear hcz14_0
            try clear hcz14_1
            try clear hcz21_0
            try clear hcz21_1
            try clear hcz26_0
            try clear hcz26_1
            try clear hcz27_0
            try clear hcz27_1
            try clear hcz30_0
            try clear hcz30_1
            try clear hcz31_0
            try clear hcz31_1
            try clear hcz47_0
            try clear hcz47_1
            try clear hcz48_0
            try clear hcz48_1
            try clear hcz51_0
            try clear hcz51_1
            try clear hcz52_0
            try clear hcz52_1
            try clear hcz59_0
            try clear hcz59_1
            try clear hcz61_0
            try clear hcz61_1
            try clear hcz68_0
            try clear hcz68_1
            try clear hcz70_0
            try clear hcz70_1
            try clear hcz78_0
            try clear hcz78_1
            try clear hcz84_0
            try clear hcz84_1
            try clear hcz86_0
            try clear hcz86_1
            try clear hcz90_0
            try clear hcz90_1
            try clear hcz92_0
            try clear hcz92_1
            try clear hfz14_0
            try clear hfz14_1
            try clear hfz21_0
            try clear hfz21_1
            try clear hfz26_0
            try clear hfz26_1
            try clear hfz27_0
            try clear hfz27_1
            try clear hfz30_0
            try clear hfz30_1
            try clear hfz31_0
            try clear hfz31_1
            try clear hfz47_0
            try clear hfz47_1
            try clear hfz48_0
            try clear hfz48_1
            try clear hfz51_0
            try clear hfz51_1
            try clear hfz52_0
            try clear hfz52_1
            try clear hfz59_0
            try clear hfz59_1
            try clear hfz61_0
            try clear hfz61_1
            try clear hfz68_0
            try clear hfz68_1
            try clear hfz70_0
            try clear hfz70_1
            try clear hfz78_0
            try clear hfz78_1
            try clear hfz84_0
            try clear hfz84_1
            try clear hfz86_0
            try clear hfz86_1
            try clear hfz90_0
            try clear hfz90_1
            try clear hfz92_0
            try clear hfz92_1
            try clear p2
            obtain ⟨kq, x92_65, rfl, HA, HJ65, HO_506001, HO_515001, HO_535001, BK505, BK514, BK534, HB⟩ := hcut
            have hl515001_65 := (Kd.R_reads' HO_515001.out).1
            rw [hl515001_65] at HO_515001
            (try simp only [hl515001_65])
            (try simp only [hl515001_65] at BK505)
            (try simp only [hl515001_65] at BK514)
            (try simp only [hl515001_65] at BK534)
            (try simp only [hl515001_65] at HO_506001)
            (try simp only [hl515001_65] at HO_535001)
            cases kq with
            | zero => exact absurd HA.out (by simp [laws_FnExactPlayTable.j2])
            | succ kj65 =>
             have H := HA.out
             clear HA
             simp only [laws_FnExactPlayTable.j2] at H
             by_cases c94 : x92_65 = true
             ·subst c94
              have H1 : (some false) = some r := by rw [if_pos rfl] at H; exact H
              clear H
              have H := H1
              clear H1
              obtain rfl := Option.some.inj H
              go_wp2
              go_ret
              exact ⟨by first | rfl | (simp [errW_none, errW_some] <;> rfl) | (simp [*, errW_none, errW_some] <;> rfl), by repeat (first | (with_reducible first | exact HB.out | apply below_alloc | apply pw_below_drewN | apply below_drew1 | refine below_set ?_ GE505.out | refine below_set ?_ GE514.out | refine below_set ?_ GE534.out) | exact HB.out)⟩
             ·replace c94 := Bool.eq_false_iff.mpr c94
              subst c94
              have H1 : ((laws_heldTable.f kj65 t509 t524 1).bind fun t536 => (if t536 < 0 then (some false) else (if t536 = t523 then (some true) else (some false)))) = some r := by rw [if_neg (show ¬ (false = true) by decide)] at H; exact H
              clear H
              have H := H1
              clear H1
              replace H := Option.bind_eq_some_iff.mp H
              obtain ⟨t536, A950, H⟩ := H
              replace H : (if t536 < 0 then (some false) else (if t536 = t523 then (some true) else (some false))) = some r := H
              have A95 := Aside0.mk A950
              clear A950
              by_cases c96 : t536 < 0
              ·rw [if_pos c96] at H
               have c96b0 : decide (t536 < 0) = true := decide_eq_true c96
               clear c96
               obtain rfl := Option.some.inj H
               have hnb97 := NB514_505.out
               have hnc97 := NB505_514.out
               have hnb98 := NB514_534.out
               have hnc98 := NB534_514.out
               have hcz99_0 : wc.cell? ⟨gb514, 0, none⟩ = some (.int .i64 t509) := (blk_cell BK514.out 0).trans rfl
               have hcz99_1 : wc.cell? ⟨gb514, 1, none⟩ = some (.slice Ao22 t524.length co22) := (blk_cell BK514.out 1).trans rfl
               have hfz99_0 := blk_frozen BK514.out 0
               have hfz99_1 := blk_frozen BK514.out 1
               go_wp2_with (first | ((with_reducible refine gate_callee (f := 16) rfl ?_); refine goesL_ (some 95) rfl rfl Try.func16 (by kernel_rfl) rfl #[.agg #[.int .i64 t509, .slice Ao22 t524.length co22], .int .i64 1] rfl (by (try simp only [List.map_toArray, List.map_cons, List.map_nil]); first | done | rfl | (simp only [List.length_drop, List.length_take]; rfl)) ?_; (with_reducible refine (laws_heldTable.calls kj65 t509 _ _ t524 1 t536 _ ?side1 ?side2 A95.out).mono ?_); (case side1 => repeat (first | exact (Kd.R_reads' HO_515001.out).2.2 | (with_reducible refine Kd.C_alloc ?_ _) | (with_reducible refine Kd.C_drewN ?_ _) | (with_reducible refine Kd.C_drew ?_))); (case side2 => exact (Kd.R_reads' HO_515001.out).2.1); rintro e w100 ⟨rfl, hb⟩; refine ⟨_, rfl, ?_⟩; have n0_ := Aside0.mk (Kd.R_below (by (with_reducible repeat (first | apply Kd.R_alloc | apply Kd.R_drewN | apply Kd.R_drew)); exact HO_506001.out) hb); have n1_ := Aside0.mk (Kd.R_below (by (with_reducible repeat (first | apply Kd.R_alloc | apply Kd.R_drewN | apply Kd.R_drew)); exact HO_515001.out) hb); have n2_ := Aside0.mk (Kd.R_below (by (with_reducible repeat (first | apply Kd.R_alloc | apply Kd.R_drewN | apply Kd.R_drew)); exact HO_535001.out) hb); have n3_ := Aside0.mk (blk_below (g := gb505) (o := .cells #[.int .i64 t500, .slice Ao15 t501.length co15] 24 (0, 0)) (by (with_reducible repeat (first | refine blk_drewN ?_ _ | refine blk_drew ?_ | refine blk_alloc ?_ _)); exact BK505.out) hb); have n4_ := Aside0.mk (blk_below (g := gb514) (o := .cells #[.int .i64 t509, .slice Ao22 t524.length co22] 24 (0, 0)) (by (with_reducible repeat (first | refine blk_drewN ?_ _ | refine blk_drew ?_ | refine blk_alloc ?_ _)); exact BK514.out) hb); have n5_ := Aside0.mk (blk_below (g := gb534) (o := .cells #[.int .i64 t529, .slice Ao79 t530.length co79] 24 (0, 0)) (by (with_reducible repeat (first | refine blk_drewN ?_ _ | refine blk_drew ?_ | refine blk_alloc ?_ _)); exact BK534.out) hb); have n6_ := Aside0.mk (below_step (by repeat (first | (with_reducible first | exact HB.out | apply below_alloc | apply pw_below_drewN | apply below_drew1 | refine below_set ?_ GE505.out | refine below_set ?_ GE514.out | refine below_set ?_ GE534.out) | exact HB.out)) hb); clear HO_506001; clear HO_515001; clear HO_535001; clear BK505; clear BK514; clear BK534; clear HB; have HO_506001 := n0_; have HO_515001 := n1_; have HO_535001 := n2_; have BK505 := n3_; have BK514 := n4_; have BK534 := n5_; have HB := n6_; clear n0_ n1_ n2_ n3_ n4_ n5_ n6_; (try clear hb); (try clear hb2); (try clear hk); (try clear hi)))
               go_ret
               exact ⟨by first | rfl | (simp [errW_none, errW_some] <;> rfl) | (simp [*, errW_none, errW_some] <;> rfl), by repeat (first | (with_reducible first | exact HB.out | apply below_alloc | apply pw_below_drewN | apply below_drew1 | refine below_set ?_ GE505.out | refine below_set ?_ GE514.out | refine below_set ?_ GE534.out) | exact HB.out)⟩
              ·rw [if_neg c96] at H
               have c96b0 : decide (t536 < 0) = false := decide_eq_false c96
               clear c96
               by_cases c101 : t536 = t523
               ·rw [if_pos c101] at H
                have c101b0 : (t536 == t523) = true := beq_iff_eq.mpr c101
                have c101b1 : (t536 != t523) = false := bne_eq_false_iff_eq.mpr c101
                clear c101
                obtain rfl := Option.some.inj H
                have hnb102 := NB514_505.out
                have hnc102 := NB505_514.out
                have hnb103 := NB514_534.out
                have hnc103 := NB534_514.out
                have hcz104_0 : wc.cell? ⟨gb514, 0, none⟩ = some (.int .i64 t509) := (blk_cell BK514.out 0).trans rfl
                have hcz104_1 : wc.cell? ⟨gb514, 1, none⟩ = some (.slice Ao22 t524.length co22) := (blk_cell BK514.out 1).trans rfl
                have hfz104_0 := blk_frozen BK514.out 0
                have hfz104_1 := blk_frozen BK514.out 1
                go_wp2_with (first | ((with_reducible refine gate_callee (f := 16) rfl ?_); refine goesL_ (some 95) rfl rfl Try.func16 (by kernel_rfl) rfl #[.agg #[.int .i64 t509, .slice Ao22 t524.length co22], .int .i64 1] rfl (by (try simp only [List.map_toArray, List.map_cons, List.map_nil]); first | done | rfl | (simp only [List.length_drop, List.length_take]; rfl)) ?_; (with_reducible refine (laws_heldTable.calls kj65 t509 _ _ t524 1 t536 _ ?side1 ?side2 A95.out).mono ?_); (case side1 => repeat (first | exact (Kd.R_reads' HO_515001.out).2.2 | (with_reducible refine Kd.C_alloc ?_ _) | (with_reducible refine Kd.C_drewN ?_ _) | (with_reducible refine Kd.C_drew ?_))); (case side2 => exact (Kd.R_reads' HO_515001.out).2.1); rintro e w105 ⟨rfl, hb⟩; refine ⟨_, rfl, ?_⟩; have n0_ := Aside0.mk (Kd.R_below (by (with_reducible repeat (first | apply Kd.R_alloc | apply Kd.R_drewN | apply Kd.R_drew)); exact HO_506001.out) hb); have n1_ := Aside0.mk (Kd.R_below (by (with_reducible repeat (first | apply Kd.R_alloc | apply Kd.R_drewN | apply Kd.R_drew)); exact HO_515001.out) hb); have n2_ := Aside0.mk (Kd.R_below (by (with_reducible repeat (first | apply Kd.R_alloc | apply Kd.R_drewN | apply Kd.R_drew)); exact HO_535001.out) hb); have n3_ := Aside0.mk (blk_below (g := gb505) (o := .cells #[.int .i64 t500, .slice Ao15 t501.length co15] 24 (0, 0)) (by (with_reducible repeat (first | refine blk_drewN ?_ _ | refine blk_drew ?_ | refine blk_alloc ?_ _)); exact BK505.out) hb); have n4_ := Aside0.mk (blk_below (g := gb514) (o := .cells #[.int .i64 t509, .slice Ao22 t524.length co22] 24 (0, 0)) (by (with_reducible repeat (first | refine blk_drewN ?_ _ | refine blk_drew ?_ | refine blk_alloc ?_ _)); exact BK514.out) hb); have n5_ := Aside0.mk (blk_below (g := gb534) (o := .cells #[.int .i64 t529, .slice Ao79 t530.length co79] 24 (0, 0)) (by (with_reducible repeat (first | refine blk_drewN ?_ _ | refine blk_drew ?_ | refine blk_alloc ?_ _)); exact BK534.out) hb); have n6_ := Aside0.mk (below_step (by repeat (first | (with_reducible first | exact HB.out | apply below_alloc | apply pw_below_drewN | apply below_drew1 | refine below_set ?_ GE505.out | refine below_set ?_ GE514.out | refine below_set ?_ GE534.out) | exact HB.out)) hb); clear HO_506001; clear HO_515001; clear HO_535001; clear BK505; clear BK514; clear BK534; clear HB; have HO_506001 := n0_; have HO_515001 := n1_; have HO_535001 := n2_; have BK505 := n3_; have BK514 := n4_; have BK534 := n5_; have HB := n6_; clear n0_ n1_ n2_ n3_ n4_ n5_ n6_; (try clear hb); (try clear hb2); (try clear hk); (try clear hi)))
                go_ret
                exact ⟨by first | rfl | (simp [errW_none, errW_some] <;> rfl) | (simp [*, errW_none, errW_some] <;> rfl), by repeat (first | (with_reducible first | exact HB.out | apply below_alloc | apply pw_below_drewN | apply below_drew1 | refine below_set ?_ GE505.out | refine below_set ?_ GE514.out | refine below_set ?_ GE534.out) | exact HB.out)⟩
               ·rw [if_neg c101] at H
                have c101b0 : (t536 == t523) = false := beq_eq_false_iff_ne.mpr c101
                have c101b1 : (t536 != t523) = true := bne_iff_ne.mpr c101
                obtain rfl := Option.some.inj H
                have hnb106 := NB514_505.out
                have hnc106 := NB505_514.out
                have hnb107 := NB514_534.out
                have hnc107 := NB534_514.out
                have hcz108_0 : wc.cell? ⟨gb514, 0, none⟩ = some (.int .i64 t509) := (blk_cell BK514.out 0).trans rfl
                have hcz108_1 : wc.cell? ⟨gb514, 1, none⟩ = some (.slice Ao22 t524.length co22) := (blk_cell BK514.out 1).trans rfl
                have hfz108_0 := blk_frozen BK514.out 0
                have hfz108_1 := blk_frozen BK514.out 1
                go_wp2_with (first | ((with_reducible refine gate_callee (f := 16) rfl ?_); refine goesL_ (some 95) rfl rfl Try.func16 (by kernel_rfl) rfl #[.agg #[.int .i64 t509, .slice Ao22 t524.length co22], .int .i64 1] rfl (by (try simp only [List.map_toArray, List.map_cons, List.map_nil]); first | done | rfl | (simp only [List.length_drop, List.length_take]; rfl)) ?_; (with_reducible refine (laws_heldTable.calls kj65 t509 _ _ t524 1 t536 _ ?side1 ?side2 A95.out).mono ?_); (case side1 => repeat (first | exact (Kd.R_reads' HO_515001.out).2.2 | (with_reducible refine Kd.C_alloc ?_ _) | (with_reducible refine Kd.C_drewN ?_ _) | (with_reducible refine Kd.C_drew ?_))); (case side2 => exact (Kd.R_reads' HO_515001.out).2.1); rintro e w109 ⟨rfl, hb⟩; refine ⟨_, rfl, ?_⟩; have n0_ := Aside0.mk (Kd.R_below (by (with_reducible repeat (first | apply Kd.R_alloc | apply Kd.R_drewN | apply Kd.R_drew)); exact HO_506001.out) hb); have n1_ := Aside0.mk (Kd.R_below (by (with_reducible repeat (first | apply Kd.R_alloc | apply Kd.R_drewN | apply Kd.R_drew)); exact HO_515001.out) hb); have n2_ := Aside0.mk (Kd.R_below (by (with_reducible repeat (first | apply Kd.R_alloc | apply Kd.R_drewN | apply Kd.R_drew)); exact HO_535001.out) hb); have n3_ := Aside0.mk (blk_below (g := gb505) (o := .cells #[.int .i64 t500, .slice Ao15 t501.length co15] 24 (0, 0)) (by (with_reducible repeat (first | refine blk_drewN ?_ _ | refine blk_drew ?_ | refine blk_alloc ?_ _)); exact BK505.out) hb); have n4_ := Aside0.mk (blk_below (g := gb514) (o := .cells #[.int .i64 t509, .slice Ao22 t524.length co22] 24 (0, 0)) (by (with_reducible repeat (first | refine blk_drewN ?_ _ | refine blk_drew ?_ | refine blk_alloc ?_ _)); exact BK514.out) hb); have n5_ := Aside0.mk (blk_below (g := gb534) (o := .cells #[.int .i64 t529, .slice Ao79 t530.length co79] 24 (0, 0)) (by (with_reducible repeat (first | refine blk_drewN ?_ _ | refine blk_drew ?_ | refine blk_alloc ?_ _)); exact BK534.out) hb); have n6_ := Aside0.mk (below_step (by repeat (first | (with_reducible first | exact HB.out | apply below_alloc | apply pw_below_drewN | apply below_drew1 | refine below_set ?_ GE505.out | refine below_set ?_ GE514.out | refine below_set ?_ GE534.out) | exact HB.out)) hb); clear HO_506001; clear HO_515001; clear HO_535001; clear BK505; clear BK514; clear BK534; clear HB; have HO_506001 := n0_; have HO_515001 := n1_; have HO_535001 := n2_; have BK505 := n3_; have BK514 := n4_; have BK534 := n5_; have HB := n6_; clear n0_ n1_ n2_ n3_ n4_ n5_ n6_; (try clear hb); (try clear hb2); (try clear hk); (try clear hi)))
                go_ret
                exact ⟨by first | rfl | (simp [errW_none, errW_some] <;> rfl) | (simp [*, errW_none, errW_some] <;> rfl), by repeat (first | (with_reducible first | exact HB.out | apply below_alloc | apply pw_below_drewN | apply below_drew1 | refine below_set ?_ GE505.out | refine below_set ?_ GE514.out | refine below_set ?_ GE534.out) | exact HB.out)⟩
          ·rw [if_neg c63] at H
           have c63b0 : (t525 == t523) = false := beq_eq_false_iff_ne.mpr c63
           have c63b1 : (t525 != t523) = true := bne_iff_ne.mpr c63
           obtain rfl := Option.some.inj H
           have hnb110 := NB514_505.out
           have hnc110 := NB505_514.out
           have hcz111_0 : wc.cell? ⟨gb514, 0, none⟩ = some (.int .i64 t509) := (blk_cell BK514.out 0).trans rfl
           have hcz111_1 : wc.cell? ⟨gb514, 1, none⟩ = some (.slice Ao22 t510.length co22) := (blk_cell BK514.out 1).trans rfl
           have hfz111_0 := blk_frozen BK514.out 0
           have hfz111_1 := blk_frozen BK514.out 1
           go_wp2_with (first | ((with_reducible refine gate_callee (f := 15) rfl ?_); refine goesL_ (some 68) rfl rfl Try.func15 (by kernel_rfl) rfl #[.agg #[.int .i64 t509, .slice Ao22 t510.length co22], .int .i64 1] rfl (by (try simp only [List.map_toArray, List.map_cons, List.map_nil]); first | done | rfl | (simp only [List.length_drop, List.length_take]; rfl)) ?_; (with_reducible refine (laws_markTable.calls kj37 t509 (fun k_ => some k_ = (.slice Ao22 t510.length co22 : Value).ownBlock) (.slice Ao22 t510.length co22) t510 1 t523 t524 w _ ?side1 ?side2 A55.out).mono ?_); (case side1 => repeat (first | (with_reducible first | exact HB.out | apply below_alloc | apply pw_below_drewN | apply below_drew1 | refine below_set ?_ GE505.out | refine below_set ?_ GE514.out) | exact HB.out)); (case side2 => exact Kd.R_tight rfl HO_515001.out); rintro e w112 ⟨rfl, hy0, hb, hkp⟩; refine ⟨_, rfl, ?_⟩; have n0_ := Aside0.mk (Kd.R_mono (ok' := fun k_ => some k_ ≠ (.slice Ao22 t510.length co22 : Value).ownBlock) (Kd.R_keptB (HO_506001.out) hkp (fun k_ hk_ hs_ => (hk_) hs_)) (fun k_ hk_ => hk_.1)); have n1_ := Aside0.mk (Kd.R_reok rfl hy0 (fun k_ e_ => HO_515001.out.1 k_ e_)); have n2_ := Aside0.mk (blk_kept (by (with_reducible repeat (first | refine blk_drewN ?_ _ | refine blk_drew ?_ | refine blk_alloc ?_ _)); exact BK505.out) hkp (fun hs_ => (fun e_ => (Kd.R_ne HO_515001.out BK505.out (by decide)) e_) hs_)); have n3_ := Aside0.mk (blk_kept (by (with_reducible repeat (first | refine blk_drewN ?_ _ | refine blk_drew ?_ | refine blk_alloc ?_ _)); exact BK514.out) hkp (fun hs_ => (fun e_ => (Kd.R_ne HO_515001.out BK514.out (by decide)) e_) hs_)); have n4_ := Aside0.mk (hb); clear HO_506001; clear HO_515001; clear BK505; clear BK514; clear HB; have HO_506001 := n0_; have HO_515001 := n1_; have BK505 := n2_; have BK514 := n3_; have HB := n4_; clear n0_ n1_ n2_ n3_ n4_; (try clear hb); (try clear hkp); (try clear hy0); have hcz113_0 : w112.cell? ⟨gb514, 0, none⟩ = some (.int .i64 t509) := (blk_cell BK514.out 0).trans rfl; have hcz113_1 : w112.cell? ⟨gb514, 1, none⟩ = some (.slice Ao22 t510.length co22) := (blk_cell BK514.out 1).trans rfl; have hfz113_0 := blk_frozen BK514.out 0; have hfz113_1 := blk_frozen BK514.out 1) | ((with_reducible refine gate_callee (f := 16) rfl ?_); refine goesL_ (some 71) rfl rfl Try.func16 (by kernel_rfl) rfl #[.agg #[.int .i64 t509, .slice Ao22 t524.length co22], .int .i64 1] rfl (by (try simp only [List.map_toArray, List.map_cons, List.map_nil]); first | done | (rw [show t524.length = t510.length from (Kd.R_reads' HO_515001.out).1.symm] <;> rfl) | rfl | (simp only [List.length_drop, List.length_take]; rfl)) ?_; (with_reducible refine (laws_heldTable.calls kj37 t509 _ _ t524 1 t525 _ ?side1 ?side2 A56.out).mono ?_); (case side1 => repeat (first | exact (Kd.R_reads' HO_515001.out).2.2 | (with_reducible refine Kd.C_alloc ?_ _) | (with_reducible refine Kd.C_drewN ?_ _) | (with_reducible refine Kd.C_drew ?_))); (case side2 => rw [show t524.length = t510.length from (Kd.R_reads' HO_515001.out).1.symm]; exact (Kd.R_reads' HO_515001.out).2.1); rintro e w114 ⟨rfl, hb⟩; refine ⟨_, rfl, ?_⟩; have n0_ := Aside0.mk (Kd.R_below (by (with_reducible repeat (first | apply Kd.R_alloc | apply Kd.R_drewN | apply Kd.R_drew)); exact HO_506001.out) hb); have n1_ := Aside0.mk (Kd.R_below (by (with_reducible repeat (first | apply Kd.R_alloc | apply Kd.R_drewN | apply Kd.R_drew)); exact HO_515001.out) hb); have n2_ := Aside0.mk (blk_below (g := gb505) (o := .cells #[.int .i64 t500, .slice Ao15 t501.length co15] 24 (0, 0)) (by (with_reducible repeat (first | refine blk_drewN ?_ _ | refine blk_drew ?_ | refine blk_alloc ?_ _)); exact BK505.out) hb); have n3_ := Aside0.mk (blk_below (g := gb514) (o := .cells #[.int .i64 t509, .slice Ao22 t510.length co22] 24 (0, 0)) (by (with_reducible repeat (first | refine blk_drewN ?_ _ | refine blk_drew ?_ | refine blk_alloc ?_ _)); exact BK514.out) hb); have n4_ := Aside0.mk (below_step (by repeat (first | (with_reducible first | exact HB.out | apply below_alloc | apply pw_below_drewN | apply below_drew1 | refine below_set ?_ GE505.out | refine below_set ?_ GE514.out) | exact HB.out)) hb); clear HO_506001; clear HO_515001; clear BK505; clear BK514; clear HB; have HO_506001 := n0_; have HO_515001 := n1_; have BK505 := n2_; have BK514 := n3_; have HB := n4_; clear n0_ n1_ n2_ n3_ n4_; (try clear hb); (try clear hb2); (try clear hk); (try clear hi)))
           go_ret
           exact ⟨by first | rfl | (simp [errW_none, errW_some] <;> rfl) | (simp [*, errW_none, errW_some] <;> rfl), by repeat (first | (with_reducible first | exact HB.out | apply below_alloc | apply pw_below_drewN | apply below_drew1 | refine below_set ?_ GE505.out | refine below_set ?_ GE514.out) | exact HB.out)⟩
     ·replace c36 := Bool.eq_false_iff.mpr c36
      subst c36
      have H1 : (some false) = some r := by rw [if_neg (show ¬ (false = true) by decide)] at H; exact H
      clear H
      have H := H1
      clear H1
      obtain rfl := Option.some.inj H
      go_wp2_with (first | ((with_reducible refine gate_callee (f := 25) rfl ?_); refine goesL_ (some 47) rfl rfl Try.func25 (by kernel_rfl) rfl #[.slice A1 l1.length c1] rfl (by (try simp only [List.map_toArray, List.map_cons, List.map_nil]); first | done | rfl | (simp only [List.length_drop, List.length_take]; rfl)) ?_; (with_reducible refine (laws_toSeenS.calls kj8 _ _ l1 t516 _ ?side1 ?side2 A34.out).mono ?_); (case side1 => repeat (first | exact (Kd.C_below HR1.out HB.out) | (with_reducible refine Kd.C_alloc ?_ _) | (with_reducible refine Kd.C_drewN ?_ _) | (with_reducible refine Kd.C_drew ?_))); (case side2 => exact HC1.out); rintro e w115 ⟨v517, rfl, ho0, hb⟩; refine ⟨_, rfl, ?_⟩; have n0_ := Aside0.mk (Kd.R_elder' (by (with_reducible repeat (first | apply Kd.R_alloc | apply Kd.R_drewN | apply Kd.R_drew)); exact HO_8.out) (Kd.R_base ho0) hb); have n1_ := Aside0.mk (Kd.R_elder' (by (with_reducible repeat (first | apply Kd.R_alloc | apply Kd.R_drewN | apply Kd.R_drew)); exact HO_506001.out) (Kd.R_base ho0) hb); have n2_ := Aside0.mk (Kd.R_elder' (by (with_reducible repeat (first | apply Kd.R_alloc | apply Kd.R_drewN | apply Kd.R_drew)); exact HO_515001.out) (Kd.R_base ho0) hb); have n3_ := Aside0.mk (Kd.R_lower (Kd.R_new' (Kd.R_new' (Kd.R_new' ho0 (Kd.R_lt (by (with_reducible repeat (first | apply Kd.R_alloc | apply Kd.R_drewN | apply Kd.R_drew)); exact HO_8.out))) (Kd.R_lt (by (with_reducible repeat (first | apply Kd.R_alloc | apply Kd.R_drewN | apply Kd.R_drew)); exact HO_506001.out))) (Kd.R_lt (by (with_reducible repeat (first | apply Kd.R_alloc | apply Kd.R_drewN | apply Kd.R_drew)); exact HO_515001.out))) (below_size (by repeat (first | (with_reducible first | exact HB.out | apply below_alloc | apply pw_below_drewN | apply below_drew1 | refine below_set ?_ GE505.out | refine below_set ?_ GE514.out) | exact HB.out)))); have n4_ := Aside0.mk (blk_below (g := gb505) (o := .cells #[.int .i64 t500, .slice Ao15 t501.length co15] 24 (0, 0)) (by (with_reducible repeat (first | refine blk_drewN ?_ _ | refine blk_drew ?_ | refine blk_alloc ?_ _)); exact BK505.out) hb); have n5_ := Aside0.mk (blk_below (g := gb514) (o := .cells #[.int .i64 t509, .slice Ao22 t510.length co22] 24 (0, 0)) (by (with_reducible repeat (first | refine blk_drewN ?_ _ | refine blk_drew ?_ | refine blk_alloc ?_ _)); exact BK514.out) hb); have n6_ := Aside0.mk (below_step (by repeat (first | (with_reducible first | exact HB.out | apply below_alloc | apply pw_below_drewN | apply below_drew1 | refine below_set ?_ GE505.out | refine below_set ?_ GE514.out) | exact HB.out)) hb); clear HO_8; clear HO_506001; clear HO_515001; clear BK505; clear BK514; clear HB; have HO_8 := n0_; have HO_506001 := n1_; have HO_515001 := n2_; have HO518 := n3_; have BK505 := n4_; have BK514 := n5_; have HB := n6_; clear n0_ n1_ n2_ n3_ n4_ n5_ n6_; (try clear hb); (try clear hb2); (try clear hk); (try clear hi); (try clear ho0); obtain ⟨Ao116, co116, eo116⟩ := Kd.R_slice HO518.out; subst eo116) | ((with_reducible refine gate_callee (f := 27) rfl ?_); refine goesL_ (some 48) rfl rfl Try.func27 (by kernel_rfl) rfl #[.slice Ao17 t506.length co17, .slice Ao116 t516.length co116] rfl (by (try simp only [List.map_toArray, List.map_cons, List.map_nil]); first | done | rfl | (simp only [List.length_drop, List.length_take]; rfl)) ?_; (with_reducible refine (laws_eqSeenS.calls kj8 _ _ t506 _ _ t516 false _ ?side1 ?side2 ?side3 ?side4 A35.out).mono ?_); (case side1 => repeat (first | exact (Kd.R_reads' HO_8.out).2.2 | (with_reducible refine Kd.C_alloc ?_ _) | (with_reducible refine Kd.C_drewN ?_ _) | (with_reducible refine Kd.C_drew ?_))); (case side2 => exact (Kd.R_reads' HO_8.out).2.1); (case side3 => repeat (first | exact (Kd.R_reads' HO518.out).2.2 | (with_reducible refine Kd.C_alloc ?_ _) | (with_reducible refine Kd.C_drewN ?_ _) | (with_reducible refine Kd.C_drew ?_))); (case side4 => exact (Kd.R_reads' HO518.out).2.1); rintro e w117 ⟨rfl, hb⟩; refine ⟨_, rfl, ?_⟩; have n0_ := Aside0.mk (Kd.R_below (by (with_reducible repeat (first | apply Kd.R_alloc | apply Kd.R_drewN | apply Kd.R_drew)); exact HO_8.out) hb); have n1_ := Aside0.mk (Kd.R_below (by (with_reducible repeat (first | apply Kd.R_alloc | apply Kd.R_drewN | apply Kd.R_drew)); exact HO_506001.out) hb); have n2_ := Aside0.mk (Kd.R_below (by (with_reducible repeat (first | apply Kd.R_alloc | apply Kd.R_drewN | apply Kd.R_drew)); exact HO_515001.out) hb); have n3_ := Aside0.mk (Kd.R_below (by (with_reducible repeat (first | apply Kd.R_alloc | apply Kd.R_drewN | apply Kd.R_drew)); exact HO518.out) hb); have n4_ := Aside0.mk (blk_below (g := gb505) (o := .cells #[.int .i64 t500, .slice Ao15 t501.length co15] 24 (0, 0)) (by (with_reducible repeat (first | refine blk_drewN ?_ _ | refine blk_drew ?_ | refine blk_alloc ?_ _)); exact BK505.out) hb); have n5_ := Aside0.mk (blk_below (g := gb514) (o := .cells #[.int .i64 t509, .slice Ao22 t510.length co22] 24 (0, 0)) (by (with_reducible repeat (first | refine blk_drewN ?_ _ | refine blk_drew ?_ | refine blk_alloc ?_ _)); exact BK514.out) hb); have n6_ := Aside0.mk (below_step (by repeat (first | (with_reducible first | exact HB.out | apply below_alloc | apply pw_below_drewN | apply below_drew1 | refine below_set ?_ GE505.out | refine below_set ?_ GE514.out) | exact HB.out)) hb); clear HO_8; clear HO_506001; clear HO_515001; clear HO518; clear BK505; clear BK514; clear HB; have HO_8 := n0_; have HO_506001 := n1_; have HO_515001 := n2_; have HO518 := n3_; have BK505 := n4_; have BK514 := n5_; have HB := n6_; clear n0_ n1_ n2_ n3_ n4_ n5_ n6_; (try clear hb); (try clear hb2); (try clear hk); (try clear hi)))
      go_ret
      exact ⟨by first | rfl | (simp [errW_none, errW_some] <;> rfl) | (simp [*, errW_none, errW_some] <;> rfl), by repeat (first | (with_reducible first | exact HB.out | apply below_alloc | apply pw_below_drewN | apply below_drew1 | refine below_set ?_ GE505.out | refine below_set ?_ GE514.out) | exact HB.out)⟩
end Go.Proofs.Ytcbofebikbbknaa.P

namespace Go.Proofs.Ytcbofebikbbknaa.P
open Go.RowKit Go.Proofs.YtcbofebikbbknaaW.PrintWords Go.Proofs.YtcbofebikbbknaaW.PrintLast
def wfS51 (s : S51) : Prop := (fun n : Int => (Lit.int .i64 n).wf = true) s.f0 ∧ (fun n : Int => (Lit.int .i64 n).wf = true) s.f1 ∧ (fun n : Int => (Lit.int .i64 n).wf = true) s.f2
/-- The one pure statement of laws_FnExactPlayTable. -/
def laws_FnExactPlayTable.Pure : Prop := ∀ (a0 : Int) (l1 : List (S51)), (fun n : Int => (Lit.int .i64 n).wf = true) a0 → (fun l : List (S51) => l.length ≤ maxLen ∧ ∀ x ∈ l, wfS51 x) l1 → ∃ k, laws_FnExactPlayTable.f k a0 l1 = some true
end Go.Proofs.Ytcbofebikbbknaa.P

namespace Go.Proofs.Ytcbofebikbbknaa.P
open Go.RowKit Go.Proofs.YtcbofebikbbknaaW.PrintWords
set_option linter.unusedVariables false
set_option linter.unusedSimpArgs false
theorem wrap_id {x : Int} (h0 : -9223372036854775808 ≤ x) (h1 : x ≤ 9223372036854775807) : wrap64 x = x := by unfold wrap64; omega
theorem Ev.succ {α : Type} {g : Nat → Option α} {r : α} (h : Ev (fun k => g (k + 1)) r) : Ev g r := Ev.step (fun _ => rfl) h
theorem Ev.some_ {α : Type} {r s : α} (h : r = s) : Ev (fun _ => some r) s := h ▸ Ev.now r
theorem getD_mid {α : Type} (d : α) (pre : List α) (x : α) (suf : List α) : (pre ++ x :: suf).getD ((pre.length : Int)).toNat d = x := by simp
theorem set_mid {α : Type} (pre : List α) (x y : α) (suf : List α) : (pre ++ x :: suf).set ((pre.length : Int)).toNat y = pre ++ y :: suf := by simp
theorem app_one {α : Type} (pre : List α) (x : α) (suf : List α) : pre ++ x :: suf = (pre ++ [x]) ++ suf := by simp
theorem len_mid {α : Type} (pre : List α) (x : α) (suf : List α) : ((pre ++ x :: suf).length : Int) = pre.length + suf.length + 1 := by simp; omega
theorem len_one {α : Type} (pre : List α) (x : α) : ((pre ++ [x]).length : Int) = pre.length + 1 := by simp
theorem nil_or_snoc {α : Type} (l : List α) : l = [] ∨ ∃ p y, l = p ++ [y] := by
 rcases List.eq_nil_or_concat l with rfl | ⟨p, y, rfl⟩
 ·exact .inl rfl
 ·exact .inr ⟨p, y, by simp⟩
end Go.Proofs.Ytcbofebikbbknaa.P

namespace Go.Proofs.Ytcbofebikbbknaa.P
open Go.RowKit Go.Proofs.YtcbofebikbbknaaW.PrintWords Go.Proofs.YtcbofebikbbknaaW.PrintLast
set_option linter.unusedVariables false
set_option linter.unusedSimpArgs false
theorem rdSeen_mid (pre : List S53) (x : S53) (suf : List S53) : rd_T53 (pre ++ x :: suf) (pre.length : Int) = x := getD_mid _ pre x suf
theorem rdLSeen_mid (pre : List S51) (x : S51) (suf : List S51) : rd_T51 (pre ++ x :: suf) (pre.length : Int) = x := getD_mid _ pre x suf
instance decSeen : DecidableEq S53 := fun a b => decidable_of_iff (a.f0 = b.f0 ∧ a.f1 = b.f1 ∧ a.f2 = b.f2) (by cases a; cases b; simp)
def cvSeen (x : S51) : S53 := ⟨x.f0, x.f1, x.f2⟩
theorem toSeenS_l (suf : List S51) : ∀ (pre : List S51) (k : Nat), suf.length < k → (pre.length : Int) + suf.length ≤ 1099511627776 →
  laws_toSeenS.l0 k (pre ++ suf) (pre.map cvSeen ++ List.replicate suf.length z53) (pre.length : Int) = some ((pre ++ suf).map cvSeen) := by
 induction suf with
 | nil =>
  intro pre k hk hb
  obtain ⟨k, rfl⟩ : ∃ m, k = m + 1 := ⟨k - 1, by omega⟩
  simp only [laws_toSeenS.l0]
  rw [if_neg (by simp)]
  simp
 | cons x suf ih =>
  intro pre k hk hb
  simp only [List.length_cons] at hk hb
  obtain ⟨k, rfl⟩ : ∃ m, k = m + 1 := ⟨k - 1, by omega⟩
  have h := ih (pre ++ [x]) k (by omega) (by simp; omega)
  simp only [laws_toSeenS.l0]
  rw [if_pos (by simp; omega), if_pos (by omega), rdLSeen_mid]
  simp only [laws_toSeen.f, Option.bind_some]
  rw [if_pos (by simp; omega), wrap_id (by omega) (by omega)]
  have e : (pre.map cvSeen ++ List.replicate (x :: suf).length z53).set ((pre.length : Int)).toNat (⟨x.f0, x.f1, x.f2⟩ : S53) = (pre ++ [x]).map cvSeen ++ List.replicate suf.length z53 := by
   simp [List.replicate_succ, cvSeen]
  rw [e]
  simpa using h
theorem toSeenS_ev (l : List S51) (hl : l.length ≤ 1048576) : Ev (fun k => laws_toSeenS.f k l) (l.map cvSeen) := by
 refine ⟨l.length + 1, fun k hk => ?_⟩
 have h := toSeenS_l l [] k (by omega) (by simp; omega)
 show laws_toSeenS.f k l = _
 unfold laws_toSeenS.f
 rw [if_pos (by omega), if_pos (by simp; omega)]
 simpa using h
theorem eqSeen_is (a b : S53) : laws_eqSeen.f a.f0 a.f1 a.f2 b.f0 b.f1 b.f2 = some (decide (a = b)) := by
 cases a; cases b
 unfold laws_eqSeen.f
 simp only [S53.mk.injEq]
 split
 ·split
  ·split
   ·rename_i h1 h2 h3; simp [h1, h2, h3]
   ·rename_i h1 h2 h3; simp [h3]
  ·rename_i h1 h2; simp [h2]
 ·rename_i h1; simp [h1]
theorem eqSeenS_l (s : List S53) : ∀ (t pre qre : List S53) (k : Nat), s.length < k → pre.length = qre.length → s.length = t.length → (pre.length : Int) + s.length ≤ 1099511627776 →
  laws_eqSeenS.l0 k (pre ++ s) (qre ++ t) (pre.length : Int) = some (decide (s = t)) := by
 induction s with
 | nil =>
  intro t pre qre k hk hq hl hb
  obtain ⟨k, rfl⟩ : ∃ m, k = m + 1 := ⟨k - 1, by omega⟩
  obtain rfl : t = [] := List.eq_nil_of_length_eq_zero (by simpa using hl.symm)
  simp only [laws_eqSeenS.l0]
  rw [if_neg (by simp)]
  simp
 | cons x s ih =>
  intro t pre qre k hk hq hl hb
  cases t with
  | nil => simp at hl
  | cons y t =>
   simp only [List.length_cons] at hk hl hb
   obtain ⟨k, rfl⟩ : ∃ m, k = m + 1 := ⟨k - 1, by omega⟩
   have h := ih t (pre ++ [x]) (qre ++ [y]) k (by omega) (by simp; omega) (by omega) (by simp; omega)
   have hy : rd_T53 (qre ++ y :: t) (pre.length : Int) = y := by rw [hq]; exact rdSeen_mid qre y t
   simp only [laws_eqSeenS.l0]
   rw [if_pos (by simp; omega), if_pos (by omega), if_pos (by simp; omega), rdSeen_mid, hy, eqSeen_is, wrap_id (by omega) (by omega)]
   simp only [Option.bind_some]
   by_cases e : x = y
   ·subst e
    rw [if_pos (by simp)]
    simpa using h
   ·rw [if_neg (by simpa using e)]
    simp [e]
theorem eqSeenS_ev (s t : List S53) (hs : s.length ≤ 1099511627776) : Ev (fun k => laws_eqSeenS.f k s t) (decide (s = t)) := by
 refine ⟨s.length + 1, fun k hk => ?_⟩
 show laws_eqSeenS.f k s t = _
 unfold laws_eqSeenS.f
 by_cases hl : s.length = t.length
 ·rw [if_pos (by omega)]
  exact eqSeenS_l s t [] [] k (by omega) rfl hl (by simp; omega)
 ·rw [if_neg (by omega)]
  have : s ≠ t := fun e => hl (by rw [e])
  simp [this]
theorem szSeenS_is (l : List S51) (hl : l.length ≤ maxLen) (a : Int) (h0 : 0 ≤ a) (h1 : a ≤ 1048576) : laws_szSeenS.f l a = some (if a - l.length < 0 then -1 else a - l.length) := by
 have hm : l.length ≤ 9223372036854775807 := by unfold maxLen at hl; exact hl
 unfold laws_szSeenS.f
 rw [wrap_id (by omega) (by omega)]
 split <;> rfl
end Go.Proofs.Ytcbofebikbbknaa.P

namespace Go.Proofs.Ytcbofebikbbknaa.P
open Go.RowKit Go.Proofs.YtcbofebikbbknaaW.PrintWords Go.Proofs.YtcbofebikbbknaaW.PrintLast
set_option linter.unusedVariables false
set_option linter.unusedSimpArgs false
def marksSeen : Nat → Int → List S53
 | 0, _ => []
 | n + 1, q => ⟨q, q + 1, q + 2⟩ :: marksSeen n (q + 3)
theorem markSeenS_l (suf : List S53) : ∀ (pre : List S53) (k : Nat) (q : Int), suf.length < k → (pre.length : Int) + suf.length ≤ 1099511627776 → 0 ≤ q → q + 3 * suf.length ≤ 4611686018427387904 →
  laws_markSeenS.l0 k (pre ++ suf) q (pre.length : Int) = some (q + 3 * suf.length, pre ++ marksSeen suf.length q) := by
 induction suf with
 | nil =>
  intro pre k q hk hb h0 h1
  obtain ⟨k, rfl⟩ : ∃ m, k = m + 1 := ⟨k - 1, by omega⟩
  simp only [laws_markSeenS.l0]
  rw [if_neg (by simp)]
  simp [marksSeen]
 | cons x suf ih =>
  intro pre k q hk hb h0 h1
  simp only [List.length_cons] at hk hb h1
  obtain ⟨k, rfl⟩ : ∃ m, k = m + 1 := ⟨k - 1, by omega⟩
  have h := ih (pre ++ [⟨q, q + 1, q + 2⟩]) k (q + 3) (by omega) (by simp <;> omega) (by omega) (by omega)
  simp only [laws_markSeenS.l0]
  rw [if_pos (by simp <;> omega), if_pos (by omega)]
  simp only [Option.bind_some, set_mid, rdSeen_mid]
  rw [wrap_id (x := q + 1) (by omega) (by omega), wrap_id (x := q + 1 + 1) (by omega) (by omega), wrap_id (x := q + 1 + 1 + 1) (by omega) (by omega), wrap_id (x := (pre.length : Int) + 1) (by omega) (by omega)]
  rw [show q + 1 + 1 = q + 2 from by omega, show q + 2 + 1 = q + 3 from by omega]
  rw [show ((pre ++ [(⟨q, q + 1, q + 2⟩ : S53)]).length : Int) = (pre.length : Int) + 1 from by simp] at h
  rw [app_one, h]
  simp only [marksSeen, List.length_cons, List.append_assoc, List.cons_append, List.nil_append, Option.some.injEq, Prod.mk.injEq, and_true]
  omega
theorem markSeenS_ev (l : List S53) (q : Int) (hl : l.length ≤ 1099511627776) (h0 : 0 ≤ q) (h1 : q ≤ 1099511627776) : Ev (fun k => laws_markSeenS.f k l q) (q + 3 * l.length, marksSeen l.length q) := by
 refine ⟨l.length + 1, fun k hk => ?_⟩
 show laws_markSeenS.f k l q = _
 unfold laws_markSeenS.f
 simpa using markSeenS_l l [] k q (by omega) (by simp <;> omega) h0 (by omega)
theorem heldSeenS_l (n : Nat) : ∀ (pre : List S53) (k : Nat) (q : Int), n < k → (pre.length : Int) + n ≤ 1099511627776 → 0 ≤ q → q + 3 * n ≤ 4611686018427387904 →
  laws_heldSeenS.l0 k (pre ++ marksSeen n q) q (pre.length : Int) = some (q + 3 * n) := by
 induction n with
 | zero =>
  intro pre k q hk hb h0 h1
  obtain ⟨k, rfl⟩ : ∃ m, k = m + 1 := ⟨k - 1, by omega⟩
  simp only [laws_heldSeenS.l0]
  rw [show marksSeen 0 q = [] from rfl, if_neg (by simp)]
  simp
 | succ n ih =>
  intro pre k q hk hb h0 h1
  obtain ⟨k, rfl⟩ : ∃ m, k = m + 1 := ⟨k - 1, by omega⟩
  have h := ih (pre ++ [⟨q, q + 1, q + 2⟩]) k (q + 3) (by omega) (by simp <;> omega) (by omega) (by omega)
  simp only [laws_heldSeenS.l0]
  rw [show marksSeen (n + 1) q = ⟨q, q + 1, q + 2⟩ :: marksSeen n (q + 3) from rfl]
  rw [if_pos (by simp <;> omega), if_pos (by omega)]
  simp only [rdSeen_mid]
  rw [wrap_id (x := q + 1) (by omega) (by omega), wrap_id (x := q + 1 + 1) (by omega) (by omega), wrap_id (x := q + 1 + 1 + 1) (by omega) (by omega), wrap_id (x := (pre.length : Int) + 1) (by omega) (by omega)]
  rw [show q + 1 + 1 = q + 2 from by omega, show q + 2 + 1 = q + 3 from by omega, if_pos rfl, if_pos rfl, if_pos trivial]
  rw [show ((pre ++ [(⟨q, q + 1, q + 2⟩ : S53)]).length : Int) = (pre.length : Int) + 1 from by simp] at h
  rw [app_one, h]
  simp only [Option.some.injEq]
  omega
theorem heldSeenS_ev (n : Nat) (q : Int) (hl : n ≤ 1099511627776) (h0 : 0 ≤ q) (h1 : q ≤ 1099511627776) : Ev (fun k => laws_heldSeenS.f k (marksSeen n q) q) (q + 3 * n) := by
 refine ⟨n + 1, fun k hk => ?_⟩
 show laws_heldSeenS.f k (marksSeen n q) q = _
 unfold laws_heldSeenS.f
 exact heldSeenS_l n [] k q (by omega) (by simp <;> omega) h0 (by omega)
end Go.Proofs.Ytcbofebikbbknaa.P

namespace Go.Proofs.Ytcbofebikbbknaa.P
open Go.RowKit Go.Proofs.YtcbofebikbbknaaW.PrintWords Go.Proofs.YtcbofebikbbknaaW.PrintLast
set_option linter.unusedVariables false
set_option linter.unusedSimpArgs false
theorem specIn3 (a b c : Int) : spec_l1In.f a b c = some (decide (b ≤ a ∧ a ≤ c)) := by
 unfold spec_l1In.f
 by_cases h : a ≥ b
 ·rw [if_pos h]
  congr 1
  by_cases h2 : a ≤ c
  ·rw [decide_eq_true h2, decide_eq_true ⟨h, h2⟩]
  ·rw [decide_eq_false h2, decide_eq_false (fun hc => h2 hc.2)]
 ·rw [if_neg h, decide_eq_false (fun hc => h hc.1)]
theorem implIn3 (a b c : Int) : impl_in.f a b c = some (decide (b ≤ a ∧ a ≤ c)) := specIn3 a b c
def okSeen (x : S53) : Bool := decide (1 ≤ x.f0 ∧ x.f0 ≤ 99) && (decide (0 ≤ x.f1 ∧ x.f1 ≤ 9) && decide (0 ≤ x.f2 ∧ x.f2 ≤ 10000))
theorem specRow3 (x : S53) : spec_l13Row.f x.f0 x.f1 x.f2 = some (okSeen x) := by
 unfold spec_l13Row.f okSeen
 simp only [specIn3, Option.bind_some]
 by_cases h1 : 1 ≤ x.f0 ∧ x.f0 ≤ 99
 ·by_cases h2 : 0 ≤ x.f1 ∧ x.f1 ≤ 9
  ·simp only [h1, h2, and_self, decide_true, if_true, Bool.true_and]
  ·simp only [h1, h2, and_self, decide_true, decide_false, if_true, Bool.true_and, Bool.false_and, Bool.false_eq_true, if_false]
 ·simp only [h1, decide_false, Bool.false_and, Bool.false_eq_true, if_false]
theorem implSeen3 (x : S53) : impl_isSeen.f x.f0 x.f1 x.f2 = some (okSeen x) := specRow3 x
theorem eta3 (x : S53) : (⟨x.f0, x.f1, x.f2⟩ : S53) = x := rfl
theorem eqTable_ev (a : Int) (l : List S53) (hl : l.length ≤ 1099511627776) : Ev (fun k => laws_eqTable.f k a l a l) true := by
 unfold laws_eqTable.f
 simp only [if_true]
 refine Ev.bind (eqSeenS_ev l l hl) ?_
 simp only [decide_true, if_true]
 exact Ev.now _
theorem markTable_ev (a : Int) (l : List S53) (q : Int) (hl : l.length ≤ 1099511627776) (h0 : 0 ≤ q) (h1 : q ≤ 1099511627776) : Ev (fun k => laws_markTable.f k a l q) (q + 3 * l.length, marksSeen l.length q) := by
 unfold laws_markTable.f
 exact Ev.bind (markSeenS_ev l q hl h0 h1) (Ev.now _)
theorem heldTable_ev (a : Int) (n : Nat) (q : Int) (hl : n ≤ 1099511627776) (h0 : 0 ≤ q) (h1 : q ≤ 1099511627776) : Ev (fun k => laws_heldTable.f k a (marksSeen n q) q) (q + 3 * n) := by
 unfold laws_heldTable.f
 refine Ev.bind (heldSeenS_ev n q hl h0 h1) ?_
 simp only [if_neg (show ¬ (q + 3 * (n : Int)) < 0 by omega)]
 exact Ev.now _
end Go.Proofs.Ytcbofebikbbknaa.P

namespace Go.Proofs.Ytcbofebikbbknaa.P
open Go.RowKit Go.Proofs.YtcbofebikbbknaaW.PrintWords Go.Proofs.YtcbofebikbbknaaW.PrintLast
set_option linter.unusedVariables false
set_option linter.unusedSimpArgs false
theorem kept_l (p : S53 → Bool) (a : Int) (suf : List S53) : ∀ (pre out : List S53), ((pre ++ suf).length : Int) ≤ 1048576 → out.length ≤ pre.length →
  Ev (fun k => impl_Table_kept.l0 p k (pre ++ suf) ((pre ++ suf).length : Int) pre.length a out) (a, out ++ suf.filter p) := by
 induction suf with
 | nil =>
  intro pre out h ho
  refine Ev.succ ?_
  simp only [impl_Table_kept.l0, List.append_nil, Int.lt_irrefl, if_false, List.filter_nil]
  exact Ev.now _
 | cons x suf ih =>
  intro pre out h ho
  refine Ev.succ ?_
  rw [len_mid] at h ⊢
  have := fun o ho => ih (pre ++ [x]) o (by rw [← app_one, len_mid]; exact h) ho
  rw [← app_one, len_mid, len_one] at this
  simp only [impl_Table_kept.l0]
  simp only [if_pos (show ((pre.length : Int) < pre.length + suf.length + 1) by omega), if_pos (show (0 : Int) ≤ pre.length by omega), len_mid, rdSeen_mid, wrap_id (show (-9223372036854775808 : Int) ≤ pre.length + 1 by omega) (show ((pre.length : Int) + 1 ≤ 9223372036854775807) by omega), Option.bind_some, eta3]
  cases hp : p x with
  | true =>
   simp only [if_true, if_pos (show out.length < 5864062014805 by omega)]
   rw [List.filter_cons_of_pos hp, app_one out x (suf.filter p)]
   exact this (out ++ [x]) (by simp only [List.length_append, List.length_singleton]; omega)
  | false =>
   simp only [Bool.false_eq_true, if_false]
   rw [List.filter_cons_of_neg (by rw [hp]; exact Bool.false_ne_true)]
   exact this out (by rw [List.length_append]; omega)
theorem kept_ev (p : S53 → Bool) (a : Int) (l : List S53) (hl : l.length ≤ 1048576) : Ev (fun k => impl_Table_kept.f k a l p) (a, l.filter p) := by
 have := kept_l p a l [] [] (by rw [List.nil_append]; omega) (by simp)
 exact this
def learnM (a : Int) (l : List S53) (x : S53) : List S53 := (x :: l.filter fun y => y.f0 != x.f0).take a.toNat
theorem learnM_len (a : Int) (l : List S53) (x : S53) : (learnM a l x).length ≤ a.toNat := List.length_take_le ..
theorem implLearn_ev (a : Int) (l : List S53) (x : S53) (ha : 0 ≤ a) (hl : l.length ≤ 1048575) : Ev (fun k => impl_Table_learn.f k a l x.f0 x.f1 x.f2) (a, learnM a l x) := by
 unfold impl_Table_learn.f
 refine Ev.bind (kept_ev _ a l (by omega)) ?_
 have hf := List.length_filter_le (fun y : S53 => y.f0 != x.f0) l
 simp only [Option.bind_some, eta3, List.length_singleton, if_pos (show 1 + (l.filter fun y => y.f0 != x.f0).length < 5864062014805 by omega), List.singleton_append]
 have hmn : mn ((x :: l.filter fun y => y.f0 != x.f0).length : Int) a = min ((x :: l.filter fun y => y.f0 != x.f0).length : Int) a := by
  unfold mn
  split
  ·rw [Int.min_eq_right (by omega)]
  ·rw [Int.min_eq_left (by omega)]
 rw [hmn]
 simp only [if_pos (show 0 ≤ min ((x :: l.filter fun y => y.f0 != x.f0).length : Int) a by omega), if_pos (show min ((x :: l.filter fun y => y.f0 != x.f0).length : Int) a ≤ ((x :: l.filter fun y => y.f0 != x.f0).length : Int) by omega)]
 refine Ev.some_ ?_
 unfold learnM
 congr 1
 generalize (x :: l.filter fun y => y.f0 != x.f0) = L
 by_cases h : (L.length : Int) ≤ a
 ·rw [Int.min_eq_left h, Int.toNat_natCast, List.take_length, List.take_of_length_le (by omega)]
 ·rw [Int.min_eq_right (by omega)]
theorem specLearn_l (a : Int) (l0 : List S53) (x : S53) (suf : List S53) : ∀ (pre out : List S53), ((pre ++ suf).length : Int) ≤ 1048576 → out.length ≤ pre.length + 1 → (out.length : Int) ≤ a →
  Ev (fun k => spec_l13Learn.l0 k (pre ++ suf) ((pre ++ suf).length : Int) pre.length a l0 x.f0 x.f1 x.f2 a out) (a, (out ++ suf.filter fun y => y.f0 != x.f0).take a.toNat) := by
 induction suf with
 | nil =>
  intro pre out h ho ha
  refine Ev.succ ?_
  simp only [spec_l13Learn.l0, List.append_nil, Int.lt_irrefl, if_false, List.filter_nil]
  rw [List.take_of_length_le (by omega)]
  exact Ev.now _
 | cons y suf ih =>
  intro pre out h ho ha
  refine Ev.succ ?_
  rw [len_mid] at h ⊢
  have := fun o ho => ih (pre ++ [y]) o (by rw [← app_one, len_mid]; exact h) ho
  rw [← app_one, len_mid, len_one] at this
  simp only [spec_l13Learn.l0]
  simp only [if_pos (show ((pre.length : Int) < pre.length + suf.length + 1) by omega), if_pos (show (0 : Int) ≤ pre.length by omega), len_mid, rdSeen_mid, wrap_id (show (-9223372036854775808 : Int) ≤ pre.length + 1 by omega) (show ((pre.length : Int) + 1 ≤ 9223372036854775807) by omega), eta3]
  by_cases h1 : y.f0 = x.f0
  ·simp only [if_pos h1]
   rw [List.filter_cons_of_neg (by simp [h1])]
   exact this out (by rw [List.length_append]; omega) ha
  ·simp only [if_neg h1]
   rw [List.filter_cons_of_pos (by simp [h1])]
   by_cases h2 : (out.length : Int) < a
   ·simp only [if_pos h2, if_pos (show out.length < 5864062014805 by omega)]
    rw [app_one out y (suf.filter fun y => y.f0 != x.f0)]
    exact this (out ++ [y]) (by simp only [List.length_append, List.length_singleton]; omega) (by rw [len_one]; omega)
   ·simp only [if_neg h2]
    have h3 := this out (by rw [List.length_append]; omega) ha
    rw [List.take_append_of_le_length (by omega)] at h3 ⊢
    exact h3
theorem specLearn_ev (a : Int) (l : List S53) (x : S53) (ha : 1 ≤ a) (hl : l.length ≤ 1048576) : Ev (fun k => spec_l13Learn.f k a l x.f0 x.f1 x.f2) (a, learnM a l x) := by
 have := specLearn_l a l x l [] [x] (by rw [List.nil_append]; omega) (by simp) (by simpa using ha)
 exact this
/-- the row of a host -/
def findM (l : List S53) (h : Int) : Int := ixF53 (fun x => x.f0 == h) l 0
end Go.Proofs.Ytcbofebikbbknaa.P

namespace Go.Proofs.Ytcbofebikbbknaa.P
open Go.RowKit Go.Proofs.YtcbofebikbbknaaW.PrintWords Go.Proofs.YtcbofebikbbknaaW.PrintLast
set_option linter.unusedVariables false
set_option linter.unusedSimpArgs false
def earlier (o : Option S53) (x : S53) : Bool := match o with
 | none => true
 | some y => !decide (y.f2 > x.f2)
def goH (o : Option S53) : List S53 → Bool
 | [] => true
 | x :: r => okSeen x && (earlier o x && goH (some x) r)
def goodH (a : Int) (l : List S53) : Bool := goH none l && (decide (1 ≤ a ∧ a ≤ 8) && decide ((l.length : Int) ≤ 60))
def hitOf (l : List S53) (x : S53) (n : Int) : Int := if findM l x.f0 ≥ 0 then wrap64 (n + 1) else n
def playM (a : Int) : List S53 → List S53 → List S53
 | t, [] => t
 | t, x :: r => playM a (learnM a t x) r
def hitsM (a : Int) : List S53 → Int → List S53 → Int
 | _, n, [] => n
 | t, n, x :: r => hitsM a (learnM a t x) (hitOf t x n) r
theorem specHeard_l (a : Int) (l : List S53) (hl : l.length ≤ 1048576) (suf : List S53) : ∀ (pre : List S53), pre ++ suf = l →
  Ev (fun k => spec_l13Heard.l0 k a l l (l.length : Int) pre.length) (goH pre.getLast? suf && (decide (1 ≤ a ∧ a ≤ 8) && decide ((l.length : Int) ≤ 60))) := by
 induction suf with
 | nil =>
  intro pre h
  rw [List.append_nil] at h
  subst h
  refine Ev.succ ?_
  simp only [spec_l13Heard.l0, Int.lt_irrefl, if_false, specIn3, Option.bind_some]
  rw [show goH pre.getLast? [] = true by cases pre.getLast? <;> rfl, Bool.true_and]
  by_cases h1 : 1 ≤ a ∧ a ≤ 8
  ·simp only [h1, and_self, decide_true, if_true, Bool.true_and]
   exact Ev.now _
  ·simp only [h1, decide_false, Bool.false_eq_true, if_false, Bool.false_and]
   exact Ev.now _
 | cons x suf ih =>
  intro pre h
  have h' := ih (pre ++ [x]) (by rw [← app_one]; exact h)
  rw [len_one, List.getLast?_concat] at h'
  refine Ev.succ ?_
  have hlen : (l.length : Int) = pre.length + suf.length + 1 := by rw [← h, len_mid]
  have hx : rd_T53 l (pre.length : Int) = x := by rw [← h]; exact rdSeen_mid pre x suf
  simp only [spec_l13Heard.l0]
  simp only [if_pos (show ((pre.length : Int) < l.length) by omega), if_pos (show (0 : Int) ≤ pre.length by omega), hx, specRow3, Option.bind_some, wrap_id (show (-9223372036854775808 : Int) ≤ pre.length + 1 by omega) (show ((pre.length : Int) + 1 ≤ 9223372036854775807) by omega)]
  generalize (decide (1 ≤ a ∧ a ≤ 8) && decide ((l.length : Int) ≤ 60)) = fin at h' ⊢
  have eg : goH pre.getLast? (x :: suf) = (okSeen x && (earlier pre.getLast? x && goH (some x) suf)) := by cases pre.getLast? <;> rfl
  rw [eg]
  cases hk : okSeen x with
  | false =>
   simp only [Bool.false_eq_true, if_false, Bool.false_and]
   exact Ev.now _
  | true =>
   simp only [if_true, Bool.true_and]
   rcases nil_or_snoc pre with rfl | ⟨p, y, rfl⟩
   ·simp only [List.length_nil, Int.ofNat_zero, gt_iff_lt, Int.lt_irrefl, if_false, List.getLast?_nil, earlier, Bool.true_and] at h' ⊢
    exact h'
   ·have hy : rd_T53 l (wrap64 (((p ++ [y]).length : Int) - 1)) = y := by
     rw [wrap_id (by omega) (by omega), len_one, show (p.length : Int) + 1 - 1 = p.length by omega, ← h, ← app_one]
     exact rdSeen_mid p y _
    have h0 : (0 : Int) ≤ wrap64 (((p ++ [y]).length : Int) - 1) ∧ wrap64 (((p ++ [y]).length : Int) - 1) < l.length := by
     rw [wrap_id (by omega) (by omega)]
     rw [len_one] at hlen ⊢
     omega
    simp only [if_pos (show (((p ++ [y]).length : Int)) > 0 by rw [len_one]; omega), if_pos h0.1, if_pos h0.2, hy]
    have hlast : (p ++ [y]).getLast? = some y := by simp
    by_cases ht : y.f2 > x.f2
    ·simp only [if_pos ht, hlast, earlier, decide_eq_true ht, Bool.not_true, Bool.false_and]
     exact Ev.now _
    ·simp only [if_neg ht, hlast, earlier, decide_eq_false ht, Bool.not_false, Bool.true_and]
     exact h'
theorem specHeard_ev (a : Int) (l : List S53) (hl : l.length ≤ 1048576) : Ev (fun k => spec_l13Heard.f k a l) (goodH a l) := specHeard_l a l hl l [] rfl
theorem implHeard_l1 (a : Int) (ha : 1 ≤ a ∧ a ≤ 8) (suf : List S53) : ∀ (pre t : List S53) (n : Int), ((pre ++ suf).length : Int) ≤ 1048576 → t.length ≤ 8 →
  Ev (fun k => impl_heard.l1 k n (pre ++ suf) ((pre ++ suf).length : Int) pre.length a t) (a, playM a t suf, hitsM a t n suf, true) := by
 induction suf with
 | nil =>
  intro pre t n h ht
  refine Ev.succ ?_
  simp only [impl_heard.l1, List.append_nil, Int.lt_irrefl, if_false, playM, hitsM]
  exact Ev.now _
 | cons x suf ih =>
  intro pre t n h ht
  refine Ev.succ ?_
  rw [len_mid] at h ⊢
  have := fun t n ht => ih (pre ++ [x]) t n (by rw [← app_one, len_mid]; exact h) ht
  rw [← app_one, len_mid, len_one] at this
  have hl := learnM_len a t x
  have hlearn := implLearn_ev a t x (by omega) (by omega)
  simp only [impl_heard.l1]
  simp only [if_pos (show ((pre.length : Int) < pre.length + suf.length + 1) by omega), if_pos (show (0 : Int) ≤ pre.length by omega), len_mid, rdSeen_mid, wrap_id (show (-9223372036854775808 : Int) ≤ pre.length + 1 by omega) (show ((pre.length : Int) + 1 ≤ 9223372036854775807) by omega), show impl_row.f t x.f0 = some (findM t x.f0) from rfl, Option.bind_some, playM, hitsM, hitOf]
  by_cases h1 : findM t x.f0 ≥ 0
  ·simp only [if_pos h1]
   exact Ev.bind hlearn (this (learnM a t x) _ (by omega))
  ·simp only [if_neg h1]
   exact Ev.bind hlearn (this (learnM a t x) _ (by omega))
theorem specPlay_l (a : Int) (ha : 1 ≤ a ∧ a ≤ 8) (suf : List S53) : ∀ (pre t : List S53), ((pre ++ suf).length : Int) ≤ 1048576 → t.length ≤ 8 →
  Ev (fun k => spec_PlayTable.l0 k (pre ++ suf) ((pre ++ suf).length : Int) pre.length a t) (a, playM a t suf, true) := by
 induction suf with
 | nil =>
  intro pre t h ht
  refine Ev.succ ?_
  simp only [spec_PlayTable.l0, List.append_nil, Int.lt_irrefl, if_false, playM]
  exact Ev.now _
 | cons x suf ih =>
  intro pre t h ht
  refine Ev.succ ?_
  rw [len_mid] at h ⊢
  have := fun t ht => ih (pre ++ [x]) t (by rw [← app_one, len_mid]; exact h) ht
  rw [← app_one, len_mid, len_one] at this
  have hl := learnM_len a t x
  have hlearn := specLearn_ev a t x (by omega) (by omega)
  simp only [spec_PlayTable.l0]
  simp only [if_pos (show ((pre.length : Int) < pre.length + suf.length + 1) by omega), if_pos (show (0 : Int) ≤ pre.length by omega), len_mid, rdSeen_mid, wrap_id (show (-9223372036854775808 : Int) ≤ pre.length + 1 by omega) (show ((pre.length : Int) + 1 ≤ 9223372036854775807) by omega), playM]
  exact Ev.bind hlearn (this (learnM a t x) (by omega))
theorem implHeard_l0 (a : Int) (ha : 1 ≤ a ∧ a ≤ 8) (l : List S53) (hl : l.length ≤ 1048576) (suf : List S53) : ∀ (pre : List S53), pre ++ suf = l →
  Ev (fun k => impl_heard.l0 k l l (l.length : Int) pre.length a []) (if goH pre.getLast? suf = true then (a, playM a [] l, hitsM a [] 0 l, true) else (0, [], 0, false)) := by
 induction suf with
 | nil =>
  intro pre h
  rw [List.append_nil] at h
  subst h
  refine Ev.succ ?_
  simp only [impl_heard.l0, Int.lt_irrefl, if_false]
  rw [show goH pre.getLast? [] = true by cases pre.getLast? <;> rfl, if_pos rfl]
  have := implHeard_l1 a ha pre [] [] 0 (by rw [List.nil_append]; omega) (by simp)
  exact this
 | cons x suf ih =>
  intro pre h
  have h' := ih (pre ++ [x]) (by rw [← app_one]; exact h)
  rw [len_one, List.getLast?_concat] at h'
  refine Ev.succ ?_
  have hlen : (l.length : Int) = pre.length + suf.length + 1 := by rw [← h, len_mid]
  have hx : rd_T53 l (pre.length : Int) = x := by rw [← h]; exact rdSeen_mid pre x suf
  simp only [impl_heard.l0]
  simp only [if_pos (show ((pre.length : Int) < l.length) by omega), if_pos (show (0 : Int) ≤ pre.length by omega), hx, implSeen3, Option.bind_some, wrap_id (show (-9223372036854775808 : Int) ≤ pre.length + 1 by omega) (show ((pre.length : Int) + 1 ≤ 9223372036854775807) by omega)]
  have eg : goH pre.getLast? (x :: suf) = (okSeen x && (earlier pre.getLast? x && goH (some x) suf)) := by cases pre.getLast? <;> rfl
  rw [eg]
  cases hk : okSeen x with
  | false =>
   simp only [Bool.false_eq_true, if_false, Bool.false_and]
   exact Ev.now _
  | true =>
   simp only [if_true, Bool.true_and]
   rcases nil_or_snoc pre with rfl | ⟨p, y, rfl⟩
   ·simp only [List.length_nil, Int.ofNat_zero, gt_iff_lt, Int.lt_irrefl, if_false, List.getLast?_nil, earlier, Bool.true_and] at h' ⊢
    exact h'
   ·have hy : rd_T53 l (wrap64 (((p ++ [y]).length : Int) - 1)) = y := by
     rw [wrap_id (by omega) (by omega), len_one, show (p.length : Int) + 1 - 1 = p.length by omega, ← h, ← app_one]
     exact rdSeen_mid p y _
    have h0 : (0 : Int) ≤ wrap64 (((p ++ [y]).length : Int) - 1) ∧ wrap64 (((p ++ [y]).length : Int) - 1) < l.length := by
     rw [wrap_id (by omega) (by omega)]
     rw [len_one] at hlen ⊢
     omega
    simp only [if_pos (show (((p ++ [y]).length : Int)) > 0 by rw [len_one]; omega), if_pos h0.1, if_pos h0.2, hy]
    have hlast : (p ++ [y]).getLast? = some y := by simp
    by_cases ht : y.f2 > x.f2
    ·simp only [if_pos ht, hlast, earlier, decide_eq_true ht, Bool.not_true, Bool.false_and, Bool.false_eq_true, if_false]
     exact Ev.now _
    ·simp only [if_neg ht, hlast, earlier, decide_eq_false ht, Bool.not_false, Bool.true_and]
     exact h'
def heardM (a : Int) (l : List S53) : Int × List S53 × Int × Bool := if goodH a l = true then (a, playM a [] l, hitsM a [] 0 l, true) else (0, [], 0, false)
theorem implHeard_ev (a : Int) (l : List S53) (hl : l.length ≤ 1048576) : Ev (fun k => impl_heard.f k a l) (heardM a l) := by
 unfold impl_heard.f heardM goodH impl_NewTable.f
 have bad : ∀ (b : Int) (t : List S53), Ev (fun k => impl_heard.j0 k l true b t) ((0 : Int), ([] : List S53), (0 : Int), false) := by
  intro b t
  refine Ev.succ ?_
  simp only [impl_heard.j0, if_true]
  exact Ev.now _
 simp only [implIn3, Option.bind_some]
 by_cases h1 : 1 ≤ a ∧ a ≤ 8
 ·simp only [h1, and_self, decide_true, if_true, Option.bind_some, Bool.true_and]
  by_cases h2 : (l.length : Int) > 60
  ·rw [decide_eq_true h2, decide_eq_false (show ¬ (l.length : Int) ≤ 60 by omega), Bool.and_false, if_neg Bool.false_ne_true]
   exact bad _ _
  ·rw [decide_eq_false h2, decide_eq_true (show (l.length : Int) ≤ 60 by omega), Bool.and_true]
   refine Ev.succ ?_
   simp only [impl_heard.j0, Bool.false_eq_true, if_false]
   exact implHeard_l0 a h1 l hl l [] rfl
 ·simp only [h1, decide_false, Bool.false_eq_true, if_false, Option.bind_some, Bool.false_and, Bool.and_false]
  exact bad _ _
theorem playM_len (a : Int) : ∀ (l t : List S53), t.length ≤ a.toNat → (playM a t l).length ≤ a.toNat
 | [], _, h => h
 | x :: l, t, h => playM_len a l _ (learnM_len a t x)
theorem heardM_len (a : Int) (l : List S53) : (heardM a l).2.1.length ≤ 8 := by
 unfold heardM
 split
 ·rename_i h
  unfold goodH at h
  rw [Bool.and_eq_true, Bool.and_eq_true, decide_eq_true_eq] at h
  have := playM_len a l [] (by simp)
  show (playM a [] l).length ≤ 8
  omega
 ·simp
theorem specPlay_ev (a : Int) (l : List S53) (hl : l.length ≤ 1048576) : Ev (fun k => spec_PlayTable.f k a l) ((heardM a l).1, (heardM a l).2.1, (heardM a l).2.2.2) := by
 unfold spec_PlayTable.f heardM
 refine Ev.bind (specHeard_ev a l hl) ?_
 by_cases h : goodH a l = true
 ·have h' := h
  unfold goodH at h'
  rw [Bool.and_eq_true, Bool.and_eq_true, decide_eq_true_eq] at h'
  simp only [if_pos h]
  have := specPlay_l a h'.2.1 l [] [] (by rw [List.nil_append]; omega) (by simp)
  exact this
 ·simp only [if_neg h]
  exact Ev.now _
theorem implPlay_ev (a : Int) (l : List S53) (hl : l.length ≤ 1048576) : Ev (fun k => impl_PlayTable.f k a l) ((heardM a l).1, (heardM a l).2.1, (heardM a l).2.2.2) := by
 unfold impl_PlayTable.f
 exact Ev.bind (implHeard_ev a l hl) (Ev.now _)
end Go.Proofs.Ytcbofebikbbknaa.P

namespace Go.Proofs.Ytcbofebikbbknaa.Pure
open Go.RowKit Go.Proofs.Ytcbofebikbbknaa.P Go.Proofs.YtcbofebikbbknaaW.PrintWords Go.Proofs.YtcbofebikbbknaaW.PrintLast
set_option linter.unusedVariables false
set_option linter.unusedSimpArgs false
theorem FnExactPlayTable : laws_FnExactPlayTable.Pure := by
 intro a l _ ⟨hm, _⟩
 refine Ev.rounds ?_
 unfold laws_FnExactPlayTable.f
 rw [szSeenS_is l hm 1048576 (by omega) (by omega)]
 simp only [Option.bind_some]
 by_cases h : (1048576 : Int) - l.length < 0
 ·simp only [if_pos h]
  exact Ev.now _
 ·have hl : l.length ≤ 1048576 := by omega
  have hl2 : (l.map cvSeen).length ≤ 1048576 := by simpa using hl
  have hr := heardM_len a (l.map cvSeen)
  simp only [if_neg h]
  refine Ev.bind (toSeenS_ev l hl) ?_
  refine Ev.bind (specPlay_ev a _ hl2) ?_
  refine Ev.bind (toSeenS_ev l hl) ?_
  refine Ev.bind (implPlay_ev a _ hl2) ?_
  have hi := implPlay_ev a _ hl2
  generalize heardM a (l.map cvSeen) = r at hr hi
  refine Ev.bind (eqTable_ev _ _ (show r.2.1.length ≤ 1099511627776 by omega)) ?_
  simp only [if_true, bne_self_eq_false]
  refine Ev.succ ?_
  simp only [laws_FnExactPlayTable.j0, Bool.false_eq_true, if_false]
  refine Ev.bind (toSeenS_ev l hl) ?_
  refine Ev.bind (eqSeenS_ev _ _ (by omega)) ?_
  simp only [decide_true, if_true]
  refine Ev.bind (markSeenS_ev _ 1 (by omega) (by omega) (by omega)) ?_
  simp only [if_neg (show ¬ (1 + 3 * ((l.map cvSeen).length : Int)) < 0 by omega)]
  refine Ev.bind (eqTable_ev _ _ (show r.2.1.length ≤ 1099511627776 by omega)) ?_
  simp only [if_true, bne_self_eq_false]
  refine Ev.succ ?_
  simp only [laws_FnExactPlayTable.j1, Bool.false_eq_true, if_false]
  refine Ev.bind (markTable_ev _ _ 1 (show r.2.1.length ≤ 1099511627776 by omega) (by omega) (by omega)) ?_
  refine Ev.bind (heldTable_ev _ _ 1 (show r.2.1.length ≤ 1099511627776 by omega) (by omega) (by omega)) ?_
  simp only [if_neg (show ¬ (1 + 3 * (r.2.1.length : Int)) < 0 by omega), if_true]
  refine Ev.bind (toSeenS_ev l hl) ?_
  refine Ev.bind hi ?_
  refine Ev.bind (eqTable_ev _ _ (show r.2.1.length ≤ 1099511627776 by omega)) ?_
  simp only [if_true, bne_self_eq_false]
  refine Ev.succ ?_
  simp only [laws_FnExactPlayTable.j2, Bool.false_eq_true, if_false]
  refine Ev.bind (heldTable_ev _ _ 1 (show r.2.1.length ≤ 1099511627776 by omega) (by omega) (by omega)) ?_
  simp only [if_neg (show ¬ (1 + 3 * (r.2.1.length : Int)) < 0 by omega), if_true]
  exact Ev.now _
end Go.Proofs.Ytcbofebikbbknaa.Pure
