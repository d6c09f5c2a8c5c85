/- Functions, walks and plain lemmas that the law FnExactDegreesOf reaches, part 3. -/
import Derived.Test.YtpbnpepikkocmaaCFnExactDegreesOf2
import Derived.WalkKit
import Derived.ProofKit
import Derived.OpenShut
import Derived.ChangeOld
import Derived.Below
import Derived.SizedLaws
import Derived.ChangeArms
import Derived.DataElems
import Derived.Deep.Draws
import Derived.Deep.AppendLies
import Derived.Maps.AppendAt
import Derived.OwnWalk
import Derived.Laws.BytesArg
import Derived.Laws.MakeOwn
import Derived.Laws.OwnMore
import Derived.Deep.OwnRows
import Derived.Tactics
import Derived.Lib.ConvBytes
import Derived.Laws.Slices
import Derived.KernelRfl
import Derived.RowKit3
import Derived.Deep.LoopGhost
import Derived.Deep.QuietTactic
import Derived.BigQuiet
import Derived.WideLaws
import Derived.Deep.DeepCutAuto
import Derived.Deep.CutBlock
import Derived.Deep.RegionHeld3
import Derived.Laws.Rows
import Derived.Lib.AppendStr
import Derived.ArgAppend
import Derived.Laws.IdiomCopy
import Derived.OrdersHeld
import Derived.Laws.BitsLemmas
import Derived.RowKit
import Derived.WalkSpells
import Derived.Lib.SliceRun
import Derived.Shelf.Abstract
import Derived.ShutString
import Derived.Test.YtpbnpepikkocmaaWWords
import Derived.Test.YtpbnpepikkocmaaWLast
import Derived.Test.YtpbnpepikkocmaaWTab
import Derived.Test.YtpbnpepikkocmaaWApart
import Derived.Test.YtpbnpepikkocmaaWKept
import Derived.Test.YtpbnpepikkocmaaWGuard
import Derived.Test.YtpbnpepikkocmaaWMore
namespace Go.Proofs.Ytpbnpepikkocmaa.P
open Go.RowKit Go.Proofs.YtpbnpepikkocmaaW.PrintWords Go.Proofs.YtpbnpepikkocmaaW.PrintLast Go.Proofs.YtpbnpepikkocmaaW.PrintMore
attribute [local go_sem] max2_int min2_int max_two min_two max_three min_three max_four min_four   -- for this text's walks alone
set_option linter.unusedVariables false
set_option linter.unusedSimpArgs false
mutual
def laws_FnExactDegreesOf.j0 : Nat → Int → List (S65) → List Int → Bool → List (S52) → List Int → Bool → Bool → Option (Bool)
  | 0, _, _, _, _, _, _, _, _ => none
  | k + 1, x0, x1, x6, x7, x8, x9, x10, x44 => if x44 = true then (some false) else ((laws_toEdgeS.f k x1).bind fun t402 => ((laws_eqEdgeS.f k x8 t402).bind fun t405 => (if t405 = true then ((laws_markEdgeS.f k x8 1).bind fun bt406 => (if bt406.1 < 0 then (laws_FnExactDegreesOf.j1 k x0 x1 x6 x7 x9 true) else ((laws_eqIntS.f k x9 x6).bind fun t408 => (if t408 = true then (laws_FnExactDegreesOf.j1 k x0 x1 x6 x7 x9 (x10 != x7)) else (laws_FnExactDegreesOf.j1 k x0 x1 x6 x7 x9 true))))) else (some false))))
def laws_FnExactDegreesOf.j1 : Nat → Int → List (S65) → List Int → Bool → List Int → Bool → Option (Bool)
  | 0, _, _, _, _, _, _ => none
  | k + 1, x0, x1, x6, x7, x9, x65 => if x65 = true then (some false) else ((laws_markIntS.f k x9 1).bind fun bt409 => ((laws_heldIntS.f k bt409.2 1).bind fun t411 => (if t411 < 0 then (some false) else (if t411 = bt409.1 then ((laws_toEdgeS.f k x1).bind fun t412 => ((impl_DegreesOf.f k x0 t412).bind fun bt415 => ((laws_eqIntS.f k bt415.1 x6).bind fun t419 => (if t419 = true then (laws_FnExactDegreesOf.j2 k bt409.2 bt409.1 (bt415.2 != x7)) else (laws_FnExactDegreesOf.j2 k bt409.2 bt409.1 true))))) else (some false)))))
def laws_FnExactDegreesOf.j2 : Nat → List Int → Int → Bool → Option (Bool)
  | 0, _, _, _ => none
  | k + 1, x9, x12, x92 => if x92 = true then (some false) else ((laws_heldIntS.f k x9 1).bind fun t420 => (if t420 < 0 then (some false) else (if t420 = x12 then (some true) else (some false))))
end
def laws_FnExactDegreesOf.f (k : Nat) (a0 : Int) (l1 : List (S65)) : Option (Bool) := (laws_szEdgeS.f l1 1048576).bind fun t386 => (if t386 < 0 then (some true) else ((laws_toEdgeS.f k l1).bind fun t387 => ((spec_DegreesOf.f k a0 t387).bind fun bt390 => ((laws_toEdgeS.f k l1).bind fun t394 => ((impl_DegreesOf.f k a0 t394).bind fun bt397 => ((laws_eqIntS.f k bt397.1 bt390.1).bind fun t401 => (if t401 = true then (laws_FnExactDegreesOf.j0 k a0 l1 bt390.1 bt390.2 t394 bt397.1 bt397.2 (bt397.2 != bt390.2)) else (laws_FnExactDegreesOf.j0 k a0 l1 bt390.1 bt390.2 t394 bt397.1 bt397.2 true))))))))
set_option maxHeartbeats 8000000 in
set_option maxRecDepth 100000 in
theorem laws_FnExactDegreesOf.calls (k : Nat) (a0 : Int) (A1 : Option Addr) (c1 : Nat) (l1 : List (S65)) (r : Bool) (w : World) (hr1 : Kd.C k65 w A1 l1.length l1) (hc1 : l1.length ≤ c1) (h : laws_FnExactDegreesOf.f k a0 l1 = some r) :
    Calls Try.prog 6 #[.int .i64 a0, .slice A1 l1.length c1] w fun e w' => e = .returned (.bool r) ∧ Below w.heap.size w w' := by
  have HR1 := Aside0.mk hr1
  have HC1 := Aside0.mk hc1
  clear hr1 hc1
  have HB := Aside0.mk (Below.refl w.heap.size w)
  have H : ((laws_szEdgeS.f l1 1048576).bind fun t386 => (if t386 < 0 then (some true) else ((laws_toEdgeS.f k l1).bind fun t387 => ((spec_DegreesOf.f k a0 t387).bind fun bt390 => ((laws_toEdgeS.f k l1).bind fun t394 => ((impl_DegreesOf.f k a0 t394).bind fun bt397 => ((laws_eqIntS.f k bt397.1 bt390.1).bind fun t401 => (if t401 = true then (laws_FnExactDegreesOf.j0 k a0 l1 bt390.1 bt390.2 t394 bt397.1 bt397.2 (bt397.2 != bt390.2)) else (laws_FnExactDegreesOf.j0 k a0 l1 bt390.1 bt390.2 t394 bt397.1 bt397.2 true))))))))) = some r := h
  clear h
  replace H := Option.bind_eq_some_iff.mp H
  obtain ⟨t386, A30, H⟩ := H
  replace H : (if t386 < 0 then (some true) else ((laws_toEdgeS.f k l1).bind fun t387 => ((spec_DegreesOf.f k a0 t387).bind fun bt390 => ((laws_toEdgeS.f k l1).bind fun t394 => ((impl_DegreesOf.f k a0 t394).bind fun bt397 => ((laws_eqIntS.f k bt397.1 bt390.1).bind fun t401 => (if t401 = true then (laws_FnExactDegreesOf.j0 k a0 l1 bt390.1 bt390.2 t394 bt397.1 bt397.2 (bt397.2 != bt390.2)) else (laws_FnExactDegreesOf.j0 k a0 l1 bt390.1 bt390.2 t394 bt397.1 bt397.2 true)))))))) = some r := H
  have A3 := Aside0.mk A30
  clear A30
  by_cases c4 : t386 < 0
  · rw [if_pos c4] at H
    have c4b0 : decide (t386 < 0) = true := decide_eq_true c4
    clear c4
    obtain rfl := Option.some.inj H
    go_enter Try.func6, Try.ntmps6
    go_wp2_with (first | ((with_reducible refine gate_callee (f := 10) rfl ?_); refine goesL_ (some 18) rfl rfl Try.func10 (by kernel_rfl) rfl #[.slice A1 l1.length c1, .int .i64 1048576] rfl (by (try simp only [List.map_toArray, List.map_cons, List.map_nil]); first | done | rfl | (simp only [List.length_drop, List.length_take]; rfl)) ?_; (with_reducible refine (laws_szEdgeS.calls _ _ l1 1048576 t386 _ ?side1 ?side2 A3.out).mono ?_); (case side1 => repeat (first | exact HR1.out | (with_reducible refine Kd.C_alloc ?_ _) | (with_reducible refine Kd.C_drewN ?_ _) | (with_reducible refine Kd.C_drew ?_))); (case side2 => exact HC1.out); rintro e w' ⟨rfl, ⟨nd, rfl⟩⟩; refine ⟨_, rfl, ?_⟩))
    go_ret
    exact ⟨by first | rfl | (simp [errW_none, errW_some] <;> rfl) | (simp [*, errW_none, errW_some] <;> rfl), by repeat (first | (with_reducible first | exact HB.out | apply below_alloc | apply pw_below_drewN | apply below_drew1) | exact HB.out)⟩
  · rw [if_neg c4] at H
    have c4b0 : decide (t386 < 0) = false := decide_eq_false c4
    clear c4
    replace H := Option.bind_eq_some_iff.mp H
    obtain ⟨t387, A50, H⟩ := H
    replace H : ((spec_DegreesOf.f k a0 t387).bind fun bt390 => ((laws_toEdgeS.f k l1).bind fun t394 => ((impl_DegreesOf.f k a0 t394).bind fun bt397 => ((laws_eqIntS.f k bt397.1 bt390.1).bind fun t401 => (if t401 = true then (laws_FnExactDegreesOf.j0 k a0 l1 bt390.1 bt390.2 t394 bt397.1 bt397.2 (bt397.2 != bt390.2)) else (laws_FnExactDegreesOf.j0 k a0 l1 bt390.1 bt390.2 t394 bt397.1 bt397.2 true)))))) = some r := H
    have A5 := Aside0.mk A50
    clear A50
    replace H := Option.bind_eq_some_iff.mp H
    obtain ⟨⟨t390, t391⟩, A60, H⟩ := H
    replace H : ((laws_toEdgeS.f k l1).bind fun t394 => ((impl_DegreesOf.f k a0 t394).bind fun bt397 => ((laws_eqIntS.f k bt397.1 t390).bind fun t401 => (if t401 = true then (laws_FnExactDegreesOf.j0 k a0 l1 t390 t391 t394 bt397.1 bt397.2 (bt397.2 != t391)) else (laws_FnExactDegreesOf.j0 k a0 l1 t390 t391 t394 bt397.1 bt397.2 true))))) = some r := H
    have A6 := Aside0.mk A60
    clear A60
    replace H := Option.bind_eq_some_iff.mp H
    obtain ⟨t394, A70, H⟩ := H
    replace H : ((impl_DegreesOf.f k a0 t394).bind fun bt397 => ((laws_eqIntS.f k bt397.1 t390).bind fun t401 => (if t401 = true then (laws_FnExactDegreesOf.j0 k a0 l1 t390 t391 t394 bt397.1 bt397.2 (bt397.2 != t391)) else (laws_FnExactDegreesOf.j0 k a0 l1 t390 t391 t394 bt397.1 bt397.2 true)))) = some r := H
    have A7 := Aside0.mk A70
    clear A70
    replace H := Option.bind_eq_some_iff.mp H
    obtain ⟨⟨t397, t398⟩, A80, H⟩ := H
    replace H : ((laws_eqIntS.f k t397 t390).bind fun t401 => (if t401 = true then (laws_FnExactDegreesOf.j0 k a0 l1 t390 t391 t394 t397 t398 (t398 != t391)) else (laws_FnExactDegreesOf.j0 k a0 l1 t390 t391 t394 t397 t398 true))) = some r := H
    have A8 := Aside0.mk A80
    clear A80
    have HC9 := Aside0.mk H
    clear H
    go_enter Try.func6, Try.ntmps6
    go_upto_region 8 with (first | ((with_reducible refine gate_callee (f := 10) rfl ?_); refine goesL_ (some 18) rfl rfl Try.func10 (by kernel_rfl) rfl #[.slice A1 l1.length c1, .int .i64 1048576] rfl (by (try simp only [List.map_toArray, List.map_cons, List.map_nil]); first | done | rfl | (simp only [List.length_drop, List.length_take]; rfl)) ?_; (with_reducible refine (laws_szEdgeS.calls _ _ l1 1048576 t386 _ ?side1 ?side2 A3.out).mono ?_); (case side1 => repeat (first | exact HR1.out | (with_reducible refine Kd.C_alloc ?_ _) | (with_reducible refine Kd.C_drewN ?_ _) | (with_reducible refine Kd.C_drew ?_))); (case side2 => exact HC1.out); rintro e w' ⟨rfl, ⟨nd, rfl⟩⟩; refine ⟨_, rfl, ?_⟩) | ((with_reducible refine gate_callee (f := 12) rfl ?_); refine goesL_ (some 24) rfl rfl Try.func12 (by kernel_rfl) rfl #[.slice A1 l1.length c1] rfl (by (try simp only [List.map_toArray, List.map_cons, List.map_nil]); first | done | rfl | (simp only [List.length_drop, List.length_take]; rfl)) ?_; (with_reducible refine (laws_toEdgeS.calls k _ _ l1 t387 _ ?side1 ?side2 A5.out).mono ?_); (case side1 => repeat (first | exact HR1.out | (with_reducible refine Kd.C_alloc ?_ _) | (with_reducible refine Kd.C_drewN ?_ _) | (with_reducible refine Kd.C_drew ?_))); (case side2 => exact HC1.out); rintro e w10 ⟨v388, rfl, ho0, hb⟩; refine ⟨_, rfl, ?_⟩; have n0_ := Aside0.mk (Kd.R_lower ho0 (below_size (by repeat (first | (with_reducible first | exact HB.out | apply below_alloc | apply pw_below_drewN | apply below_drew1) | exact HB.out)))); have n1_ := Aside0.mk (below_step (by repeat (first | (with_reducible first | exact HB.out | apply below_alloc | apply pw_below_drewN | apply below_drew1) | exact HB.out)) hb); clear HB; have HO389 := n0_; have HB := n1_; clear n0_ n1_; (try clear hb); (try clear hb2); (try clear hk); (try clear hi); (try clear ho0); obtain ⟨Ao11, co11, eo11⟩ := Kd.R_slice HO389.out; subst eo11) | ((with_reducible refine gate_callee (f := 28) rfl ?_); refine goesL_ (some 25) rfl rfl Try.func28 (by kernel_rfl) rfl #[.int .i64 a0, .slice Ao11 t387.length co11] rfl (by (try simp only [List.map_toArray, List.map_cons, List.map_nil]); first | done | rfl | (simp only [List.length_drop, List.length_take]; rfl)) ?_; (with_reducible refine (spec_DegreesOf.calls k a0 _ _ t387 t390 t391 _ ?side1 ?side2 A6.out).mono ?_); (case side1 => repeat (first | exact (Kd.R_reads' HO389.out).2.2 | (with_reducible refine Kd.C_alloc ?_ _) | (with_reducible refine Kd.C_drewN ?_ _) | (with_reducible refine Kd.C_drew ?_))); (case side2 => exact (Kd.R_reads' HO389.out).2.1); rintro e w12 ⟨v392, rfl, ho0, hb⟩; refine ⟨_, rfl, ?_⟩; have n0_ := Aside0.mk (Kd.R_below (by (with_reducible repeat (first | apply Kd.R_alloc | apply Kd.R_drewN | apply Kd.R_drew)); exact HO389.out) hb); have n1_ := Aside0.mk (Kd.R_lower ho0 (below_size (by repeat (first | (with_reducible first | exact HB.out | apply below_alloc | apply pw_below_drewN | apply below_drew1) | exact HB.out)))); have n2_ := Aside0.mk (below_step (by repeat (first | (with_reducible first | exact HB.out | apply below_alloc | apply pw_below_drewN | apply below_drew1) | exact HB.out)) hb); clear HO389; clear HB; have HO389 := n0_; have HO393 := n1_; have HB := n2_; clear n0_ n1_ n2_; (try clear hb); (try clear hb2); (try clear hk); (try clear hi); (try clear ho0)) | ((with_reducible refine gate_callee (f := 12) rfl ?_); refine goesL_ (some 29) rfl rfl Try.func12 (by kernel_rfl) rfl #[.slice A1 l1.length c1] rfl (by (try simp only [List.map_toArray, List.map_cons, List.map_nil]); first | done | rfl | (simp only [List.length_drop, List.length_take]; rfl)) ?_; (with_reducible refine (laws_toEdgeS.calls k _ _ l1 t394 _ ?side1 ?side2 A7.out).mono ?_); (case side1 => repeat (first | exact (Kd.C_below HR1.out HB.out) | (with_reducible refine Kd.C_alloc ?_ _) | (with_reducible refine Kd.C_drewN ?_ _) | (with_reducible refine Kd.C_drew ?_))); (case side2 => exact HC1.out); rintro e w13 ⟨v395, rfl, ho0, hb⟩; refine ⟨_, rfl, ?_⟩; have n0_ := Aside0.mk (Kd.R_elder' (by (with_reducible repeat (first | apply Kd.R_alloc | apply Kd.R_drewN | apply Kd.R_drew)); exact HO389.out) (Kd.R_base ho0) hb); have n1_ := Aside0.mk (Kd.R_below (by (with_reducible repeat (first | apply Kd.R_alloc | apply Kd.R_drewN | apply Kd.R_drew)); exact HO393.out) hb); have n2_ := Aside0.mk (Kd.R_lower (Kd.R_new' ho0 (Kd.R_lt (by (with_reducible repeat (first | apply Kd.R_alloc | apply Kd.R_drewN | apply Kd.R_drew)); exact HO389.out))) (below_size (by repeat (first | (with_reducible first | exact HB.out | apply below_alloc | apply pw_below_drewN | apply below_drew1) | exact HB.out)))); have n3_ := Aside0.mk (below_step (by repeat (first | (with_reducible first | exact HB.out | apply below_alloc | apply pw_below_drewN | apply below_drew1) | exact HB.out)) hb); clear HO389; clear HO393; clear HB; have HO389 := n0_; have HO393 := n1_; have HO396 := n2_; have HB := n3_; clear n0_ n1_ n2_ n3_; (try clear hb); (try clear hb2); (try clear hk); (try clear hi); (try clear ho0); obtain ⟨Ao14, co14, eo14⟩ := Kd.R_slice HO396.out; subst eo14) | ((with_reducible refine gate_callee (f := 29) rfl ?_); refine goesL_ (some 33) rfl rfl Try.func29 (by kernel_rfl) rfl #[.int .i64 a0, .slice Ao14 t394.length co14] rfl (by (try simp only [List.map_toArray, List.map_cons, List.map_nil]); first | done | rfl | (simp only [List.length_drop, List.length_take]; rfl)) ?_; (with_reducible refine (impl_DegreesOf.calls k a0 _ _ t394 t397 t398 _ ?side1 ?side2 A8.out).mono ?_); (case side1 => repeat (first | exact (Kd.R_reads' HO396.out).2.2 | (with_reducible refine Kd.C_alloc ?_ _) | (with_reducible refine Kd.C_drewN ?_ _) | (with_reducible refine Kd.C_drew ?_))); (case side2 => exact (Kd.R_reads' HO396.out).2.1); rintro e w15 ⟨v399, rfl, ho0, hb⟩; refine ⟨_, rfl, ?_⟩; have n0_ := Aside0.mk (Kd.R_below (by (with_reducible repeat (first | apply Kd.R_alloc | apply Kd.R_drewN | apply Kd.R_drew)); exact HO389.out) hb); have n1_ := Aside0.mk (Kd.R_elder' (by (with_reducible repeat (first | apply Kd.R_alloc | apply Kd.R_drewN | apply Kd.R_drew)); exact HO393.out) (Kd.R_base ho0) hb); have n2_ := Aside0.mk (Kd.R_below (by (with_reducible repeat (first | apply Kd.R_alloc | apply Kd.R_drewN | apply Kd.R_drew)); exact HO396.out) hb); have n3_ := Aside0.mk (Kd.R_lower (Kd.R_new' ho0 (Kd.R_lt (by (with_reducible repeat (first | apply Kd.R_alloc | apply Kd.R_drewN | apply Kd.R_drew)); exact HO393.out))) (below_size (by repeat (first | (with_reducible first | exact HB.out | apply below_alloc | apply pw_below_drewN | apply below_drew1) | exact HB.out)))); have n4_ := Aside0.mk (below_step (by repeat (first | (with_reducible first | exact HB.out | apply below_alloc | apply pw_below_drewN | apply below_drew1) | exact HB.out)) hb); clear HO389; clear HO393; clear HO396; clear HB; have HO389 := n0_; have HO393 := n1_; have HO396 := n2_; have HO400 := n3_; have HB := n4_; clear n0_ n1_ n2_ n3_ n4_; (try clear hb); (try clear hb2); (try clear hk); (try clear hi); (try clear ho0)))
    (try simp only [Act.put, List.setIfInBounds_toArray, List.set_cons_zero, List.set_cons_succ])
    go_cut [44] (fun v44 wc => ∃ (kq : Nat) (x44_8 : Bool), v44 = .bool x44_8 ∧ Aside0 (laws_FnExactDegreesOf.j0 kq a0 l1 t390 t391 t394 t397 t398 x44_8 = some r) ∧ Aside0 (kq ≤ k) ∧ Aside0 (Kd.R (Kd.int .i64) 3 wc w.heap.size (fun k_ => some k_ ≠ (v399 : Value).ownBlock) v392 t390) ∧ Aside0 (Kd.R k52 52 wc w.heap.size (fun _ => True) (.slice Ao14 t394.length co14) t394) ∧ Aside0 (Kd.R (Kd.int .i64) 3 wc w.heap.size (fun k_ => some k_ ≠ (v392 : Value).ownBlock) v399 t397) ∧ Aside0 (Below w.heap.size w wc))
    case first =>
      have H := HC9.out
      clear HC9
      replace H := Option.bind_eq_some_iff.mp H
      obtain ⟨t401, A160, H⟩ := H
      replace H : (if t401 = true then (laws_FnExactDegreesOf.j0 k a0 l1 t390 t391 t394 t397 t398 (t398 != t391)) else (laws_FnExactDegreesOf.j0 k a0 l1 t390 t391 t394 t397 t398 true)) = some r := H
      have A16 := Aside0.mk A160
      clear A160
      by_cases c17 : t401 = true
      · subst c17
        have H1 : (laws_FnExactDegreesOf.j0 k a0 l1 t390 t391 t394 t397 t398 (t398 != t391)) = some r := by rw [if_pos rfl] at H; exact H
        clear H
        have H := H1
        clear H1
        have H' := Aside0.mk H
        clear H
        obtain ⟨Ao18, co18, eo18⟩ := Kd.R_slice HO400.out
        subst eo18
        obtain ⟨Ao19, co19, eo19⟩ := Kd.R_slice HO393.out
        subst eo19
        go_wp2_with (first | ((with_reducible refine gate_callee (f := 17) rfl ?_); refine goesL_ (some 38) rfl rfl Try.func17 (by kernel_rfl) rfl #[.slice Ao18 t397.length co18, .slice Ao19 t390.length co19] rfl (by (try simp only [List.map_toArray, List.map_cons, List.map_nil]); first | done | rfl | (simp only [List.length_drop, List.length_take]; rfl)) ?_; (with_reducible refine (laws_eqIntS.calls k _ _ t397 _ _ t390 true _ ?side1 ?side2 ?side3 ?side4 A16.out).mono ?_); (case side1 => repeat (first | exact (Kd.R_reads' HO400.out).2.2 | (with_reducible refine Kd.C_alloc ?_ _) | (with_reducible refine Kd.C_drewN ?_ _) | (with_reducible refine Kd.C_drew ?_))); (case side2 => exact (Kd.R_reads' HO400.out).2.1); (case side3 => repeat (first | exact (Kd.R_reads' HO393.out).2.2 | (with_reducible refine Kd.C_alloc ?_ _) | (with_reducible refine Kd.C_drewN ?_ _) | (with_reducible refine Kd.C_drew ?_))); (case side4 => exact (Kd.R_reads' HO393.out).2.1); rintro e w' ⟨rfl, ⟨nd, rfl⟩⟩; refine ⟨_, rfl, ?_⟩))
        go_meet
        case rel => exact ⟨_, ((t398 != t391)), (by first | rfl | (simp; done) | (simp [*]; done)), H', ⟨by first | omega | exact Nat.le_refl _⟩, ⟨by (with_reducible repeat (first | apply Kd.R_alloc | apply Kd.R_drewN | apply Kd.R_drew)); exact Kd.R_mono HO393.out (fun _ hk => hk.2)⟩, ⟨by (with_reducible repeat (first | apply Kd.R_alloc | apply Kd.R_drewN | apply Kd.R_drew)); exact Kd.R_mono HO396.out (fun _ hk => trivial)⟩, ⟨by (with_reducible repeat (first | apply Kd.R_alloc | apply Kd.R_drewN | apply Kd.R_drew)); exact Kd.R_mono HO400.out (fun _ hk => hk.2)⟩, ⟨by repeat (first | (with_reducible first | exact HB.out | apply below_alloc | apply pw_below_drewN | apply below_drew1) | exact HB.out)⟩⟩
      · replace c17 := Bool.eq_false_iff.mpr c17
        subst c17
        have H1 : (laws_FnExactDegreesOf.j0 k a0 l1 t390 t391 t394 t397 t398 true) = some r := by rw [if_neg (show ¬ (false = true) by decide)] at H; exact H
        clear H
        have H := H1
        clear H1
        have H' := Aside0.mk H
        clear H
        obtain ⟨Ao20, co20, eo20⟩ := Kd.R_slice HO400.out
        subst eo20
        obtain ⟨Ao21, co21, eo21⟩ := Kd.R_slice HO393.out
        subst eo21
        go_wp2_with (first | ((with_reducible refine gate_callee (f := 17) rfl ?_); refine goesL_ (some 38) rfl rfl Try.func17 (by kernel_rfl) rfl #[.slice Ao20 t397.length co20, .slice Ao21 t390.length co21] rfl (by (try simp only [List.map_toArray, List.map_cons, List.map_nil]); first | done | rfl | (simp only [List.length_drop, List.length_take]; rfl)) ?_; (with_reducible refine (laws_eqIntS.calls k _ _ t397 _ _ t390 false _ ?side1 ?side2 ?side3 ?side4 A16.out).mono ?_); (case side1 => repeat (first | exact (Kd.R_reads' HO400.out).2.2 | (with_reducible refine Kd.C_alloc ?_ _) | (with_reducible refine Kd.C_drewN ?_ _) | (with_reducible refine Kd.C_drew ?_))); (case side2 => exact (Kd.R_reads' HO400.out).2.1); (case side3 => repeat (first | exact (Kd.R_reads' HO393.out).2.2 | (with_reducible refine Kd.C_alloc ?_ _) | (with_reducible refine Kd.C_drewN ?_ _) | (with_reducible refine Kd.C_drew ?_))); (case side4 => exact (Kd.R_reads' HO393.out).2.1); rintro e w' ⟨rfl, ⟨nd, rfl⟩⟩; refine ⟨_, rfl, ?_⟩))
        go_meet
        case rel => exact ⟨_, (true), (by first | rfl | (simp; done) | (simp [*]; done)), H', ⟨by first | omega | exact Nat.le_refl _⟩, ⟨by (with_reducible repeat (first | apply Kd.R_alloc | apply Kd.R_drewN | apply Kd.R_drew)); exact Kd.R_mono HO393.out (fun _ hk => hk.2)⟩, ⟨by (with_reducible repeat (first | apply Kd.R_alloc | apply Kd.R_drewN | apply Kd.R_drew)); exact Kd.R_mono HO396.out (fun _ hk => trivial)⟩, ⟨by (with_reducible repeat (first | apply Kd.R_alloc | apply Kd.R_drewN | apply Kd.R_drew)); exact Kd.R_mono HO400.out (fun _ hk => hk.2)⟩, ⟨by repeat (first | (with_reducible first | exact HB.out | apply below_alloc | apply pw_below_drewN | apply below_drew1) | exact HB.out)⟩⟩
    case rest =>
      clear HC9
      try clear c1
      try clear c2
      try clear p2
      try clear c4
      try clear c4b0
      try clear c6
      try clear c10
      try clear c12
      try clear c17
      obtain ⟨kq, x44_8, rfl, HA, HJ8, HO_6, HO_8, HO_9, HB⟩ := hcut
      cases kq with
      | zero => exact absurd HA.out (by simp [laws_FnExactDegreesOf.j0])
      | succ kj8 =>
        have H := HA.out
        clear HA
        simp only [laws_FnExactDegreesOf.j0] at H
        by_cases c22 : x44_8 = true
        · subst c22
          have H1 : (some false) = some r := by rw [if_pos rfl] at H; exact H
          clear H
          have H := H1
          clear H1
          obtain rfl := Option.some.inj H
          go_wp2
          go_ret
          exact ⟨by first | rfl | (simp [errW_none, errW_some] <;> rfl) | (simp [*, errW_none, errW_some] <;> rfl), by repeat (first | (with_reducible first | exact HB.out | apply below_alloc | apply pw_below_drewN | apply below_drew1) | exact HB.out)⟩
        · replace c22 := Bool.eq_false_iff.mpr c22
          subst c22
          have H1 : ((laws_toEdgeS.f kj8 l1).bind fun t402 => ((laws_eqEdgeS.f kj8 t394 t402).bind fun t405 => (if t405 = true then ((laws_markEdgeS.f kj8 t394 1).bind fun bt406 => (if bt406.1 < 0 then (laws_FnExactDegreesOf.j1 kj8 a0 l1 t390 t391 t397 true) else ((laws_eqIntS.f kj8 t397 t390).bind fun t408 => (if t408 = true then (laws_FnExactDegreesOf.j1 kj8 a0 l1 t390 t391 t397 (t398 != t391)) else (laws_FnExactDegreesOf.j1 kj8 a0 l1 t390 t391 t397 true))))) else (some false)))) = some r := by rw [if_neg (show ¬ (false = true) by decide)] at H; exact H
          clear H
          have H := H1
          clear H1
          replace H := Option.bind_eq_some_iff.mp H
          obtain ⟨t402, A230, H⟩ := H
          replace H : ((laws_eqEdgeS.f kj8 t394 t402).bind fun t405 => (if t405 = true then ((laws_markEdgeS.f kj8 t394 1).bind fun bt406 => (if bt406.1 < 0 then (laws_FnExactDegreesOf.j1 kj8 a0 l1 t390 t391 t397 true) else ((laws_eqIntS.f kj8 t397 t390).bind fun t408 => (if t408 = true then (laws_FnExactDegreesOf.j1 kj8 a0 l1 t390 t391 t397 (t398 != t391)) else (laws_FnExactDegreesOf.j1 kj8 a0 l1 t390 t391 t397 true))))) else (some false))) = some r := H
          have A23 := Aside0.mk A230
          clear A230
          replace H := Option.bind_eq_some_iff.mp H
          obtain ⟨t405, A240, H⟩ := H
          replace H : (if t405 = true then ((laws_markEdgeS.f kj8 t394 1).bind fun bt406 => (if bt406.1 < 0 then (laws_FnExactDegreesOf.j1 kj8 a0 l1 t390 t391 t397 true) else ((laws_eqIntS.f kj8 t397 t390).bind fun t408 => (if t408 = true then (laws_FnExactDegreesOf.j1 kj8 a0 l1 t390 t391 t397 (t398 != t391)) else (laws_FnExactDegreesOf.j1 kj8 a0 l1 t390 t391 t397 true))))) else (some false)) = some r := H
          have A24 := Aside0.mk A240
          clear A240
          by_cases c25 : t405 = true
          · subst c25
            have H1 : ((laws_markEdgeS.f kj8 t394 1).bind fun bt406 => (if bt406.1 < 0 then (laws_FnExactDegreesOf.j1 kj8 a0 l1 t390 t391 t397 true) else ((laws_eqIntS.f kj8 t397 t390).bind fun t408 => (if t408 = true then (laws_FnExactDegreesOf.j1 kj8 a0 l1 t390 t391 t397 (t398 != t391)) else (laws_FnExactDegreesOf.j1 kj8 a0 l1 t390 t391 t397 true))))) = some r := by rw [if_pos rfl] at H; exact H
            clear H
            have H := H1
            clear H1
            replace H := Option.bind_eq_some_iff.mp H
            obtain ⟨⟨t406, t407⟩, A260, H⟩ := H
            replace H : (if t406 < 0 then (laws_FnExactDegreesOf.j1 kj8 a0 l1 t390 t391 t397 true) else ((laws_eqIntS.f kj8 t397 t390).bind fun t408 => (if t408 = true then (laws_FnExactDegreesOf.j1 kj8 a0 l1 t390 t391 t397 (t398 != t391)) else (laws_FnExactDegreesOf.j1 kj8 a0 l1 t390 t391 t397 true)))) = some r := H
            have A26 := Aside0.mk A260
            clear A260
            have HC27 := Aside0.mk H
            clear H
            go_upto_region 14 with (first | ((with_reducible refine gate_callee (f := 12) rfl ?_); refine goesL_ (some 47) rfl rfl Try.func12 (by kernel_rfl) rfl #[.slice A1 l1.length c1] rfl (by (try simp only [List.map_toArray, List.map_cons, List.map_nil]); first | done | rfl | (simp only [List.length_drop, List.length_take]; rfl)) ?_; (with_reducible refine (laws_toEdgeS.calls kj8 _ _ l1 t402 _ ?side1 ?side2 A23.out).mono ?_); (case side1 => repeat (first | exact (Kd.C_below HR1.out HB.out) | (with_reducible refine Kd.C_alloc ?_ _) | (with_reducible refine Kd.C_drewN ?_ _) | (with_reducible refine Kd.C_drew ?_))); (case side2 => exact HC1.out); rintro e w28 ⟨v403, rfl, ho0, hb⟩; refine ⟨_, rfl, ?_⟩; have n0_ := Aside0.mk (Kd.R_below (by (with_reducible repeat (first | apply Kd.R_alloc | apply Kd.R_drewN | apply Kd.R_drew)); exact HO_6.out) hb); have n1_ := Aside0.mk (Kd.R_elder' (by (with_reducible repeat (first | apply Kd.R_alloc | apply Kd.R_drewN | apply Kd.R_drew)); exact HO_8.out) (Kd.R_base ho0) hb); have n2_ := Aside0.mk (Kd.R_below (by (with_reducible repeat (first | apply Kd.R_alloc | apply Kd.R_drewN | apply Kd.R_drew)); exact HO_9.out) hb); have n3_ := Aside0.mk (Kd.R_lower (Kd.R_new' ho0 (Kd.R_lt (by (with_reducible repeat (first | apply Kd.R_alloc | apply Kd.R_drewN | apply Kd.R_drew)); exact HO_8.out))) (below_size (by repeat (first | (with_reducible first | exact HB.out | apply below_alloc | apply pw_below_drewN | apply below_drew1) | exact HB.out)))); have n4_ := Aside0.mk (below_step (by repeat (first | (with_reducible first | exact HB.out | apply below_alloc | apply pw_below_drewN | apply below_drew1) | exact HB.out)) hb); clear HO_6; clear HO_8; clear HO_9; clear HB; have HO_6 := n0_; have HO_8 := n1_; have HO_9 := n2_; have HO404 := n3_; have HB := n4_; clear n0_ n1_ n2_ n3_ n4_; (try clear hb); (try clear hb2); (try clear hk); (try clear hi); (try clear ho0); obtain ⟨Ao29, co29, eo29⟩ := Kd.R_slice HO404.out; subst eo29) | ((with_reducible refine gate_callee (f := 14) rfl ?_); refine goesL_ (some 48) rfl rfl Try.func14 (by kernel_rfl) rfl #[.slice Ao14 t394.length co14, .slice Ao29 t402.length co29] rfl (by (try simp only [List.map_toArray, List.map_cons, List.map_nil]); first | done | rfl | (simp only [List.length_drop, List.length_take]; rfl)) ?_; (with_reducible refine (laws_eqEdgeS.calls kj8 _ _ t394 _ _ t402 true _ ?side1 ?side2 ?side3 ?side4 A24.out).mono ?_); (case side1 => repeat (first | exact (Kd.R_reads' HO_8.out).2.2 | (with_reducible refine Kd.C_alloc ?_ _) | (with_reducible refine Kd.C_drewN ?_ _) | (with_reducible refine Kd.C_drew ?_))); (case side2 => exact (Kd.R_reads' HO_8.out).2.1); (case side3 => repeat (first | exact (Kd.R_reads' HO404.out).2.2 | (with_reducible refine Kd.C_alloc ?_ _) | (with_reducible refine Kd.C_drewN ?_ _) | (with_reducible refine Kd.C_drew ?_))); (case side4 => exact (Kd.R_reads' HO404.out).2.1); rintro e w30 ⟨rfl, hb⟩; refine ⟨_, rfl, ?_⟩; have n0_ := Aside0.mk (Kd.R_below (by (with_reducible repeat (first | apply Kd.R_alloc | apply Kd.R_drewN | apply Kd.R_drew)); exact HO_6.out) hb); have n1_ := Aside0.mk (Kd.R_below (by (with_reducible repeat (first | apply Kd.R_alloc | apply Kd.R_drewN | apply Kd.R_drew)); exact HO_8.out) hb); have n2_ := Aside0.mk (Kd.R_below (by (with_reducible repeat (first | apply Kd.R_alloc | apply Kd.R_drewN | apply Kd.R_drew)); exact HO_9.out) hb); have n3_ := Aside0.mk (Kd.R_below (by (with_reducible repeat (first | apply Kd.R_alloc | apply Kd.R_drewN | apply Kd.R_drew)); exact HO404.out) hb); have n4_ := Aside0.mk (below_step (by repeat (first | (with_reducible first | exact HB.out | apply below_alloc | apply pw_below_drewN | apply below_drew1) | exact HB.out)) hb); clear HO_6; clear HO_8; clear HO_9; clear HO404; clear HB; have HO_6 := n0_; have HO_8 := n1_; have HO_9 := n2_; have HO404 := n3_; have HB := n4_; clear n0_ n1_ n2_ n3_ n4_; (try clear hb); (try clear hb2); (try clear hk); (try clear hi)) | ((with_reducible refine gate_callee (f := 18) rfl ?_); refine goesL_ (some 52) rfl rfl Try.func18 (by kernel_rfl) rfl #[.slice Ao14 t394.length co14, .int .i64 1] rfl (by (try simp only [List.map_toArray, List.map_cons, List.map_nil]); first | done | rfl | (simp only [List.length_drop, List.length_take]; rfl)) ?_; (with_reducible refine (laws_markEdgeS.calls kj8 (fun k_ => some k_ = (.slice Ao14 t394.length co14 : Value).ownBlock) (.slice Ao14 t394.length co14) t394 1 t406 t407 w _ ?side1 ?side2 A26.out).mono ?_); (case side1 => repeat (first | (with_reducible first | exact HB.out | apply below_alloc | apply pw_below_drewN | apply below_drew1) | exact HB.out)); (case side2 => exact Kd.R_tight rfl HO_8.out); rintro e w31 ⟨rfl, hy0, hb, hkp⟩; refine ⟨_, rfl, ?_⟩; have n0_ := Aside0.mk (Kd.R_mono (ok' := fun k_ => some k_ ≠ (v399 : Value).ownBlock) (Kd.R_keptB ((Kd.R_apart' HO_6.out (Kd.R_typed HO_8.out) (by decide))) hkp (fun k_ hk_ hs_ => (hk_.2) hs_)) (fun k_ hk_ => hk_.1.1)); have n1_ := Aside0.mk (Kd.R_reok rfl hy0 (fun k_ e_ => HO_8.out.1 k_ e_)); have n2_ := Aside0.mk (Kd.R_mono (ok' := fun k_ => some k_ ≠ (v392 : Value).ownBlock) (Kd.R_keptB ((Kd.R_apart' HO_9.out (Kd.R_typed HO_8.out) (by decide))) hkp (fun k_ hk_ hs_ => (hk_.2) hs_)) (fun k_ hk_ => hk_.1.1)); have n3_ := Aside0.mk (Kd.R_mono (ok' := fun k_ => some k_ ≠ (.slice Ao14 t394.length co14 : Value).ownBlock) (Kd.R_keptB (HO404.out) hkp (fun k_ hk_ hs_ => (hk_.2) hs_)) (fun k_ hk_ => hk_.1.2)); have n4_ := Aside0.mk (hb); clear HO_6; clear HO_8; clear HO_9; clear HO404; clear HB; have HO_6 := n0_; have HO_8 := n1_; have HO_9 := n2_; have HO404 := n3_; have HB := n4_; clear n0_ n1_ n2_ n3_ n4_; (try clear hb); (try clear hkp); (try clear hy0)))
            (try simp only [Act.put, List.setIfInBounds_toArray, List.set_cons_zero, List.set_cons_succ])
            go_cut [65] (fun v65 wc => ∃ (kq : Nat) (x65_26 : Bool), v65 = .bool x65_26 ∧ Aside0 (laws_FnExactDegreesOf.j1 kq a0 l1 t390 t391 t397 x65_26 = some r) ∧ Aside0 (kq ≤ kj8) ∧ Aside0 (Kd.R (Kd.int .i64) 3 wc w.heap.size (fun k_ => some k_ ≠ (v399 : Value).ownBlock) v392 t390) ∧ Aside0 (Kd.R (Kd.int .i64) 3 wc w.heap.size (fun k_ => some k_ ≠ (v392 : Value).ownBlock) v399 t397) ∧ Aside0 (Below w.heap.size w wc))
            case first =>
              have H := HC27.out
              clear HC27
              by_cases c32 : t406 < 0
              · rw [if_pos c32] at H
                have c32b0 : decide (t406 < 0) = true := decide_eq_true c32
                clear c32
                (first | rw [c32b0] | (simp only [i64_w, i32_w]; rw [c32b0]) | skip)
                have H' := Aside0.mk H
                clear H
                go_wp2
                go_meet
                case rel => exact ⟨_, (true), (by first | rfl | (simp; done) | (simp [*]; done)), H', ⟨by have := HJ8.out; first | omega | exact Nat.le_refl _⟩, ⟨by (with_reducible repeat (first | apply Kd.R_alloc | apply Kd.R_drewN | apply Kd.R_drew)); exact HO_6.out⟩, ⟨by (with_reducible repeat (first | apply Kd.R_alloc | apply Kd.R_drewN | apply Kd.R_drew)); exact HO_9.out⟩, ⟨by repeat (first | (with_reducible first | exact HB.out | apply below_alloc | apply pw_below_drewN | apply below_drew1) | exact HB.out)⟩⟩
              · rw [if_neg c32] at H
                have c32b0 : decide (t406 < 0) = false := decide_eq_false c32
                clear c32
                (first | rw [c32b0] | (simp only [i64_w, i32_w]; rw [c32b0]) | skip)
                replace H := Option.bind_eq_some_iff.mp H
                obtain ⟨t408, A330, H⟩ := H
                replace H : (if t408 = true then (laws_FnExactDegreesOf.j1 kj8 a0 l1 t390 t391 t397 (t398 != t391)) else (laws_FnExactDegreesOf.j1 kj8 a0 l1 t390 t391 t397 true)) = some r := H
                have A33 := Aside0.mk A330
                clear A330
                by_cases c34 : t408 = true
                · subst c34
                  have H1 : (laws_FnExactDegreesOf.j1 kj8 a0 l1 t390 t391 t397 (t398 != t391)) = some r := by rw [if_pos rfl] at H; exact H
                  clear H
                  have H := H1
                  clear H1
                  have H' := Aside0.mk H
                  clear H
                  obtain ⟨Ao35, co35, eo35⟩ := Kd.R_slice HO_9.out
                  subst eo35
                  obtain ⟨Ao36, co36, eo36⟩ := Kd.R_slice HO_6.out
                  subst eo36
                  go_wp2_with (first | (go_at_call 17; (with_reducible refine (laws_eqIntS.calls kj8 _ _ t397 _ _ t390 true _ ?side1 ?side2 ?side3 ?side4 A33.out).mono ?_); (case side1 => repeat (first | exact (Kd.R_reads' HO_9.out).2.2 | (with_reducible refine Kd.C_alloc ?_ _) | (with_reducible refine Kd.C_drewN ?_ _) | (with_reducible refine Kd.C_drew ?_))); (case side2 => exact (Kd.R_reads' HO_9.out).2.1); (case side3 => repeat (first | exact (Kd.R_reads' HO_6.out).2.2 | (with_reducible refine Kd.C_alloc ?_ _) | (with_reducible refine Kd.C_drewN ?_ _) | (with_reducible refine Kd.C_drew ?_))); (case side4 => exact (Kd.R_reads' HO_6.out).2.1); rintro e w' ⟨rfl, ⟨nd, rfl⟩⟩))
                  go_meet
                  case rel => exact ⟨_, ((t398 != t391)), (by first | rfl | (simp; done) | (simp [*]; done)), H', ⟨by have := HJ8.out; first | omega | exact Nat.le_refl _⟩, ⟨by (with_reducible repeat (first | apply Kd.R_alloc | apply Kd.R_drewN | apply Kd.R_drew)); exact HO_6.out⟩, ⟨by (with_reducible repeat (first | apply Kd.R_alloc | apply Kd.R_drewN | apply Kd.R_drew)); exact HO_9.out⟩, ⟨by repeat (first | (with_reducible first | exact HB.out | apply below_alloc | apply pw_below_drewN | apply below_drew1) | exact HB.out)⟩⟩
                · replace c34 := Bool.eq_false_iff.mpr c34
                  subst c34
                  have H1 : (laws_FnExactDegreesOf.j1 kj8 a0 l1 t390 t391 t397 true) = some r := by rw [if_neg (show ¬ (false = true) by decide)] at H; exact H
                  clear H
                  have H := H1
                  clear H1
                  have H' := Aside0.mk H
                  clear H
                  obtain ⟨Ao37, co37, eo37⟩ := Kd.R_slice HO_9.out
                  subst eo37
                  obtain ⟨Ao38, co38, eo38⟩ := Kd.R_slice HO_6.out
                  subst eo38
                  go_wp2_with (first | (go_at_call 17; (with_reducible refine (laws_eqIntS.calls kj8 _ _ t397 _ _ t390 false _ ?side1 ?side2 ?side3 ?side4 A33.out).mono ?_); (case side1 => repeat (first | exact (Kd.R_reads' HO_9.out).2.2 | (with_reducible refine Kd.C_alloc ?_ _) | (with_reducible refine Kd.C_drewN ?_ _) | (with_reducible refine Kd.C_drew ?_))); (case side2 => exact (Kd.R_reads' HO_9.out).2.1); (case side3 => repeat (first | exact (Kd.R_reads' HO_6.out).2.2 | (with_reducible refine Kd.C_alloc ?_ _) | (with_reducible refine Kd.C_drewN ?_ _) | (with_reducible refine Kd.C_drew ?_))); (case side4 => exact (Kd.R_reads' HO_6.out).2.1); rintro e w' ⟨rfl, ⟨nd, rfl⟩⟩))
                  go_meet
                  case rel => exact ⟨_, (true), (by first | rfl | (simp; done) | (simp [*]; done)), H', ⟨by have := HJ8.out; first | omega | exact Nat.le_refl _⟩, ⟨by (with_reducible repeat (first | apply Kd.R_alloc | apply Kd.R_drewN | apply Kd.R_drew)); exact HO_6.out⟩, ⟨by (with_reducible repeat (first | apply Kd.R_alloc | apply Kd.R_drewN | apply Kd.R_drew)); exact HO_9.out⟩, ⟨by repeat (first | (with_reducible first | exact HB.out | apply below_alloc | apply pw_below_drewN | apply below_drew1) | exact HB.out)⟩⟩
            case rest =>
              clear HC27
              try clear c1
              try clear c2
              try clear p2
              try clear c3
              try clear c4
              try clear c4b0
              try clear c6
              try clear c10
              try clear c12
              try clear c14
              try clear c17
              try clear c18
              try clear c22
              try clear c25
              try clear c28
              try clear c29
              try clear c32
              try clear c32b0
              try clear c34
              try clear p2
              obtain ⟨kq, x65_26, rfl, HA, HJ26, HO_6, HO_9, HB⟩ := hcut
              cases kq with
              | zero => exact absurd HA.out (by simp [laws_FnExactDegreesOf.j1])
              | succ kj26 =>
                have H := HA.out
                clear HA
                simp only [laws_FnExactDegreesOf.j1] at H
                by_cases c39 : x65_26 = true
                · subst c39
                  have H1 : (some false) = some r := by rw [if_pos rfl] at H; exact H
                  clear H
                  have H := H1
                  clear H1
                  obtain rfl := Option.some.inj H
                  go_wp2
                  go_ret
                  exact ⟨by first | rfl | (simp [errW_none, errW_some] <;> rfl) | (simp [*, errW_none, errW_some] <;> rfl), by repeat (first | (with_reducible first | exact HB.out | apply below_alloc | apply pw_below_drewN | apply below_drew1) | exact HB.out)⟩
                · replace c39 := Bool.eq_false_iff.mpr c39
                  subst c39
                  have H1 : ((laws_markIntS.f kj26 t397 1).bind fun bt409 => ((laws_heldIntS.f kj26 bt409.2 1).bind fun t411 => (if t411 < 0 then (some false) else (if t411 = bt409.1 then ((laws_toEdgeS.f kj26 l1).bind fun t412 => ((impl_DegreesOf.f kj26 a0 t412).bind fun bt415 => ((laws_eqIntS.f kj26 bt415.1 t390).bind fun t419 => (if t419 = true then (laws_FnExactDegreesOf.j2 kj26 bt409.2 bt409.1 (bt415.2 != t391)) else (laws_FnExactDegreesOf.j2 kj26 bt409.2 bt409.1 true))))) else (some false))))) = some r := by rw [if_neg (show ¬ (false = true) by decide)] at H; exact H
                  clear H
                  have H := H1
                  clear H1
                  replace H := Option.bind_eq_some_iff.mp H
                  obtain ⟨⟨t409, t410⟩, A400, H⟩ := H
                  replace H : ((laws_heldIntS.f kj26 t410 1).bind fun t411 => (if t411 < 0 then (some false) else (if t411 = t409 then ((laws_toEdgeS.f kj26 l1).bind fun t412 => ((impl_DegreesOf.f kj26 a0 t412).bind fun bt415 => ((laws_eqIntS.f kj26 bt415.1 t390).bind fun t419 => (if t419 = true then (laws_FnExactDegreesOf.j2 kj26 t410 t409 (bt415.2 != t391)) else (laws_FnExactDegreesOf.j2 kj26 t410 t409 true))))) else (some false)))) = some r := H
                  have A40 := Aside0.mk A400
                  clear A400
                  replace H := Option.bind_eq_some_iff.mp H
                  obtain ⟨t411, A410, H⟩ := H
                  replace H : (if t411 < 0 then (some false) else (if t411 = t409 then ((laws_toEdgeS.f kj26 l1).bind fun t412 => ((impl_DegreesOf.f kj26 a0 t412).bind fun bt415 => ((laws_eqIntS.f kj26 bt415.1 t390).bind fun t419 => (if t419 = true then (laws_FnExactDegreesOf.j2 kj26 t410 t409 (bt415.2 != t391)) else (laws_FnExactDegreesOf.j2 kj26 t410 t409 true))))) else (some false))) = some r := H
                  have A41 := Aside0.mk A410
                  clear A410
                  by_cases c42 : t411 < 0
                  · rw [if_pos c42] at H
                    have c42b0 : decide (t411 < 0) = true := decide_eq_true c42
                    clear c42
                    obtain rfl := Option.some.inj H
                    obtain ⟨Ao43, co43, eo43⟩ := Kd.R_slice HO_9.out
                    subst eo43
                    go_wp2_with (first | ((with_reducible refine gate_callee (f := 19) rfl ?_); refine goesL_ (some 68) rfl rfl Try.func19 (by kernel_rfl) rfl #[.slice Ao43 t397.length co43, .int .i64 1] rfl (by (try simp only [List.map_toArray, List.map_cons, List.map_nil]); first | done | rfl | (simp only [List.length_drop, List.length_take]; rfl)) ?_; (with_reducible refine (laws_markIntS.calls kj26 (fun k_ => some k_ = (.slice Ao43 t397.length co43 : Value).ownBlock) (.slice Ao43 t397.length co43) t397 1 t409 t410 w _ ?side1 ?side2 A40.out).mono ?_); (case side1 => repeat (first | (with_reducible first | exact HB.out | apply below_alloc | apply pw_below_drewN | apply below_drew1) | exact HB.out)); (case side2 => exact Kd.R_tight rfl HO_9.out); rintro e w44 ⟨rfl, hy0, hb, hkp⟩; refine ⟨_, rfl, ?_⟩; have n0_ := Aside0.mk (Kd.R_mono (ok' := fun k_ => some k_ ≠ (.slice Ao43 t397.length co43 : Value).ownBlock) (Kd.R_keptB (HO_6.out) hkp (fun k_ hk_ hs_ => (hk_) hs_)) (fun k_ hk_ => hk_.1)); have n1_ := Aside0.mk (Kd.R_reok rfl hy0 (fun k_ e_ => HO_9.out.1 k_ e_)); have n2_ := Aside0.mk (hb); clear HO_6; clear HO_9; clear HB; have HO_6 := n0_; have HO_9 := n1_; have HB := n2_; clear n0_ n1_ n2_; (try clear hb); (try clear hkp); (try clear hy0)) | ((with_reducible refine gate_callee (f := 20) rfl ?_); refine goesL_ (some 71) rfl rfl Try.func20 (by kernel_rfl) rfl #[.slice Ao43 t410.length co43, .int .i64 1] rfl (by (try simp only [List.map_toArray, List.map_cons, List.map_nil]); first | done | (rw [show t410.length = t397.length from (Kd.R_reads' HO_9.out).1.symm] <;> rfl) | rfl | (simp only [List.length_drop, List.length_take]; rfl)) ?_; (with_reducible refine (laws_heldIntS.calls kj26 _ _ t410 1 t411 _ ?side1 ?side2 A41.out).mono ?_); (case side1 => repeat (first | exact (Kd.R_reads' HO_9.out).2.2 | (with_reducible refine Kd.C_alloc ?_ _) | (with_reducible refine Kd.C_drewN ?_ _) | (with_reducible refine Kd.C_drew ?_))); (case side2 => rw [show t410.length = t397.length from (Kd.R_reads' HO_9.out).1.symm]; exact (Kd.R_reads' HO_9.out).2.1); rintro e w' ⟨rfl, ⟨nd, rfl⟩⟩; refine ⟨_, rfl, ?_⟩))
                    go_ret
                    exact ⟨by first | rfl | (simp [errW_none, errW_some] <;> rfl) | (simp [*, errW_none, errW_some] <;> rfl), by repeat (first | (with_reducible first | exact HB.out | apply below_alloc | apply pw_below_drewN | apply below_drew1) | exact HB.out)⟩
                  · rw [if_neg c42] at H
                    have c42b0 : decide (t411 < 0) = false := decide_eq_false c42
                    clear c42
                    by_cases c45 : t411 = t409
                    · rw [if_pos c45] at H
                      have c45b0 : (t411 == t409) = true := beq_iff_eq.mpr c45
                      have c45b1 : (t411 != t409) = false := bne_eq_false_iff_eq.mpr c45
                      clear c45
                      replace H := Option.bind_eq_some_iff.mp H
                      obtain ⟨t412, A460, H⟩ := H
                      replace H : ((impl_DegreesOf.f kj26 a0 t412).bind fun bt415 => ((laws_eqIntS.f kj26 bt415.1 t390).bind fun t419 => (if t419 = true then (laws_FnExactDegreesOf.j2 kj26 t410 t409 (bt415.2 != t391)) else (laws_FnExactDegreesOf.j2 kj26 t410 t409 true)))) = some r := H
                      have A46 := Aside0.mk A460
                      clear A460
                      replace H := Option.bind_eq_some_iff.mp H
                      obtain ⟨⟨t415, t416⟩, A470, H⟩ := H
                      replace H : ((laws_eqIntS.f kj26 t415 t390).bind fun t419 => (if t419 = true then (laws_FnExactDegreesOf.j2 kj26 t410 t409 (t416 != t391)) else (laws_FnExactDegreesOf.j2 kj26 t410 t409 true))) = some r := H
                      have A47 := Aside0.mk A470
                      clear A470
                      have HC48 := Aside0.mk H
                      clear H
                      obtain ⟨Ao49, co49, eo49⟩ := Kd.R_slice HO_9.out
                      subst eo49
                      go_upto_region 25 with (first | ((with_reducible refine gate_callee (f := 19) rfl ?_); refine goesL_ (some 68) rfl rfl Try.func19 (by kernel_rfl) rfl #[.slice Ao49 t397.length co49, .int .i64 1] rfl (by (try simp only [List.map_toArray, List.map_cons, List.map_nil]); first | done | rfl | (simp only [List.length_drop, List.length_take]; rfl)) ?_; (with_reducible refine (laws_markIntS.calls kj26 (fun k_ => some k_ = (.slice Ao49 t397.length co49 : Value).ownBlock) (.slice Ao49 t397.length co49) t397 1 t409 t410 w _ ?side1 ?side2 A40.out).mono ?_); (case side1 => repeat (first | (with_reducible first | exact HB.out | apply below_alloc | apply pw_below_drewN | apply below_drew1) | exact HB.out)); (case side2 => exact Kd.R_tight rfl HO_9.out); rintro e w50 ⟨rfl, hy0, hb, hkp⟩; refine ⟨_, rfl, ?_⟩; have n0_ := Aside0.mk (Kd.R_mono (ok' := fun k_ => some k_ ≠ (.slice Ao49 t397.length co49 : Value).ownBlock) (Kd.R_keptB (HO_6.out) hkp (fun k_ hk_ hs_ => (hk_) hs_)) (fun k_ hk_ => hk_.1)); have n1_ := Aside0.mk (Kd.R_reok rfl hy0 (fun k_ e_ => HO_9.out.1 k_ e_)); have n2_ := Aside0.mk (hb); clear HO_6; clear HO_9; clear HB; have HO_6 := n0_; have HO_9 := n1_; have HB := n2_; clear n0_ n1_ n2_; (try clear hb); (try clear hkp); (try clear hy0)) | ((with_reducible refine gate_callee (f := 20) rfl ?_); refine goesL_ (some 71) rfl rfl Try.func20 (by kernel_rfl) rfl #[.slice Ao49 t410.length co49, .int .i64 1] rfl (by (try simp only [List.map_toArray, List.map_cons, List.map_nil]); first | done | (rw [show t410.length = t397.length from (Kd.R_reads' HO_9.out).1.symm] <;> rfl) | rfl | (simp only [List.length_drop, List.length_take]; rfl)) ?_; (with_reducible refine (laws_heldIntS.calls kj26 _ _ t410 1 t411 _ ?side1 ?side2 A41.out).mono ?_); (case side1 => repeat (first | exact (Kd.R_reads' HO_9.out).2.2 | (with_reducible refine Kd.C_alloc ?_ _) | (with_reducible refine Kd.C_drewN ?_ _) | (with_reducible refine Kd.C_drew ?_))); (case side2 => rw [show t410.length = t397.length from (Kd.R_reads' HO_9.out).1.symm]; exact (Kd.R_reads' HO_9.out).2.1); rintro e w' ⟨rfl, ⟨nd, rfl⟩⟩; refine ⟨_, rfl, ?_⟩) | ((with_reducible refine gate_callee (f := 12) rfl ?_); refine goesL_ (some 80) rfl rfl Try.func12 (by kernel_rfl) rfl #[.slice A1 l1.length c1] rfl (by (try simp only [List.map_toArray, List.map_cons, List.map_nil]); first | done | rfl | (simp only [List.length_drop, List.length_take]; rfl)) ?_; (with_reducible refine (laws_toEdgeS.calls kj26 _ _ l1 t412 _ ?side1 ?side2 A46.out).mono ?_); (case side1 => repeat (first | exact (Kd.C_below HR1.out (by repeat (first | (with_reducible first | exact HB.out | apply below_alloc | apply pw_below_drewN | apply below_drew1) | exact HB.out))) | (with_reducible refine Kd.C_alloc ?_ _) | (with_reducible refine Kd.C_drewN ?_ _) | (with_reducible refine Kd.C_drew ?_))); (case side2 => exact HC1.out); rintro e w51 ⟨v413, rfl, ho0, hb⟩; refine ⟨_, rfl, ?_⟩; have n0_ := Aside0.mk (Kd.R_below (by (with_reducible repeat (first | apply Kd.R_alloc | apply Kd.R_drewN | apply Kd.R_drew)); exact HO_6.out) hb); have n1_ := Aside0.mk (Kd.R_below (by (with_reducible repeat (first | apply Kd.R_alloc | apply Kd.R_drewN | apply Kd.R_drew)); exact HO_9.out) hb); have n2_ := Aside0.mk (Kd.R_lower ho0 (below_size (by repeat (first | (with_reducible first | exact HB.out | apply below_alloc | apply pw_below_drewN | apply below_drew1) | exact HB.out)))); have n3_ := Aside0.mk (below_step (by repeat (first | (with_reducible first | exact HB.out | apply below_alloc | apply pw_below_drewN | apply below_drew1) | exact HB.out)) hb); clear HO_6; clear HO_9; clear HB; have HO_6 := n0_; have HO_9 := n1_; have HO414 := n2_; have HB := n3_; clear n0_ n1_ n2_ n3_; (try clear hb); (try clear hb2); (try clear hk); (try clear hi); (try clear ho0); obtain ⟨Ao52, co52, eo52⟩ := Kd.R_slice HO414.out; subst eo52) | ((with_reducible refine gate_callee (f := 29) rfl ?_); refine goesL_ (some 81) rfl rfl Try.func29 (by kernel_rfl) rfl #[.int .i64 a0, .slice Ao52 t412.length co52] rfl (by (try simp only [List.map_toArray, List.map_cons, List.map_nil]); first | done | rfl | (simp only [List.length_drop, List.length_take]; rfl)) ?_; (with_reducible refine (impl_DegreesOf.calls kj26 a0 _ _ t412 t415 t416 _ ?side1 ?side2 A47.out).mono ?_); (case side1 => repeat (first | exact (Kd.R_reads' HO414.out).2.2 | (with_reducible refine Kd.C_alloc ?_ _) | (with_reducible refine Kd.C_drewN ?_ _) | (with_reducible refine Kd.C_drew ?_))); (case side2 => exact (Kd.R_reads' HO414.out).2.1); rintro e w53 ⟨v417, rfl, ho0, hb⟩; refine ⟨_, rfl, ?_⟩; have n0_ := Aside0.mk (Kd.R_elder' (by (with_reducible repeat (first | apply Kd.R_alloc | apply Kd.R_drewN | apply Kd.R_drew)); exact HO_6.out) (Kd.R_base ho0) hb); have n1_ := Aside0.mk (Kd.R_elder' (by (with_reducible repeat (first | apply Kd.R_alloc | apply Kd.R_drewN | apply Kd.R_drew)); exact HO_9.out) (Kd.R_base ho0) hb); have n2_ := Aside0.mk (Kd.R_below (by (with_reducible repeat (first | apply Kd.R_alloc | apply Kd.R_drewN | apply Kd.R_drew)); exact HO414.out) hb); have n3_ := Aside0.mk (Kd.R_lower (Kd.R_new' (Kd.R_new' ho0 (Kd.R_lt (by (with_reducible repeat (first | apply Kd.R_alloc | apply Kd.R_drewN | apply Kd.R_drew)); exact HO_6.out))) (Kd.R_lt (by (with_reducible repeat (first | apply Kd.R_alloc | apply Kd.R_drewN | apply Kd.R_drew)); exact HO_9.out))) (below_size (by repeat (first | (with_reducible first | exact HB.out | apply below_alloc | apply pw_below_drewN | apply below_drew1) | exact HB.out)))); have n4_ := Aside0.mk (below_step (by repeat (first | (with_reducible first | exact HB.out | apply below_alloc | apply pw_below_drewN | apply below_drew1) | exact HB.out)) hb); clear HO_6; clear HO_9; clear HO414; clear HB; have HO_6 := n0_; have HO_9 := n1_; have HO414 := n2_; have HO418 := n3_; have HB := n4_; clear n0_ n1_ n2_ n3_ n4_; (try clear hb); (try clear hb2); (try clear hk); (try clear hi); (try clear ho0)))
                      (try simp only [Act.put, List.setIfInBounds_toArray, List.set_cons_zero, List.set_cons_succ])
                      go_cut [92] (fun v92 wc => ∃ (kq : Nat) (x92_47 : Bool), v92 = .bool x92_47 ∧ Aside0 (laws_FnExactDegreesOf.j2 kq t410 t409 x92_47 = some r) ∧ Aside0 (kq ≤ kj26) ∧ Aside0 (Kd.R (Kd.int .i64) 3 wc w.heap.size (fun _ => True) (.slice Ao49 t397.length co49) t410) ∧ Aside0 (Below w.heap.size w wc))
                      case first =>
                        have H := HC48.out
                        clear HC48
                        replace H := Option.bind_eq_some_iff.mp H
                        obtain ⟨t419, A540, H⟩ := H
                        replace H : (if t419 = true then (laws_FnExactDegreesOf.j2 kj26 t410 t409 (t416 != t391)) else (laws_FnExactDegreesOf.j2 kj26 t410 t409 true)) = some r := H
                        have A54 := Aside0.mk A540
                        clear A540
                        by_cases c55 : t419 = true
                        · subst c55
                          have H1 : (laws_FnExactDegreesOf.j2 kj26 t410 t409 (t416 != t391)) = some r := by rw [if_pos rfl] at H; exact H
                          clear H
                          have H := H1
                          clear H1
                          have H' := Aside0.mk H
                          clear H
                          obtain ⟨Ao56, co56, eo56⟩ := Kd.R_slice HO418.out
                          subst eo56
                          obtain ⟨Ao57, co57, eo57⟩ := Kd.R_slice HO_6.out
                          subst eo57
                          go_wp2_with (first | ((with_reducible refine gate_callee (f := 17) rfl ?_); refine goesL_ (some 86) rfl rfl Try.func17 (by kernel_rfl) rfl #[.slice Ao56 t415.length co56, .slice Ao57 t390.length co57] rfl (by (try simp only [List.map_toArray, List.map_cons, List.map_nil]); first | done | rfl | (simp only [List.length_drop, List.length_take]; rfl)) ?_; (with_reducible refine (laws_eqIntS.calls kj26 _ _ t415 _ _ t390 true _ ?side1 ?side2 ?side3 ?side4 A54.out).mono ?_); (case side1 => repeat (first | exact (Kd.R_reads' HO418.out).2.2 | (with_reducible refine Kd.C_alloc ?_ _) | (with_reducible refine Kd.C_drewN ?_ _) | (with_reducible refine Kd.C_drew ?_))); (case side2 => exact (Kd.R_reads' HO418.out).2.1); (case side3 => repeat (first | exact (Kd.R_reads' HO_6.out).2.2 | (with_reducible refine Kd.C_alloc ?_ _) | (with_reducible refine Kd.C_drewN ?_ _) | (with_reducible refine Kd.C_drew ?_))); (case side4 => exact (Kd.R_reads' HO_6.out).2.1); rintro e w' ⟨rfl, ⟨nd, rfl⟩⟩; refine ⟨_, rfl, ?_⟩))
                          go_meet
                          case rel => exact ⟨_, ((t416 != t391)), (by first | rfl | (simp; done) | (simp [*]; done)), H', ⟨by have := HJ8.out; have := HJ26.out; first | omega | exact Nat.le_refl _⟩, ⟨by (with_reducible repeat (first | apply Kd.R_alloc | apply Kd.R_drewN | apply Kd.R_drew)); exact Kd.R_mono HO_9.out (fun _ hk => trivial)⟩, ⟨by repeat (first | (with_reducible first | exact HB.out | apply below_alloc | apply pw_below_drewN | apply below_drew1) | exact HB.out)⟩⟩
                        · replace c55 := Bool.eq_false_iff.mpr c55
                          subst c55
                          have H1 : (laws_FnExactDegreesOf.j2 kj26 t410 t409 true) = some r := by rw [if_neg (show ¬ (false = true) by decide)] at H; exact H
                          clear H
                          have H := H1
                          clear H1
                          have H' := Aside0.mk H
                          clear H
                          obtain ⟨Ao58, co58, eo58⟩ := Kd.R_slice HO418.out
                          subst eo58
                          obtain ⟨Ao59, co59, eo59⟩ := Kd.R_slice HO_6.out
                          subst eo59
                          go_wp2_with (first | ((with_reducible refine gate_callee (f := 17) rfl ?_); refine goesL_ (some 86) rfl rfl Try.func17 (by kernel_rfl) rfl #[.slice Ao58 t415.length co58, .slice Ao59 t390.length co59] rfl (by (try simp only [List.map_toArray, List.map_cons, List.map_nil]); first | done | rfl | (simp only [List.length_drop, List.length_take]; rfl)) ?_; (with_reducible refine (laws_eqIntS.calls kj26 _ _ t415 _ _ t390 false _ ?side1 ?side2 ?side3 ?side4 A54.out).mono ?_); (case side1 => repeat (first | exact (Kd.R_reads' HO418.out).2.2 | (with_reducible refine Kd.C_alloc ?_ _) | (with_reducible refine Kd.C_drewN ?_ _) | (with_reducible refine Kd.C_drew ?_))); (case side2 => exact (Kd.R_reads' HO418.out).2.1); (case side3 => repeat (first | exact (Kd.R_reads' HO_6.out).2.2 | (with_reducible refine Kd.C_alloc ?_ _) | (with_reducible refine Kd.C_drewN ?_ _) | (with_reducible refine Kd.C_drew ?_))); (case side4 => exact (Kd.R_reads' HO_6.out).2.1); rintro e w' ⟨rfl, ⟨nd, rfl⟩⟩; refine ⟨_, rfl, ?_⟩))
                          go_meet
                          case rel => exact ⟨_, (true), (by first | rfl | (simp; done) | (simp [*]; done)), H', ⟨by have := HJ8.out; have := HJ26.out; first | omega | exact Nat.le_refl _⟩, ⟨by (with_reducible repeat (first | apply Kd.R_alloc | apply Kd.R_drewN | apply Kd.R_drew)); exact Kd.R_mono HO_9.out (fun _ hk => trivial)⟩, ⟨by repeat (first | (with_reducible first | exact HB.out | apply below_alloc | apply pw_below_drewN | apply below_drew1) | exact HB.out)⟩⟩
                      case rest =>
                        clear HC48
                        try clear c1
                        try clear c2
                        try clear p2
                        try clear c3
                        try clear c4
                        try clear c4b0
                        try clear c5
                        try clear c6
                        try clear c10
                        try clear c12
                        try clear c14
                        try clear c17
                        try clear c18
                        try clear c19
                        try clear c20
                        try clear c22
                        try clear c25
                        try clear c28
                        try clear c29
                        try clear c32
                        try clear c32b0
                        try clear c34
                        try clear c39
                        try clear c42
                        try clear c42b0
                        try clear c45
                        try clear c45b0
                        try clear c45b1
                        try clear c55
                        try clear p2
                        obtain ⟨kq, x92_47, rfl, HA, HJ47, HO_9, HB⟩ := hcut
                        have hl9_47 := (Kd.R_reads' HO_9.out).1
                        rw [hl9_47] at HO_9
                        (try simp only [hl9_47])
                        cases kq with
                        | zero => exact absurd HA.out (by simp [laws_FnExactDegreesOf.j2])
                        | succ kj47 =>
                          have H := HA.out
                          clear HA
                          simp only [laws_FnExactDegreesOf.j2] at H
                          by_cases c60 : x92_47 = true
                          · subst c60
                            have H1 : (some false) = some r := by rw [if_pos rfl] at H; exact H
                            clear H
                            have H := H1
                            clear H1
                            obtain rfl := Option.some.inj H
                            go_wp2
                            go_ret
                            exact ⟨by first | rfl | (simp [errW_none, errW_some] <;> rfl) | (simp [*, errW_none, errW_some] <;> rfl), by repeat (first | (with_reducible first | exact HB.out | apply below_alloc | apply pw_below_drewN | apply below_drew1) | exact HB.out)⟩
                          · replace c60 := Bool.eq_false_iff.mpr c60
                            subst c60
                            have H1 : ((laws_heldIntS.f kj47 t410 1).bind fun t420 => (if t420 < 0 then (some false) else (if t420 = t409 then (some true) else (some false)))) = some r := by rw [if_neg (show ¬ (false = true) by decide)] at H; exact H
                            clear H
                            have H := H1
                            clear H1
                            replace H := Option.bind_eq_some_iff.mp H
                            obtain ⟨t420, A610, H⟩ := H
                            replace H : (if t420 < 0 then (some false) else (if t420 = t409 then (some true) else (some false))) = some r := H
                            have A61 := Aside0.mk A610
                            clear A610
                            by_cases c62 : t420 < 0
                            · rw [if_pos c62] at H
                              have c62b0 : decide (t420 < 0) = true := decide_eq_true c62
                              clear c62
                              obtain rfl := Option.some.inj H
                              go_wp2_with (first | ((with_reducible refine gate_callee (f := 20) rfl ?_); refine goesL_ (some 95) rfl rfl Try.func20 (by kernel_rfl) rfl #[.slice Ao49 t410.length co49, .int .i64 1] rfl (by (try simp only [List.map_toArray, List.map_cons, List.map_nil]); first | done | rfl | (simp only [List.length_drop, List.length_take]; rfl)) ?_; (with_reducible refine (laws_heldIntS.calls kj47 _ _ t410 1 t420 _ ?side1 ?side2 A61.out).mono ?_); (case side1 => repeat (first | exact (Kd.R_reads' HO_9.out).2.2 | (with_reducible refine Kd.C_alloc ?_ _) | (with_reducible refine Kd.C_drewN ?_ _) | (with_reducible refine Kd.C_drew ?_))); (case side2 => exact (Kd.R_reads' HO_9.out).2.1); rintro e w' ⟨rfl, ⟨nd, rfl⟩⟩; refine ⟨_, rfl, ?_⟩))
                              go_ret
                              exact ⟨by first | rfl | (simp [errW_none, errW_some] <;> rfl) | (simp [*, errW_none, errW_some] <;> rfl), by repeat (first | (with_reducible first | exact HB.out | apply below_alloc | apply pw_below_drewN | apply below_drew1) | exact HB.out)⟩
                            · rw [if_neg c62] at H
                              have c62b0 : decide (t420 < 0) = false := decide_eq_false c62
                              clear c62
                              by_cases c63 : t420 = t409
                              · rw [if_pos c63] at H
                                have c63b0 : (t420 == t409) = true := beq_iff_eq.mpr c63
                                have c63b1 : (t420 != t409) = false := bne_eq_false_iff_eq.mpr c63
                                clear c63
                                obtain rfl := Option.some.inj H
                                go_wp2_with (first | ((with_reducible refine gate_callee (f := 20) rfl ?_); refine goesL_ (some 95) rfl rfl Try.func20 (by kernel_rfl) rfl #[.slice Ao49 t410.length co49, .int .i64 1] rfl (by (try simp only [List.map_toArray, List.map_cons, List.map_nil]); first | done | rfl | (simp only [List.length_drop, List.length_take]; rfl)) ?_; (with_reducible refine (laws_heldIntS.calls kj47 _ _ t410 1 t420 _ ?side1 ?side2 A61.out).mono ?_); (case side1 => repeat (first | exact (Kd.R_reads' HO_9.out).2.2 | (with_reducible refine Kd.C_alloc ?_ _) | (with_reducible refine Kd.C_drewN ?_ _) | (with_reducible refine Kd.C_drew ?_))); (case side2 => exact (Kd.R_reads' HO_9.out).2.1); rintro e w' ⟨rfl, ⟨nd, rfl⟩⟩; refine ⟨_, rfl, ?_⟩))
                                go_ret
                                exact ⟨by first | rfl | (simp [errW_none, errW_some] <;> rfl) | (simp [*, errW_none, errW_some] <;> rfl), by repeat (first | (with_reducible first | exact HB.out | apply below_alloc | apply pw_below_drewN | apply below_drew1) | exact HB.out)⟩
                              · rw [if_neg c63] at H
                                have c63b0 : (t420 == t409) = false := beq_eq_false_iff_ne.mpr c63
                                have c63b1 : (t420 != t409) = true := bne_iff_ne.mpr c63
                                obtain rfl := Option.some.inj H
                                go_wp2_with (first | ((with_reducible refine gate_callee (f := 20) rfl ?_); refine goesL_ (some 95) rfl rfl Try.func20 (by kernel_rfl) rfl #[.slice Ao49 t410.length co49, .int .i64 1] rfl (by (try simp only [List.map_toArray, List.map_cons, List.map_nil]); first | done | rfl | (simp only [List.length_drop, List.length_take]; rfl)) ?_; (with_reducible refine (laws_heldIntS.calls kj47 _ _ t410 1 t420 _ ?side1 ?side2 A61.out).mono ?_); (case side1 => repeat (first | exact (Kd.R_reads' HO_9.out).2.2 | (with_reducible refine Kd.C_alloc ?_ _) | (with_reducible refine Kd.C_drewN ?_ _) | (with_reducible refine Kd.C_drew ?_))); (case side2 => exact (Kd.R_reads' HO_9.out).2.1); rintro e w' ⟨rfl, ⟨nd, rfl⟩⟩; refine ⟨_, rfl, ?_⟩))
                                go_ret
                                exact ⟨by first | rfl | (simp [errW_none, errW_some] <;> rfl) | (simp [*, errW_none, errW_some] <;> rfl), by repeat (first | (with_reducible first | exact HB.out | apply below_alloc | apply pw_below_drewN | apply below_drew1) | exact HB.out)⟩
                    · rw [if_neg c45] at H
                      have c45b0 : (t411 == t409) = false := beq_eq_false_iff_ne.mpr c45
                      have c45b1 : (t411 != t409) = true := bne_iff_ne.mpr c45
                      obtain rfl := Option.some.inj H
                      obtain ⟨Ao64, co64, eo64⟩ := Kd.R_slice HO_9.out
                      subst eo64
                      go_wp2_with (first | ((with_reducible refine gate_callee (f := 19) rfl ?_); refine goesL_ (some 68) rfl rfl Try.func19 (by kernel_rfl) rfl #[.slice Ao64 t397.length co64, .int .i64 1] rfl (by (try simp only [List.map_toArray, List.map_cons, List.map_nil]); first | done | rfl | (simp only [List.length_drop, List.length_take]; rfl)) ?_; (with_reducible refine (laws_markIntS.calls kj26 (fun k_ => some k_ = (.slice Ao64 t397.length co64 : Value).ownBlock) (.slice Ao64 t397.length co64) t397 1 t409 t410 w _ ?side1 ?side2 A40.out).mono ?_); (case side1 => repeat (first | (with_reducible first | exact HB.out | apply below_alloc | apply pw_below_drewN | apply below_drew1) | exact HB.out)); (case side2 => exact Kd.R_tight rfl HO_9.out); rintro e w65 ⟨rfl, hy0, hb, hkp⟩; refine ⟨_, rfl, ?_⟩; have n0_ := Aside0.mk (Kd.R_mono (ok' := fun k_ => some k_ ≠ (.slice Ao64 t397.length co64 : Value).ownBlock) (Kd.R_keptB (HO_6.out) hkp (fun k_ hk_ hs_ => (hk_) hs_)) (fun k_ hk_ => hk_.1)); have n1_ := Aside0.mk (Kd.R_reok rfl hy0 (fun k_ e_ => HO_9.out.1 k_ e_)); have n2_ := Aside0.mk (hb); clear HO_6; clear HO_9; clear HB; have HO_6 := n0_; have HO_9 := n1_; have HB := n2_; clear n0_ n1_ n2_; (try clear hb); (try clear hkp); (try clear hy0)) | ((with_reducible refine gate_callee (f := 20) rfl ?_); refine goesL_ (some 71) rfl rfl Try.func20 (by kernel_rfl) rfl #[.slice Ao64 t410.length co64, .int .i64 1] rfl (by (try simp only [List.map_toArray, List.map_cons, List.map_nil]); first | done | (rw [show t410.length = t397.length from (Kd.R_reads' HO_9.out).1.symm] <;> rfl) | rfl | (simp only [List.length_drop, List.length_take]; rfl)) ?_; (with_reducible refine (laws_heldIntS.calls kj26 _ _ t410 1 t411 _ ?side1 ?side2 A41.out).mono ?_); (case side1 => repeat (first | exact (Kd.R_reads' HO_9.out).2.2 | (with_reducible refine Kd.C_alloc ?_ _) | (with_reducible refine Kd.C_drewN ?_ _) | (with_reducible refine Kd.C_drew ?_))); (case side2 => rw [show t410.length = t397.length from (Kd.R_reads' HO_9.out).1.symm]; exact (Kd.R_reads' HO_9.out).2.1); rintro e w' ⟨rfl, ⟨nd, rfl⟩⟩; refine ⟨_, rfl, ?_⟩))
                      go_ret
                      exact ⟨by first | rfl | (simp [errW_none, errW_some] <;> rfl) | (simp [*, errW_none, errW_some] <;> rfl), by repeat (first | (with_reducible first | exact HB.out | apply below_alloc | apply pw_below_drewN | apply below_drew1) | exact HB.out)⟩
          · replace c25 := Bool.eq_false_iff.mpr c25
            subst c25
            have H1 : (some false) = some r := by rw [if_neg (show ¬ (false = true) by decide)] at H; exact H
            clear H
            have H := H1
            clear H1
            obtain rfl := Option.some.inj H
            go_wp2_with (first | ((with_reducible refine gate_callee (f := 12) rfl ?_); refine goesL_ (some 47) rfl rfl Try.func12 (by kernel_rfl) rfl #[.slice A1 l1.length c1] rfl (by (try simp only [List.map_toArray, List.map_cons, List.map_nil]); first | done | rfl | (simp only [List.length_drop, List.length_take]; rfl)) ?_; (with_reducible refine (laws_toEdgeS.calls kj8 _ _ l1 t402 _ ?side1 ?side2 A23.out).mono ?_); (case side1 => repeat (first | exact (Kd.C_below HR1.out HB.out) | (with_reducible refine Kd.C_alloc ?_ _) | (with_reducible refine Kd.C_drewN ?_ _) | (with_reducible refine Kd.C_drew ?_))); (case side2 => exact HC1.out); rintro e w66 ⟨v403, rfl, ho0, hb⟩; refine ⟨_, rfl, ?_⟩; have n0_ := Aside0.mk (Kd.R_below (by (with_reducible repeat (first | apply Kd.R_alloc | apply Kd.R_drewN | apply Kd.R_drew)); exact HO_6.out) hb); have n1_ := Aside0.mk (Kd.R_elder' (by (with_reducible repeat (first | apply Kd.R_alloc | apply Kd.R_drewN | apply Kd.R_drew)); exact HO_8.out) (Kd.R_base ho0) hb); have n2_ := Aside0.mk (Kd.R_below (by (with_reducible repeat (first | apply Kd.R_alloc | apply Kd.R_drewN | apply Kd.R_drew)); exact HO_9.out) hb); have n3_ := Aside0.mk (Kd.R_lower (Kd.R_new' ho0 (Kd.R_lt (by (with_reducible repeat (first | apply Kd.R_alloc | apply Kd.R_drewN | apply Kd.R_drew)); exact HO_8.out))) (below_size (by repeat (first | (with_reducible first | exact HB.out | apply below_alloc | apply pw_below_drewN | apply below_drew1) | exact HB.out)))); have n4_ := Aside0.mk (below_step (by repeat (first | (with_reducible first | exact HB.out | apply below_alloc | apply pw_below_drewN | apply below_drew1) | exact HB.out)) hb); clear HO_6; clear HO_8; clear HO_9; clear HB; have HO_6 := n0_; have HO_8 := n1_; have HO_9 := n2_; have HO404 := n3_; have HB := n4_; clear n0_ n1_ n2_ n3_ n4_; (try clear hb); (try clear hb2); (try clear hk); (try clear hi); (try clear ho0); obtain ⟨Ao67, co67, eo67⟩ := Kd.R_slice HO404.out; subst eo67) | ((with_reducible refine gate_callee (f := 14) rfl ?_); refine goesL_ (some 48) rfl rfl Try.func14 (by kernel_rfl) rfl #[.slice Ao14 t394.length co14, .slice Ao67 t402.length co67] rfl (by (try simp only [List.map_toArray, List.map_cons, List.map_nil]); first | done | rfl | (simp only [List.length_drop, List.length_take]; rfl)) ?_; (with_reducible refine (laws_eqEdgeS.calls kj8 _ _ t394 _ _ t402 false _ ?side1 ?side2 ?side3 ?side4 A24.out).mono ?_); (case side1 => repeat (first | exact (Kd.R_reads' HO_8.out).2.2 | (with_reducible refine Kd.C_alloc ?_ _) | (with_reducible refine Kd.C_drewN ?_ _) | (with_reducible refine Kd.C_drew ?_))); (case side2 => exact (Kd.R_reads' HO_8.out).2.1); (case side3 => repeat (first | exact (Kd.R_reads' HO404.out).2.2 | (with_reducible refine Kd.C_alloc ?_ _) | (with_reducible refine Kd.C_drewN ?_ _) | (with_reducible refine Kd.C_drew ?_))); (case side4 => exact (Kd.R_reads' HO404.out).2.1); rintro e w68 ⟨rfl, hb⟩; refine ⟨_, rfl, ?_⟩; have n0_ := Aside0.mk (Kd.R_below (by (with_reducible repeat (first | apply Kd.R_alloc | apply Kd.R_drewN | apply Kd.R_drew)); exact HO_6.out) hb); have n1_ := Aside0.mk (Kd.R_below (by (with_reducible repeat (first | apply Kd.R_alloc | apply Kd.R_drewN | apply Kd.R_drew)); exact HO_8.out) hb); have n2_ := Aside0.mk (Kd.R_below (by (with_reducible repeat (first | apply Kd.R_alloc | apply Kd.R_drewN | apply Kd.R_drew)); exact HO_9.out) hb); have n3_ := Aside0.mk (Kd.R_below (by (with_reducible repeat (first | apply Kd.R_alloc | apply Kd.R_drewN | apply Kd.R_drew)); exact HO404.out) hb); have n4_ := Aside0.mk (below_step (by repeat (first | (with_reducible first | exact HB.out | apply below_alloc | apply pw_below_drewN | apply below_drew1) | exact HB.out)) hb); clear HO_6; clear HO_8; clear HO_9; clear HO404; clear HB; have HO_6 := n0_; have HO_8 := n1_; have HO_9 := n2_; have HO404 := n3_; have HB := n4_; clear n0_ n1_ n2_ n3_ n4_; (try clear hb); (try clear hb2); (try clear hk); (try clear hi)))
            go_ret
            exact ⟨by first | rfl | (simp [errW_none, errW_some] <;> rfl) | (simp [*, errW_none, errW_some] <;> rfl), by repeat (first | (with_reducible first | exact HB.out | apply below_alloc | apply pw_below_drewN | apply below_drew1) | exact HB.out)⟩
end Go.Proofs.Ytpbnpepikkocmaa.P

namespace Go.Proofs.Ytpbnpepikkocmaa.P
open Go.RowKit Go.Proofs.YtpbnpepikkocmaaW.PrintWords Go.Proofs.YtpbnpepikkocmaaW.PrintLast
def wfS65 (s : S65) : Prop := (fun n : Int => (Lit.int .i64 n).wf = true) s.f0 ∧ (fun n : Int => (Lit.int .i64 n).wf = true) s.f1 ∧ (fun n : Int => (Lit.int .i64 n).wf = true) s.f2
/-- The one pure statement of laws_FnExactDegreesOf. -/
def laws_FnExactDegreesOf.Pure : Prop := ∀ (a0 : Int) (l1 : List (S65)), (fun n : Int => (Lit.int .i64 n).wf = true) a0 → (fun l : List (S65) => l.length ≤ maxLen ∧ ∀ x ∈ l, wfS65 x) l1 → ∃ k, laws_FnExactDegreesOf.f k a0 l1 = some true
end Go.Proofs.Ytpbnpepikkocmaa.P

namespace Go.Proofs.Ytpbnpepikkocmaa.P
open Go.RowKit Go.Proofs.YtpbnpepikkocmaaW.PrintWords
set_option linter.unusedVariables false
set_option linter.unusedSimpArgs false
theorem wrap_id {x : Int} (h0 : -9223372036854775808 ≤ x) (h1 : x ≤ 9223372036854775807) : wrap64 x = x := by unfold wrap64; omega
theorem Ev.succ {α : Type} {g : Nat → Option α} {r : α} (h : Ev (fun k => g (k + 1)) r) : Ev g r := Ev.step (fun _ => rfl) h
theorem Ev.some_ {α : Type} {r s : α} (h : r = s) : Ev (fun _ => some r) s := h ▸ Ev.now r
theorem getD_mid {α : Type} (d : α) (pre : List α) (x : α) (suf : List α) : (pre ++ x :: suf).getD ((pre.length : Int)).toNat d = x := by simp
theorem set_mid {α : Type} (pre : List α) (x y : α) (suf : List α) : (pre ++ x :: suf).set ((pre.length : Int)).toNat y = pre ++ y :: suf := by simp
theorem app_one {α : Type} (pre : List α) (x : α) (suf : List α) : pre ++ x :: suf = (pre ++ [x]) ++ suf := by simp
theorem len_mid {α : Type} (pre : List α) (x : α) (suf : List α) : ((pre ++ x :: suf).length : Int) = pre.length + suf.length + 1 := by simp; omega
theorem len_one {α : Type} (pre : List α) (x : α) : ((pre ++ [x]).length : Int) = pre.length + 1 := by simp
theorem nil_or_snoc {α : Type} (l : List α) : l = [] ∨ ∃ p y, l = p ++ [y] := by
  rcases List.eq_nil_or_concat l with rfl | ⟨p, y, rfl⟩
  · exact .inl rfl
  · exact .inr ⟨p, y, by simp⟩
end Go.Proofs.Ytpbnpepikkocmaa.P

namespace Go.Proofs.Ytpbnpepikkocmaa.P
open Go.RowKit Go.Proofs.YtpbnpepikkocmaaW.PrintWords Go.Proofs.YtpbnpepikkocmaaW.PrintLast
set_option linter.unusedVariables false
set_option linter.unusedSimpArgs false
theorem rdEdge_mid (pre : List S52) (x : S52) (suf : List S52) : rd_T52 (pre ++ x :: suf) (pre.length : Int) = x := getD_mid _ pre x suf
theorem rdLEdge_mid (pre : List S65) (x : S65) (suf : List S65) : rd_T65 (pre ++ x :: suf) (pre.length : Int) = x := getD_mid _ pre x suf
instance decEdge : DecidableEq S52 := fun a b => decidable_of_iff (a.f0 = b.f0 ∧ a.f1 = b.f1 ∧ a.f2 = b.f2) (by cases a; cases b; simp)
def cvEdge (x : S65) : S52 := ⟨x.f0, x.f1, x.f2⟩
theorem toEdgeS_l (suf : List S65) : ∀ (pre : List S65) (k : Nat), suf.length < k → (pre.length : Int) + suf.length ≤ 1099511627776 →
    laws_toEdgeS.l0 k (pre ++ suf) (pre.map cvEdge ++ List.replicate suf.length z52) (pre.length : Int) = some ((pre ++ suf).map cvEdge) := by
  induction suf with
  | nil =>
    intro pre k hk hb
    obtain ⟨k, rfl⟩ : ∃ m, k = m + 1 := ⟨k - 1, by omega⟩
    simp only [laws_toEdgeS.l0]
    rw [if_neg (by simp)]
    simp
  | cons x suf ih =>
    intro pre k hk hb
    simp only [List.length_cons] at hk hb
    obtain ⟨k, rfl⟩ : ∃ m, k = m + 1 := ⟨k - 1, by omega⟩
    have h := ih (pre ++ [x]) k (by omega) (by simp; omega)
    simp only [laws_toEdgeS.l0]
    rw [if_pos (by simp; omega), if_pos (by omega), rdLEdge_mid]
    simp only [laws_toEdge.f, Option.bind_some]
    rw [if_pos (by simp; omega), wrap_id (by omega) (by omega)]
    have e : (pre.map cvEdge ++ List.replicate (x :: suf).length z52).set ((pre.length : Int)).toNat (⟨x.f0, x.f1, x.f2⟩ : S52) = (pre ++ [x]).map cvEdge ++ List.replicate suf.length z52 := by
      simp [List.replicate_succ, cvEdge]
    rw [e]
    simpa using h
theorem toEdgeS_ev (l : List S65) (hl : l.length ≤ 1048576) : Ev (fun k => laws_toEdgeS.f k l) (l.map cvEdge) := by
  refine ⟨l.length + 1, fun k hk => ?_⟩
  have h := toEdgeS_l l [] k (by omega) (by simp; omega)
  show laws_toEdgeS.f k l = _
  unfold laws_toEdgeS.f
  rw [if_pos (by omega), if_pos (by simp; omega)]
  simpa using h
theorem eqEdge_is (a b : S52) : laws_eqEdge.f a.f0 a.f1 a.f2 b.f0 b.f1 b.f2 = some (decide (a = b)) := by
  cases a; cases b
  unfold laws_eqEdge.f
  simp only [S52.mk.injEq]
  split
  · split
    · split
      · rename_i h1 h2 h3; simp [h1, h2, h3]
      · rename_i h1 h2 h3; simp [h3]
    · rename_i h1 h2; simp [h2]
  · rename_i h1; simp [h1]
theorem eqEdgeS_l (s : List S52) : ∀ (t pre qre : List S52) (k : Nat), s.length < k → pre.length = qre.length → s.length = t.length → (pre.length : Int) + s.length ≤ 1099511627776 →
    laws_eqEdgeS.l0 k (pre ++ s) (qre ++ t) (pre.length : Int) = some (decide (s = t)) := by
  induction s with
  | nil =>
    intro t pre qre k hk hq hl hb
    obtain ⟨k, rfl⟩ : ∃ m, k = m + 1 := ⟨k - 1, by omega⟩
    obtain rfl : t = [] := List.eq_nil_of_length_eq_zero (by simpa using hl.symm)
    simp only [laws_eqEdgeS.l0]
    rw [if_neg (by simp)]
    simp
  | cons x s ih =>
    intro t pre qre k hk hq hl hb
    cases t with
    | nil => simp at hl
    | cons y t =>
      simp only [List.length_cons] at hk hl hb
      obtain ⟨k, rfl⟩ : ∃ m, k = m + 1 := ⟨k - 1, by omega⟩
      have h := ih t (pre ++ [x]) (qre ++ [y]) k (by omega) (by simp; omega) (by omega) (by simp; omega)
      have hy : rd_T52 (qre ++ y :: t) (pre.length : Int) = y := by rw [hq]; exact rdEdge_mid qre y t
      simp only [laws_eqEdgeS.l0]
      rw [if_pos (by simp; omega), if_pos (by omega), if_pos (by simp; omega), rdEdge_mid, hy, eqEdge_is, wrap_id (by omega) (by omega)]
      simp only [Option.bind_some]
      by_cases e : x = y
      · subst e
        rw [if_pos (by simp)]
        simpa using h
      · rw [if_neg (by simpa using e)]
        simp [e]
theorem eqEdgeS_ev (s t : List S52) (hs : s.length ≤ 1099511627776) : Ev (fun k => laws_eqEdgeS.f k s t) (decide (s = t)) := by
  refine ⟨s.length + 1, fun k hk => ?_⟩
  show laws_eqEdgeS.f k s t = _
  unfold laws_eqEdgeS.f
  by_cases hl : s.length = t.length
  · rw [if_pos (by omega)]
    exact eqEdgeS_l s t [] [] k (by omega) rfl hl (by simp; omega)
  · rw [if_neg (by omega)]
    have : s ≠ t := fun e => hl (by rw [e])
    simp [this]
theorem szEdgeS_is (l : List S65) (hl : l.length ≤ maxLen) (a : Int) (h0 : 0 ≤ a) (h1 : a ≤ 1048576) : laws_szEdgeS.f l a = some (if a - l.length < 0 then -1 else a - l.length) := by
  have hm : l.length ≤ 9223372036854775807 := by unfold maxLen at hl; exact hl
  unfold laws_szEdgeS.f
  rw [wrap_id (by omega) (by omega)]
  split <;> rfl
end Go.Proofs.Ytpbnpepikkocmaa.P

namespace Go.Proofs.Ytpbnpepikkocmaa.P
open Go.RowKit Go.Proofs.YtpbnpepikkocmaaW.PrintWords Go.Proofs.YtpbnpepikkocmaaW.PrintLast
set_option linter.unusedVariables false
set_option linter.unusedSimpArgs false
def isEdge (m : Int) (x : S52) : Bool := decide (0 ≤ x.f0 ∧ x.f0 ≤ m ∧ 0 ≤ x.f1 ∧ x.f1 ≤ m ∧ x.f0 < x.f1 ∧ 1 ≤ x.f2 ∧ x.f2 ≤ 100)
def edgeLt (y x : S52) : Bool := decide (y.f0 < x.f0 ∨ y.f0 = x.f0 ∧ y.f1 < x.f1)
def goodEF (m : Int) : Option S52 → List S52 → Bool
  | _, [] => true
  | none, x :: r => isEdge m x && goodEF m (some x) r
  | some y, x :: r => isEdge m x && (edgeLt y x && goodEF m (some x) r)
def goodE (n : Int) (l : List S52) : Bool := goodEF (wrap64 (n - 1)) none l && (decide (1 ≤ n ∧ n ≤ 12) && decide (l.length ≤ 40))
theorem specIn (a b c : Int) : spec_l1In.f a b c = some (decide (b ≤ a ∧ a ≤ c)) := by
  unfold spec_l1In.f
  by_cases h : b ≤ a <;> simp [h]
theorem implIn (a b c : Int) : impl_in.f a b c = some (decide (b ≤ a ∧ a ≤ c)) := specIn a b c
theorem isEdge_iff (m : Int) (x : S52) : isEdge m x = true ↔ (0 ≤ x.f0 ∧ x.f0 ≤ m ∧ 0 ≤ x.f1 ∧ x.f1 ≤ m ∧ x.f0 < x.f1 ∧ 1 ≤ x.f2 ∧ x.f2 ≤ 100) := by unfold isEdge; simp only [decide_eq_true_eq]
theorem specGoodE_l (n : Int) (suf : List S52) : ∀ (pre : List S52), (pre.length : Int) + suf.length ≤ 1099511627776 →
    Ev (fun k => spec_GoodEdges.l0 k n (pre ++ suf) (pre ++ suf) ((pre ++ suf).length : Int) (pre.length : Int)) (goodEF (wrap64 (n - 1)) pre.getLast? suf && (decide (1 ≤ n ∧ n ≤ 12) && decide ((pre ++ suf).length ≤ 40))) := by
  induction suf with
  | nil =>
    intro pre hb
    refine Ev.succ ?_
    simp only [spec_GoodEdges.l0]
    simp only [if_neg (show ¬ (pre.length : Int) < ((pre ++ ([] : List S52)).length : Int) by simp), specIn, Option.bind_some]
    have : goodEF (wrap64 (n - 1)) pre.getLast? [] = true := by cases pre.getLast? <;> rfl
    rw [this, Bool.true_and]
    by_cases h : 1 ≤ n ∧ n ≤ 12
    · simp only [h, and_self, decide_true, if_true, Bool.true_and]
      refine Ev.some_ ?_
      congr 1
      simp only [eq_iff_iff]
      omega
    · simp only [h, decide_false, Bool.false_eq_true, if_false, Bool.false_and]
      exact Ev.now _
  | cons x suf ih =>
    intro pre hb
    simp only [List.length_cons] at hb
    have c1 : (pre.length : Int) < ((pre ++ x :: suf).length : Int) := by simp <;> omega
    have c0 : (0 : Int) ≤ (pre.length : Int) := by omega
    have h := ih (pre ++ [x]) (by simp <;> omega)
    rw [← app_one, len_one, List.getLast?_concat] at h
    refine Ev.succ ?_
    simp only [spec_GoodEdges.l0]
    simp only [if_pos c1, if_pos c0, rdEdge_mid, specIn, Option.bind_some]
    generalize wrap64 (n - 1) = m at h ⊢
    generalize hfin : (decide (1 ≤ n ∧ n ≤ 12) && decide ((pre ++ x :: suf).length ≤ 40)) = fin at h ⊢
    have bad : ∀ (b : Bool), isEdge m x = false → b = true → Ev (fun k => spec_GoodEdges.j1 k n (pre ++ x :: suf) (pre.length : Int) (pre ++ x :: suf) ((pre ++ x :: suf).length : Int) (pre.length : Int) b x.f0 x.f1 x.f2) (goodEF m pre.getLast? (x :: suf) && fin) := by
      intro b he hb
      refine Ev.succ ?_
      simp only [spec_GoodEdges.j1, hb, if_true]
      refine Ev.some_ ?_
      cases pre.getLast? <;> simp [goodEF, he]
    by_cases h1 : 0 ≤ x.f0 ∧ x.f0 ≤ m
    · simp only [h1, and_self, decide_true, if_true]
      by_cases h2 : 0 ≤ x.f1 ∧ x.f1 ≤ m
      · simp only [h2, and_self, decide_true, if_true]
        by_cases h3 : x.f0 ≥ x.f1
        · simp only [if_pos h3]
          refine bad true ?_ rfl
          unfold isEdge; simp only [decide_eq_false_iff_not]; omega
        · simp only [if_neg h3]
          by_cases h4 : 1 ≤ x.f2 ∧ x.f2 ≤ 100
          · have he : isEdge m x = true := by rw [isEdge_iff]; omega
            simp only [h4, and_self, decide_true, Bool.not_true]
            refine Ev.succ ?_
            simp only [spec_GoodEdges.j1, Bool.false_eq_true, if_false]
            rw [wrap_id (x := (pre.length : Int) + 1) (by omega) (by omega)]
            rcases nil_or_snoc pre with rfl | ⟨pre', y, rfl⟩
            · simp only [if_neg (show ¬ (([] : List S52).length : Int) > 0 by simp)]
              have e : goodEF m ([] : List S52).getLast? (x :: suf) = goodEF m (some x) suf := by simp [goodEF, he]
              rw [e]
              exact h
            · have hy : rd_T52 ((pre' ++ [y]) ++ x :: suf) (((pre' ++ [y]).length : Int) - 1) = y := by
                rw [show ((pre' ++ [y]) ++ x :: suf) = pre' ++ y :: (x :: suf) by simp, show (((pre' ++ [y]).length : Int) - 1) = (pre'.length : Int) by simp]
                exact rdEdge_mid _ _ _
              have q0 : (((pre' ++ [y]).length : Int)) > 0 := by simp <;> omega
              rw [wrap_id (x := ((pre' ++ [y]).length : Int) - 1) (by omega) (by omega)]
              simp only [if_pos q0, if_pos (show 0 ≤ ((pre' ++ [y]).length : Int) - 1 by omega), if_pos (show ((pre' ++ [y]).length : Int) - 1 < (((pre' ++ [y]) ++ x :: suf).length : Int) by omega), hy]
              have e : goodEF m (pre' ++ [y]).getLast? (x :: suf) = (edgeLt y x && goodEF m (some x) suf) := by simp [goodEF, he]
              rw [e]
              by_cases g1 : y.f0 > x.f0
              · simp only [if_pos g1]
                refine Ev.some_ ?_
                have : edgeLt y x = false := by unfold edgeLt; simp only [decide_eq_false_iff_not]; omega
                rw [this]; rfl
              · simp only [if_neg g1]
                by_cases g2 : y.f0 = x.f0
                · simp only [if_pos g2]
                  by_cases g3 : y.f1 ≥ x.f1
                  · simp only [if_pos g3]
                    refine Ev.some_ ?_
                    have : edgeLt y x = false := by unfold edgeLt; simp only [decide_eq_false_iff_not]; omega
                    rw [this]; rfl
                  · simp only [if_neg g3]
                    have : edgeLt y x = true := by unfold edgeLt; simp only [decide_eq_true_eq]; omega
                    rw [this, Bool.true_and]
                    exact h
                · simp only [if_neg g2]
                  have : edgeLt y x = true := by unfold edgeLt; simp only [decide_eq_true_eq]; omega
                  rw [this, Bool.true_and]
                  exact h
          · simp only [h4, decide_false, Bool.not_false]
            refine bad true ?_ rfl
            unfold isEdge; simp only [decide_eq_false_iff_not]; omega
      · simp only [h2, decide_false, Bool.false_eq_true, if_false]
        refine bad true ?_ rfl
        unfold isEdge; simp only [decide_eq_false_iff_not]; omega
    · simp only [h1, decide_false, Bool.false_eq_true, if_false]
      refine bad true ?_ rfl
      unfold isEdge; simp only [decide_eq_false_iff_not]; omega
theorem specGoodE_ev (n : Int) (l : List S52) (hl : l.length ≤ 1048576) : Ev (fun k => spec_GoodEdges.f k n l) (goodE n l) := by
  unfold spec_GoodEdges.f
  exact specGoodE_l n l [] (by simp <;> omega)
theorem implGoodE_l (n : Int) (hm : wrap64 (n - 1) ≤ 9223372036854775807) (suf : List S52) : ∀ (pre : List S52), (pre.length : Int) + suf.length ≤ 1099511627776 → (∀ y, pre.getLast? = some y → isEdge (wrap64 (n - 1)) y = true) →
    Ev (fun k => impl_GoodEdges.l0 k n (pre ++ suf) (pre ++ suf) ((pre ++ suf).length : Int) (pre.length : Int)) (goodEF (wrap64 (n - 1)) pre.getLast? suf && (decide (1 ≤ n ∧ n ≤ 12) && decide ((pre ++ suf).length ≤ 40))) := by
  induction suf with
  | nil =>
    intro pre hb _
    refine Ev.succ ?_
    simp only [impl_GoodEdges.l0]
    simp only [if_neg (show ¬ (pre.length : Int) < ((pre ++ ([] : List S52)).length : Int) by simp), impl_isSpots.f, implIn, Option.bind_some]
    have : goodEF (wrap64 (n - 1)) pre.getLast? [] = true := by cases pre.getLast? <;> rfl
    rw [this, Bool.true_and]
    by_cases h : 1 ≤ n ∧ n ≤ 12
    · simp only [h, and_self, decide_true, if_true, Bool.true_and]
      refine Ev.some_ ?_
      congr 1
      simp only [eq_iff_iff]
      omega
    · simp only [h, decide_false, Bool.false_eq_true, if_false, Bool.false_and]
      exact Ev.now _
  | cons x suf ih =>
    intro pre hb hlast
    simp only [List.length_cons] at hb
    have c1 : (pre.length : Int) < ((pre ++ x :: suf).length : Int) := by simp <;> omega
    have c0 : (0 : Int) ≤ (pre.length : Int) := by omega
    have h := ih (pre ++ [x]) (by simp <;> omega)
    rw [← app_one, len_one, List.getLast?_concat] at h
    refine Ev.succ ?_
    simp only [impl_GoodEdges.l0]
    simp only [if_pos c1, if_pos c0, rdEdge_mid, implIn, Option.bind_some]
    generalize wrap64 (n - 1) = m at h hm hlast ⊢
    generalize hfin : (decide (1 ≤ n ∧ n ≤ 12) && decide ((pre ++ x :: suf).length ≤ 40)) = fin at h ⊢
    have bad : isEdge m x = false → Ev (fun k => some false) (goodEF m pre.getLast? (x :: suf) && fin) := by
      intro he
      refine Ev.some_ ?_
      cases pre.getLast? <;> simp [goodEF, he]
    by_cases h1 : 0 ≤ x.f0 ∧ x.f0 ≤ m
    · simp only [h1, and_self, decide_true, if_true]
      by_cases h2 : 0 ≤ x.f1 ∧ x.f1 ≤ m
      · simp only [h2, and_self, decide_true, if_true]
        by_cases h3 : x.f0 ≥ x.f1
        · simp only [if_pos h3]
          refine bad ?_
          unfold isEdge; simp only [decide_eq_false_iff_not]; omega
        · simp only [if_neg h3]
          by_cases h4 : 1 ≤ x.f2 ∧ x.f2 ≤ 100
          · have he : isEdge m x = true := by rw [isEdge_iff]; omega
            have h := h (fun y hy => by cases hy; exact he)
            simp only [h4, and_self, decide_true, if_true]
            rw [wrap_id (x := (pre.length : Int) + 1) (by omega) (by omega)]
            rcases nil_or_snoc pre with rfl | ⟨pre', y, rfl⟩
            · simp only [if_neg (show ¬ (([] : List S52).length : Int) > 0 by simp)]
              have e : goodEF m ([] : List S52).getLast? (x :: suf) = goodEF m (some x) suf := by simp [goodEF, he]
              rw [e]
              exact h
            · have hy : rd_T52 ((pre' ++ [y]) ++ x :: suf) (((pre' ++ [y]).length : Int) - 1) = y := by
                rw [show ((pre' ++ [y]) ++ x :: suf) = pre' ++ y :: (x :: suf) by simp, show (((pre' ++ [y]).length : Int) - 1) = (pre'.length : Int) by simp]
                exact rdEdge_mid _ _ _
              have hye := (isEdge_iff m y).1 (hlast y (by simp))
              have hxe := (isEdge_iff m x).1 he
              have q0 : (((pre' ++ [y]).length : Int)) > 0 := by simp <;> omega
              rw [wrap_id (x := ((pre' ++ [y]).length : Int) - 1) (by omega) (by omega)]
              simp only [if_pos q0, if_pos (show 0 ≤ ((pre' ++ [y]).length : Int) - 1 by omega), if_pos (show ((pre' ++ [y]).length : Int) - 1 < (((pre' ++ [y]) ++ x :: suf).length : Int) by omega), hy]
              have e : goodEF m (pre' ++ [y]).getLast? (x :: suf) = (edgeLt y x && goodEF m (some x) suf) := by simp [goodEF, he]
              rw [e]
              have eb : impl_byEnds.f y.f0 y.f1 y.f2 x.f0 x.f1 x.f2 = some (if y.f0 = x.f0 then y.f1 - x.f1 else y.f0 - x.f0) := by
                unfold impl_byEnds.f
                split
                · rw [wrap_id (by omega) (by omega)]
                · rw [wrap_id (by omega) (by omega)]
              simp only [eb, Option.bind_some]
              by_cases g : edgeLt y x = true
              · have g' : (y.f0 < x.f0 ∨ y.f0 = x.f0 ∧ y.f1 < x.f1) := by unfold edgeLt at g; simpa only [decide_eq_true_eq] using g
                rw [g, Bool.true_and]
                simp only [if_neg (show ¬ (if y.f0 = x.f0 then y.f1 - x.f1 else y.f0 - x.f0) ≥ 0 by split <;> omega)]
                exact h
              · have g' : ¬ (y.f0 < x.f0 ∨ y.f0 = x.f0 ∧ y.f1 < x.f1) := by unfold edgeLt at g; simpa only [decide_eq_true_eq] using g
                simp only [if_pos (show (if y.f0 = x.f0 then y.f1 - x.f1 else y.f0 - x.f0) ≥ 0 by split <;> omega)]
                refine Ev.some_ ?_
                rw [Bool.not_eq_true] at g
                rw [g]; rfl
          · simp only [h4, decide_false, Bool.false_eq_true, if_false]
            refine bad ?_
            unfold isEdge; simp only [decide_eq_false_iff_not]; omega
      · simp only [h2, decide_false, Bool.false_eq_true, if_false]
        refine bad ?_
        unfold isEdge; simp only [decide_eq_false_iff_not]; omega
    · simp only [h1, decide_false, Bool.false_eq_true, if_false]
      refine bad ?_
      unfold isEdge; simp only [decide_eq_false_iff_not]; omega
theorem wrap_top (x : Int) : -9223372036854775808 ≤ wrap64 x ∧ wrap64 x ≤ 9223372036854775807 := by unfold wrap64; omega
theorem implGoodE_ev (n : Int) (l : List S52) (hl : l.length ≤ 1048576) : Ev (fun k => impl_GoodEdges.f k n l) (goodE n l) := by
  unfold impl_GoodEdges.f
  exact implGoodE_l n (wrap_top _).2 l [] (by simp <;> omega) (fun y hy => by simp at hy)
/-- What good edges are. -/
theorem goodE_n {n : Int} {l : List S52} (h : goodE n l = true) : 1 ≤ n ∧ n ≤ 12 ∧ l.length ≤ 40 := by
  unfold goodE at h
  simp only [Bool.and_eq_true, decide_eq_true_eq] at h
  exact ⟨h.2.1.1, h.2.1.2, h.2.2⟩
theorem goodEF_all {m : Int} : ∀ (l : List S52) (o : Option S52), goodEF m o l = true → ∀ x ∈ l, isEdge m x = true
  | [], _, _, x, hx => by simp at hx
  | y :: r, o, h, x, hx => by
    have h2 : isEdge m y = true ∧ goodEF m (some y) r = true := by
      cases o with
      | none => simpa [goodEF] using h
      | some z =>
        simp only [goodEF, Bool.and_eq_true] at h
        exact ⟨h.1, h.2.2⟩
    rcases List.mem_cons.1 hx with rfl | hx
    · exact h2.1
    · exact goodEF_all r _ h2.2 x hx
theorem goodE_edge {n : Int} {l : List S52} (h : goodE n l = true) : ∀ x ∈ l, 0 ≤ x.f0 ∧ x.f0 < x.f1 ∧ x.f1 < n ∧ 1 ≤ x.f2 ∧ x.f2 ≤ 100 := by
  have hn := goodE_n h
  intro x hx
  unfold goodE at h
  simp only [Bool.and_eq_true] at h
  have := (isEdge_iff _ _).1 (goodEF_all l none h.1 x hx)
  rw [wrap_id (by omega) (by omega)] at this
  omega
end Go.Proofs.Ytpbnpepikkocmaa.P

namespace Go.Proofs.Ytpbnpepikkocmaa.P
open Go.RowKit Go.Proofs.YtpbnpepikkocmaaW.PrintWords Go.Proofs.YtpbnpepikkocmaaW.PrintLast
set_option linter.unusedVariables false
set_option linter.unusedSimpArgs false
/-- The spots' own numbers. -/
def own0 (n : Nat) : List Int := (List.range n).map fun (i : Nat) => (i : Int)
theorem own0_len (n : Nat) : (own0 n).length = n := by simp [own0]
end Go.Proofs.Ytpbnpepikkocmaa.P

namespace Go.Proofs.Ytpbnpepikkocmaa.P
open Go.RowKit Go.Proofs.YtpbnpepikkocmaaW.PrintWords Go.Proofs.YtpbnpepikkocmaaW.PrintLast
set_option linter.unusedVariables false
set_option linter.unusedSimpArgs false
theorem rd_mid (pre : List Int) (x : Int) (suf : List Int) : rd (pre ++ x :: suf) (pre.length : Int) = x := getD_mid _ pre x suf
theorem eqIntS_l (s : List Int) : ∀ (t pre qre : List Int) (k : Nat), s.length < k → pre.length = qre.length → s.length = t.length → (pre.length : Int) + s.length ≤ 1099511627776 →
    laws_eqIntS.l0 k (pre ++ s) (qre ++ t) (pre.length : Int) = some (decide (s = t)) := by
  induction s with
  | nil =>
    intro t pre qre k hk hq hl hb
    obtain ⟨k, rfl⟩ : ∃ m, k = m + 1 := ⟨k - 1, by omega⟩
    obtain rfl : t = [] := List.eq_nil_of_length_eq_zero (by simpa using hl.symm)
    simp only [laws_eqIntS.l0]
    rw [if_neg (by simp)]
    simp
  | cons x s ih =>
    intro t pre qre k hk hq hl hb
    cases t with
    | nil => simp at hl
    | cons y t =>
      simp only [List.length_cons] at hk hl hb
      obtain ⟨k, rfl⟩ : ∃ m, k = m + 1 := ⟨k - 1, by omega⟩
      have h := ih t (pre ++ [x]) (qre ++ [y]) k (by omega) (by simp; omega) (by omega) (by simp; omega)
      have hy : rd (qre ++ y :: t) (pre.length : Int) = y := by rw [hq]; exact rd_mid qre y t
      simp only [laws_eqIntS.l0]
      rw [if_pos (by simp <;> omega), if_pos (by omega), if_pos (by simp <;> omega), rd_mid, hy, wrap_id (by omega) (by omega)]
      by_cases e : x = y
      · subst e
        rw [if_pos rfl]
        simpa using h
      · rw [if_neg e]
        simp [e]
theorem eqIntS_ev (s t : List Int) (hs : s.length ≤ 1099511627776) : Ev (fun k => laws_eqIntS.f k s t) (decide (s = t)) := by
  refine ⟨s.length + 1, fun k hk => ?_⟩
  show laws_eqIntS.f k s t = _
  unfold laws_eqIntS.f
  by_cases hl : s.length = t.length
  · rw [if_pos (by omega)]
    exact eqIntS_l s t [] [] k (by omega) rfl hl (by simp; omega)
  · rw [if_neg (by omega)]
    have : s ≠ t := fun e => hl (by rw [e])
    simp [this]
end Go.Proofs.Ytpbnpepikkocmaa.P

namespace Go.Proofs.Ytpbnpepikkocmaa.P
open Go.RowKit Go.Proofs.YtpbnpepikkocmaaW.PrintWords Go.Proofs.YtpbnpepikkocmaaW.PrintLast
set_option linter.unusedVariables false
set_option linter.unusedSimpArgs false
-- sweeps over a list of numbers; the least of two
theorem mn_is (a b : Int) : mn a b = min a b := by
  unfold mn
  split
  · rw [Int.min_eq_right (by omega)]
  · rw [Int.min_eq_left (by omega)]
theorem own0_succ (n : Nat) : own0 (n + 1) = own0 n ++ [(n : Int)] := by
  unfold own0
  rw [List.range_succ, List.map_append]
  rfl
theorem mx_is (a b : Int) : mx a b = max a b := by
  unfold mx
  split <;> omega
theorem own0_mem (n : Nat) (x : Int) : x ∈ own0 n ↔ 0 ≤ x ∧ x < n := by
  unfold own0
  rw [List.mem_map]
  constructor
  · rintro ⟨i, hi, rfl⟩
    have := List.mem_range.1 hi
    omega
  · intro ⟨h0, h1⟩
    exact ⟨x.toNat, List.mem_range.2 (by omega), by omega⟩
theorem own0_sorted : ∀ (n : Nat), (own0 n).Pairwise (· < ·)
  | 0 => by simp [own0]
  | n + 1 => by
    rw [own0_succ]
    refine List.pairwise_append.2 ⟨own0_sorted n, by simp, fun a ha b hb => ?_⟩
    have := (own0_mem n a).1 ha
    simp only [List.mem_singleton] at hb
    omega
end Go.Proofs.Ytpbnpepikkocmaa.P

namespace Go.Proofs.Ytpbnpepikkocmaa.P
open Go.RowKit Go.Proofs.YtpbnpepikkocmaaW.PrintWords Go.Proofs.YtpbnpepikkocmaaW.PrintLast
set_option linter.unusedVariables false
set_option linter.unusedSimpArgs false
-- the neighbours of a node: the sorted puts and the sweep over costs give one list
def putI : List Int → Int → List Int
  | [], x => [x]
  | y :: r, x => if y < x then y :: putI r x else if y = x then y :: r else x :: y :: r
theorem putI_len : ∀ (l : List Int) (x : Int), (putI l x).length ≤ l.length + 1
  | [], x => by simp [putI]
  | y :: r, x => by
    have := putI_len r x
    unfold putI
    split
    · simp; omega
    · split <;> simp
theorem putI_mem : ∀ (l : List Int) (x z : Int), z ∈ putI l x ↔ z = x ∨ z ∈ l
  | [], x, z => by simp [putI]
  | y :: r, x, z => by
    have := putI_mem r x z
    unfold putI
    split
    · simp only [List.mem_cons, this]
      constructor
      · rintro (h | h | h) <;> simp [h]
      · rintro (h | h | h) <;> simp [h]
    · split
      · rename_i h
        subst h
        simp
      · simp
theorem putI_sorted : ∀ (l : List Int) (x : Int), l.Pairwise (· < ·) → (putI l x).Pairwise (· < ·)
  | [], x, _ => by simp [putI]
  | y :: r, x, h => by
    have h1 := List.pairwise_cons.1 h
    have := putI_sorted r x h1.2
    unfold putI
    split
    · rename_i hyx
      refine List.pairwise_cons.2 ⟨fun z hz => ?_, this⟩
      rcases (putI_mem r x z).1 hz with h2 | h2
      · omega
      · exact h1.1 z h2
    · split
      · exact h
      · refine List.pairwise_cons.2 ⟨fun z hz => ?_, h⟩
        rcases List.mem_cons.1 hz with h2 | h2
        · omega
        · have := h1.1 z h2
          omega
theorem sorted_ext : ∀ (a b : List Int), a.Pairwise (· < ·) → b.Pairwise (· < ·) → (∀ x, x ∈ a ↔ x ∈ b) → a = b
  | [], [], _, _, _ => rfl
  | [], y :: b, _, _, h => by have := (h y).2 (List.mem_cons_self ..); simp at this
  | x :: a, [], _, _, h => by have := (h x).1 (List.mem_cons_self ..); simp at this
  | x :: a, y :: b, ha, hb, h => by
    have ha1 := List.pairwise_cons.1 ha
    have hb1 := List.pairwise_cons.1 hb
    have hxy : x = y := by
      rcases List.mem_cons.1 ((h x).1 (List.mem_cons_self ..)) with h1 | h1
      · exact h1
      · rcases List.mem_cons.1 ((h y).2 (List.mem_cons_self ..)) with h2 | h2
        · exact h2.symm
        · have := ha1.1 y h2
          have := hb1.1 x h1
          omega
    subst hxy
    rw [sorted_ext a b ha1.2 hb1.2 fun z => ?_]
    constructor
    · intro hz
      rcases List.mem_cons.1 ((h z).1 (List.mem_cons_of_mem _ hz)) with h1 | h1
      · have := ha1.1 z hz
        omega
      · exact h1
    · intro hz
      rcases List.mem_cons.1 ((h z).2 (List.mem_cons_of_mem _ hz)) with h1 | h1
      · have := hb1.1 z hz
        omega
      · exact h1
theorem put_l (x : Int) (suf : List Int) : ∀ (pre : List Int), ((pre ++ suf).length : Int) ≤ 4398046511104 → Ev (fun k => spec_l1Put.l0 k (pre ++ suf) x pre.length) (pre ++ putI suf x) := by
  induction suf with
  | nil =>
    intro pre h
    refine Ev.succ ?_
    simp only [List.append_nil] at h ⊢
    have h0 : pre.length < 17592186044416 := by omega
    simp only [spec_l1Put.l0, Int.lt_irrefl, if_false, Option.bind_some, if_pos (show (0 : Int) ≤ pre.length by omega), if_pos (Int.le_refl (pre.length : Int)), Int.toNat_natCast, List.take_length, List.drop_length, List.nil_append, List.length_nil, Nat.zero_add, if_pos h0, List.length_append, List.length_cons, Nat.add_zero, List.append_nil, if_pos (show pre.length + (0 + 1) < 17592186044416 by omega), if_pos (show pre.length + 1 < 17592186044416 by omega), putI]
    exact Ev.now _
  | cons y suf ih =>
    intro pre h
    refine Ev.succ ?_
    have hl := len_mid pre y suf
    rw [hl] at h
    simp only [spec_l1Put.l0, hl, rd_mid, if_pos (show ((pre.length : Int) < pre.length + suf.length + 1) by omega), if_pos (show (0 : Int) ≤ pre.length by omega), wrap_id (show (-9223372036854775808 : Int) ≤ pre.length + 1 by omega) (show ((pre.length : Int) + 1 ≤ 9223372036854775807) by omega)]
    by_cases h1 : y < x
    · have := ih (pre ++ [y]) (by rw [← app_one, hl]; exact h)
      rw [← app_one, len_one] at this
      simp only [if_pos h1, putI]
      rw [app_one] at this
      rw [app_one pre y (putI suf x)]
      rw [← app_one] at this
      exact this
    · by_cases h2 : y = x
      · simp only [if_neg h1, if_pos h2, putI]
        exact Ev.now _
      · have h0 : pre.length < 17592186044416 := by omega
        simp only [if_neg h1, if_neg h2, putI, Option.bind_some, if_pos (show (pre.length : Int) ≤ pre.length + suf.length + 1 by omega), Int.toNat_natCast, List.take_left, List.drop_left, List.nil_append, List.length_nil, Nat.zero_add, if_pos h0, List.length_append, List.length_cons, if_pos (show pre.length + 1 + (suf.length + 1) < 17592186044416 by omega), if_pos (show pre.length + (0 + 1) + (suf.length + 1) < 17592186044416 by omega), List.append_assoc, List.cons_append]
        exact Ev.now _
theorem put_ev (l : List Int) (x : Int) (h : (l.length : Int) ≤ 4398046511104) : Ev (fun k => spec_l1Put.f k l x) (putI l x) := by
  have := put_l x l [] h
  exact this
def nearStep (v : Int) (out : List Int) (e : S52) : List Int := if e.f0 = v then (if e.f1 = v then putI (putI out e.f1) e.f0 else putI out e.f1) else (if e.f1 = v then putI out e.f0 else out)
theorem nearStep_len (v : Int) (out : List Int) (e : S52) : (nearStep v out e).length ≤ out.length + 2 := by
  unfold nearStep
  split
  · split
    · have := putI_len (putI out e.f1) e.f0
      have := putI_len out e.f1
      omega
    · have := putI_len out e.f1
      omega
  · split
    · have := putI_len out e.f0
      omega
    · omega
theorem specNear_l (v : Int) (suf : List S52) : ∀ (pre : List S52) (out : List Int), ((pre ++ suf).length : Int) ≤ 1099511627776 → (out.length : Int) ≤ 2 * pre.length →
    Ev (fun k => spec_l8Near.l0 k v out (pre ++ suf) ((pre ++ suf).length : Int) pre.length) (suf.foldl (nearStep v) out) := by
  induction suf with
  | nil =>
    intro pre out h ho
    refine Ev.succ ?_
    simp only [spec_l8Near.l0, List.append_nil, Int.lt_irrefl, if_false, List.foldl_nil]
    exact Ev.now _
  | cons e suf ih =>
    intro pre out h ho
    refine Ev.succ ?_
    rw [len_mid] at h ⊢
    have hs := nearStep_len v out e
    have := ih (pre ++ [e]) (nearStep v out e) (by rw [← app_one, len_mid]; exact h) (by rw [len_one]; omega)
    rw [← app_one, len_mid, len_one] at this
    simp only [spec_l8Near.l0, List.foldl_cons]
    simp only [if_pos (show ((pre.length : Int) < pre.length + suf.length + 1) by omega), if_pos (show (0 : Int) ≤ pre.length by omega), len_mid, rdEdge_mid, wrap_id (show (-9223372036854775808 : Int) ≤ pre.length + 1 by omega) (show ((pre.length : Int) + 1 ≤ 9223372036854775807) by omega)]
    have hp := putI_len out e.f1
    by_cases h1 : e.f0 = v
    · by_cases h2 : e.f1 = v
      · simp only [if_pos h1, if_pos h2]
        refine Ev.bind (put_ev _ _ (by omega)) ?_
        refine Ev.bind (put_ev _ _ (by omega)) ?_
        rw [show nearStep v out e = putI (putI out e.f1) e.f0 by simp [nearStep, h1, h2]] at this
        rw [show nearStep v out e = putI (putI out e.f1) e.f0 by simp [nearStep, h1, h2]]
        exact this
      · simp only [if_pos h1, if_neg h2]
        refine Ev.bind (put_ev _ _ (by omega)) ?_
        rw [show nearStep v out e = putI out e.f1 by simp only [nearStep, if_pos h1, if_neg h2]] at this
        rw [show nearStep v out e = putI out e.f1 by simp only [nearStep, if_pos h1, if_neg h2]]
        exact this
    · by_cases h2 : e.f1 = v
      · simp only [if_neg h1, if_pos h2]
        refine Ev.bind (put_ev _ _ (by omega)) ?_
        rw [show nearStep v out e = putI out e.f0 by simp only [nearStep, if_neg h1, if_pos h2]] at this
        rw [show nearStep v out e = putI out e.f0 by simp only [nearStep, if_neg h1, if_pos h2]]
        exact this
      · simp only [if_neg h1, if_neg h2]
        rw [show nearStep v out e = out by simp only [nearStep, if_neg h1, if_neg h2]] at this
        rw [show nearStep v out e = out by simp only [nearStep, if_neg h1, if_neg h2]]
        exact this
def nearS (l : List S52) (v : Int) : List Int := l.foldl (nearStep v) []
theorem specNear_ev (l : List S52) (v : Int) (h : (l.length : Int) ≤ 1099511627776) : Ev (fun k => spec_l8Near.f k l v) (nearS l v) := by
  have := specNear_l v l [] [] h (by simp)
  exact this
theorem foldNear (v : Int) : ∀ (l : List S52) (out : List Int), out.Pairwise (· < ·) → (l.foldl (nearStep v) out).Pairwise (· < ·) ∧ ∀ x, x ∈ l.foldl (nearStep v) out ↔ x ∈ out ∨ ∃ e ∈ l, (e.f0 = v ∧ e.f1 = x) ∨ (e.f1 = v ∧ e.f0 = x)
  | [], out, h => by simp [h]
  | e :: l, out, h => by
    have h1 : (nearStep v out e).Pairwise (· < ·) := by
      unfold nearStep
      split
      · split
        · exact putI_sorted _ _ (putI_sorted _ _ h)
        · exact putI_sorted _ _ h
      · split
        · exact putI_sorted _ _ h
        · exact h
    have h2 : ∀ x, x ∈ nearStep v out e ↔ x ∈ out ∨ (e.f0 = v ∧ e.f1 = x) ∨ (e.f1 = v ∧ e.f0 = x) := by
      intro x
      unfold nearStep
      split
      · rename_i a
        split
        · rename_i b
          rw [putI_mem, putI_mem]
          constructor
          · rintro (c | c | c)
            · exact .inr (.inr ⟨b, c.symm⟩)
            · exact .inr (.inl ⟨a, c.symm⟩)
            · exact .inl c
          · rintro (c | c | c)
            · exact .inr (.inr c)
            · exact .inr (.inl c.2.symm)
            · exact .inl c.2.symm
        · rename_i b
          rw [putI_mem]
          constructor
          · rintro (c | c)
            · exact .inr (.inl ⟨a, c.symm⟩)
            · exact .inl c
          · rintro (c | c | c)
            · exact .inr c
            · exact .inl c.2.symm
            · exact absurd c.1 b
      · rename_i a
        split
        · rename_i b
          rw [putI_mem]
          constructor
          · rintro (c | c)
            · exact .inr (.inr ⟨b, c.symm⟩)
            · exact .inl c
          · rintro (c | c | c)
            · exact .inr c
            · exact absurd c.1 a
            · exact .inl c.2.symm
        · rename_i b
          constructor
          · exact .inl
          · rintro (c | c | c)
            · exact c
            · exact absurd c.1 a
            · exact absurd c.1 b
    have h3 := foldNear v l (nearStep v out e) h1
    refine ⟨h3.1, fun x => ?_⟩
    rw [List.foldl_cons, h3.2, h2]
    constructor
    · rintro ((c | c) | ⟨y, c, d⟩)
      · exact .inl c
      · exact .inr ⟨e, List.mem_cons_self .., c⟩
      · exact .inr ⟨y, List.mem_cons_of_mem _ c, d⟩
    · rintro (c | ⟨y, c, d⟩)
      · exact .inl (.inl c)
      · rcases List.mem_cons.1 c with rfl | c
        · exact .inl (.inr d)
        · exact .inr ⟨y, c, d⟩
def isAt (a b : Int) (e : S52) : Bool := decide (e.f0 = min a b ∧ e.f1 = max a b)
def costM (l : List S52) (a b : Int) : Int := match l.find? (isAt a b) with
  | some e => e.f2
  | none => 0
theorem implCost_l (a b : Int) (suf : List S52) : ∀ (pre : List S52), ((pre ++ suf).length : Int) ≤ 1099511627776 →
    Ev (fun k => impl_cost.l0 k a b (pre ++ suf) ((pre ++ suf).length : Int) pre.length) (costM suf a b) := by
  induction suf with
  | nil =>
    intro pre h
    refine Ev.succ ?_
    simp only [impl_cost.l0, List.append_nil, Int.lt_irrefl, if_false]
    exact Ev.now _
  | cons e suf ih =>
    intro pre h
    refine Ev.succ ?_
    rw [len_mid] at h ⊢
    have := ih (pre ++ [e]) (by rw [← app_one, len_mid]; exact h)
    rw [← app_one, len_mid, len_one] at this
    simp only [impl_cost.l0]
    simp only [if_pos (show ((pre.length : Int) < pre.length + suf.length + 1) by omega), if_pos (show (0 : Int) ≤ pre.length by omega), len_mid, rdEdge_mid, wrap_id (show (-9223372036854775808 : Int) ≤ pre.length + 1 by omega) (show ((pre.length : Int) + 1 ≤ 9223372036854775807) by omega), mn_is, mx_is]
    by_cases h1 : e.f0 = min a b
    · by_cases h2 : e.f1 = max a b
      · simp only [if_pos h1, if_pos h2]
        rw [show costM (e :: suf) a b = e.f2 by unfold costM; rw [List.find?_cons_of_pos (by simp only [isAt, h1, h2, and_self, decide_true])]]
        exact Ev.now _
      · simp only [if_pos h1, if_neg h2]
        rw [show costM (e :: suf) a b = costM suf a b by unfold costM; rw [List.find?_cons_of_neg (by simp only [isAt, h2, and_false, decide_false]; simp)]]
        exact this
    · simp only [if_neg h1]
      rw [show costM (e :: suf) a b = costM suf a b by unfold costM; rw [List.find?_cons_of_neg (by simp only [isAt, h1, false_and, decide_false]; simp)]]
      exact this
theorem implCost_ev (l : List S52) (a b : Int) (h : (l.length : Int) ≤ 1099511627776) : Ev (fun k => impl_cost.f k l a b) (costM l a b) := by
  have := implCost_l a b l [] h
  exact this
def nearM (n : Nat) (l : List S52) (v : Int) : List Int := (own0 n).filter fun u => decide (costM l v u > 0)
theorem nearM_succ (n : Nat) (l : List S52) (v : Int) : nearM (n + 1) l v = if costM l v n > 0 then nearM n l v ++ [(n : Int)] else nearM n l v := by
  unfold nearM
  rw [own0_succ, List.filter_append]
  split
  · rename_i h
    simp [h]
  · rename_i h
    simp [h]
theorem nearM_len (n : Nat) (l : List S52) (v : Int) : (nearM n l v).length ≤ n := by
  have := List.length_filter_le (fun u => decide (costM l v u > 0)) (own0 n)
  rw [own0_len] at this
  exact this
theorem implNear_l (l : List S52) (v : Int) (hb : (l.length : Int) ≤ 1099511627776) (d : Nat) : ∀ (c : Nat), c + d ≤ 1000000 →
    Ev (fun k => impl_near.l0 k l v (nearM c l v) ((c + d : Nat) : Int) c) (nearM (c + d) l v) := by
  induction d with
  | zero =>
    intro c h
    refine Ev.succ ?_
    simp only [impl_near.l0, Nat.add_zero, Int.lt_irrefl, if_false]
    exact Ev.now _
  | succ d ih =>
    intro c h
    refine Ev.succ ?_
    have := ih (c + 1) (by omega)
    rw [show c + 1 + d = c + (d + 1) by omega] at this
    have hl := nearM_len c l v
    simp only [impl_near.l0, if_pos (show (c : Int) < ((c + (d + 1) : Nat) : Int) by omega), wrap_id (show (-9223372036854775808 : Int) ≤ c + 1 by omega) (show ((c : Int) + 1 ≤ 9223372036854775807) by omega)]
    refine Ev.bind (implCost_ev l v c hb) ?_
    rw [nearM_succ] at this
    by_cases h1 : costM l v c > 0
    · simp only [if_pos h1, if_pos (show (nearM c l v).length < 17592186044416 by omega)] at this ⊢
      exact this
    · simp only [if_neg h1] at this ⊢
      exact this
theorem implNear_ev (n : Int) (l : List S52) (v : Int) (h0 : 0 ≤ n) (hn : n ≤ 1000) (hb : (l.length : Int) ≤ 1099511627776) : Ev (fun k => impl_near.f k n l v) (nearM n.toNat l v) := by
  have := implNear_l l v hb n.toNat 0 (by omega)
  rw [Nat.zero_add, show ((n.toNat : Nat) : Int) = n by omega] at this
  exact this
theorem costM_pos {n : Int} {l : List S52} (hx : ∀ x ∈ l, 0 ≤ x.f0 ∧ x.f0 < x.f1 ∧ x.f1 < n ∧ 1 ≤ x.f2 ∧ x.f2 ≤ 100) (a b : Int) : costM l a b > 0 ↔ ∃ e ∈ l, (e.f0 = a ∧ e.f1 = b) ∨ (e.f1 = a ∧ e.f0 = b) := by
  unfold costM
  cases hf : l.find? (isAt a b) with
  | none =>
    simp only [gt_iff_lt, Int.lt_irrefl, false_iff]
    rintro ⟨e, he, hc⟩
    have := hx e he
    have h1 := List.find?_eq_none.1 hf e he
    simp only [isAt, decide_eq_true_eq] at h1
    omega
  | some e =>
    have he := List.mem_of_find?_eq_some hf
    have := hx e he
    have h1 := List.find?_some hf
    simp only [isAt, decide_eq_true_eq] at h1
    simp only [gt_iff_lt]
    refine ⟨fun _ => ⟨e, he, ?_⟩, fun _ => by omega⟩
    omega
theorem near_same {n : Int} {l : List S52} (hx : ∀ x ∈ l, 0 ≤ x.f0 ∧ x.f0 < x.f1 ∧ x.f1 < n ∧ 1 ≤ x.f2 ∧ x.f2 ≤ 100) (v : Int) : nearS l v = nearM n.toNat l v := by
  have h := foldNear v l [] (by simp)
  refine sorted_ext _ _ h.1 ?_ fun x => ?_
  · exact (own0_sorted _).filter _
  · unfold nearM
    rw [List.mem_filter, own0_mem, decide_eq_true_eq, costM_pos hx]
    have h2 := h.2 x
    simp only [List.not_mem_nil, false_or] at h2
    refine h2.trans ⟨fun hc => ⟨?_, hc⟩, fun hc => hc.2⟩
    obtain ⟨e, he, hc⟩ := hc
    have := hx e he
    omega
end Go.Proofs.Ytpbnpepikkocmaa.P

namespace Go.Proofs.Ytpbnpepikkocmaa.P
open Go.RowKit Go.Proofs.YtpbnpepikkocmaaW.PrintWords Go.Proofs.YtpbnpepikkocmaaW.PrintLast
set_option linter.unusedVariables false
set_option linter.unusedSimpArgs false
-- the degrees of all nodes
def degs (n : Nat) (l : List S52) (c : Nat) : List Int := (own0 c).map fun v => ((nearM n l v).length : Int)
theorem degs_succ (n : Nat) (l : List S52) (c : Nat) : degs n l (c + 1) = degs n l c ++ [((nearM n l c).length : Int)] := by
  unfold degs
  rw [own0_succ, List.map_append]
  rfl
theorem degs_len (n : Nat) (l : List S52) (c : Nat) : (degs n l c).length = c := by
  unfold degs
  rw [List.length_map, own0_len]
theorem specDeg_l (n : Nat) (hn : n ≤ 1000) (l : List S52) (hb : (l.length : Int) ≤ 1099511627776) (hx : ∀ x ∈ l, 0 ≤ x.f0 ∧ x.f0 < x.f1 ∧ x.f1 < n ∧ 1 ≤ x.f2 ∧ x.f2 ≤ 100) (d : Nat) : ∀ (c : Nat), c + d = n →
    Ev (fun k => spec_DegreesOf.l0 k n l (degs n l c) c) (degs n l n, true) := by
  induction d with
  | zero =>
    intro c h
    refine Ev.succ ?_
    rw [Nat.add_zero] at h
    subst h
    simp only [spec_DegreesOf.l0, Int.lt_irrefl, if_false]
    exact Ev.now _
  | succ d ih =>
    intro c h
    refine Ev.succ ?_
    have := ih (c + 1) (by omega)
    have hl := degs_len n l c
    simp only [spec_DegreesOf.l0, if_pos (show (c : Int) < n by omega), wrap_id (show (-9223372036854775808 : Int) ≤ c + 1 by omega) (show ((c : Int) + 1 ≤ 9223372036854775807) by omega)]
    refine Ev.bind (specNear_ev l c hb) ?_
    simp only [if_pos (show (degs n l c).length < 17592186044416 by omega)]
    rw [near_same hx, Int.toNat_natCast, ← degs_succ]
    exact this
theorem implDeg_l (n : Nat) (hn : n ≤ 1000) (l : List S52) (hb : (l.length : Int) ≤ 1099511627776) (d : Nat) : ∀ (c : Nat), c + d = n →
    Ev (fun k => impl_DegreesOf.l0 k n l (degs n l c) n c) (degs n l n, true) := by
  induction d with
  | zero =>
    intro c h
    refine Ev.succ ?_
    rw [Nat.add_zero] at h
    subst h
    simp only [impl_DegreesOf.l0, Int.lt_irrefl, if_false]
    exact Ev.now _
  | succ d ih =>
    intro c h
    refine Ev.succ ?_
    have := ih (c + 1) (by omega)
    have hl := degs_len n l c
    simp only [impl_DegreesOf.l0, if_pos (show (c : Int) < n by omega), wrap_id (show (-9223372036854775808 : Int) ≤ c + 1 by omega) (show ((c : Int) + 1 ≤ 9223372036854775807) by omega)]
    refine Ev.bind (implNear_ev n l c (by omega) (by omega) hb) ?_
    simp only [if_pos (show (degs n l c).length < 17592186044416 by omega)]
    rw [Int.toNat_natCast, ← degs_succ]
    exact this
def degreesOf (n : Int) (l : List S52) : List Int × Bool := if goodE n l = true then (degs n.toNat l n.toNat, true) else ([], false)
theorem degreesOf_len (n : Int) (l : List S52) : (degreesOf n l).1.length ≤ 12 := by
  unfold degreesOf
  split
  · rename_i h
    have := goodE_n h
    have := degs_len n.toNat l n.toNat
    show (degs n.toNat l n.toNat).length ≤ 12
    omega
  · simp
theorem specDegreesOf_ev (n : Int) (l : List S52) (hl : l.length ≤ 1048576) : Ev (fun k => spec_DegreesOf.f k n l) (degreesOf n l) := by
  unfold spec_DegreesOf.f degreesOf
  refine Ev.bind (specGoodE_ev n l hl) ?_
  by_cases h : goodE n l = true
  · simp only [if_pos h]
    have hn := goodE_n h
    have := specDeg_l n.toNat (by omega) l (by omega) (by rw [show ((n.toNat : Nat) : Int) = n by omega]; exact goodE_edge h) n.toNat 0 (by omega)
    rw [show ((n.toNat : Nat) : Int) = n by omega] at this
    exact this
  · simp only [if_neg h]
    exact Ev.now _
theorem implDegreesOf_ev (n : Int) (l : List S52) (hl : l.length ≤ 1048576) : Ev (fun k => impl_DegreesOf.f k n l) (degreesOf n l) := by
  unfold impl_DegreesOf.f degreesOf
  refine Ev.bind (implGoodE_ev n l hl) ?_
  by_cases h : goodE n l = true
  · simp only [if_pos h]
    have hn := goodE_n h
    have := implDeg_l n.toNat (by omega) l (by omega) n.toNat 0 (by omega)
    rw [show ((n.toNat : Nat) : Int) = n by omega] at this
    exact this
  · simp only [if_neg h]
    exact Ev.now _
end Go.Proofs.Ytpbnpepikkocmaa.P

namespace Go.Proofs.Ytpbnpepikkocmaa.P
open Go.RowKit Go.Proofs.YtpbnpepikkocmaaW.PrintWords Go.Proofs.YtpbnpepikkocmaaW.PrintLast
set_option linter.unusedVariables false
set_option linter.unusedSimpArgs false
def marksI : Nat → Int → List Int
  | 0, _ => []
  | n + 1, q => q :: marksI n (q + 1)
theorem markIntS_l (suf : List Int) : ∀ (pre : List Int) (k : Nat) (q : Int), suf.length < k → (pre.length : Int) + suf.length ≤ 1099511627776 → 0 ≤ q → q + suf.length ≤ 4611686018427387904 →
    laws_markIntS.l0 k (pre ++ suf) q (pre.length : Int) = some (q + suf.length, pre ++ marksI suf.length q) := by
  induction suf with
  | nil =>
    intro pre k q hk hb h0 h1
    obtain ⟨k, rfl⟩ : ∃ m, k = m + 1 := ⟨k - 1, by omega⟩
    simp only [laws_markIntS.l0]
    rw [if_neg (by simp)]
    simp [marksI]
  | cons x suf ih =>
    intro pre k q hk hb h0 h1
    simp only [List.length_cons] at hk hb h1
    obtain ⟨k, rfl⟩ : ∃ m, k = m + 1 := ⟨k - 1, by omega⟩
    have h := ih (pre ++ [q]) k (q + 1) (by omega) (by simp <;> omega) (by omega) (by omega)
    simp only [laws_markIntS.l0]
    rw [if_pos (by simp <;> omega), if_pos (by omega), set_mid, wrap_id (x := q + 1) (by omega) (by omega), wrap_id (x := (pre.length : Int) + 1) (by omega) (by omega)]
    rw [len_one] at h
    rw [app_one, h]
    simp only [marksI, List.length_cons, List.append_assoc, List.cons_append, List.nil_append, Option.some.injEq, Prod.mk.injEq, and_true]
    omega
theorem markIntS_ev (l : List Int) (q : Int) (hl : l.length ≤ 1099511627776) (h0 : 0 ≤ q) (h1 : q ≤ 1099511627776) : Ev (fun k => laws_markIntS.f k l q) (q + l.length, marksI l.length q) := by
  refine ⟨l.length + 1, fun k hk => ?_⟩
  show laws_markIntS.f k l q = _
  unfold laws_markIntS.f
  simpa using markIntS_l l [] k q (by omega) (by simp <;> omega) h0 (by omega)
theorem heldIntS_l (n : Nat) : ∀ (pre : List Int) (k : Nat) (q : Int), n < k → (pre.length : Int) + n ≤ 1099511627776 → 0 ≤ q → q + n ≤ 4611686018427387904 →
    laws_heldIntS.l0 k (pre ++ marksI n q) q (pre.length : Int) = some (q + n) := by
  induction n with
  | zero =>
    intro pre k q hk hb h0 h1
    obtain ⟨k, rfl⟩ : ∃ m, k = m + 1 := ⟨k - 1, by omega⟩
    simp only [laws_heldIntS.l0]
    rw [show marksI 0 q = [] from rfl, if_neg (by simp)]
    simp
  | succ n ih =>
    intro pre k q hk hb h0 h1
    obtain ⟨k, rfl⟩ : ∃ m, k = m + 1 := ⟨k - 1, by omega⟩
    have h := ih (pre ++ [q]) k (q + 1) (by omega) (by simp <;> omega) (by omega) (by omega)
    simp only [laws_heldIntS.l0]
    rw [show marksI (n + 1) q = q :: marksI n (q + 1) from rfl]
    rw [if_pos (by simp <;> omega), if_pos (by omega), rd_mid, if_pos rfl, wrap_id (x := q + 1) (by omega) (by omega), wrap_id (x := (pre.length : Int) + 1) (by omega) (by omega)]
    rw [len_one] at h
    rw [app_one, h]
    simp only [Option.some.injEq]
    omega
theorem heldIntS_ev (n : Nat) (q : Int) (hl : n ≤ 1099511627776) (h0 : 0 ≤ q) (h1 : q ≤ 1099511627776) : Ev (fun k => laws_heldIntS.f k (marksI n q) q) (q + n) := by
  refine ⟨n + 1, fun k hk => ?_⟩
  show laws_heldIntS.f k (marksI n q) q = _
  unfold laws_heldIntS.f
  exact heldIntS_l n [] k q (by omega) (by simp <;> omega) h0 (by omega)
end Go.Proofs.Ytpbnpepikkocmaa.P

namespace Go.Proofs.Ytpbnpepikkocmaa.P
open Go.RowKit Go.Proofs.YtpbnpepikkocmaaW.PrintWords Go.Proofs.YtpbnpepikkocmaaW.PrintLast
set_option linter.unusedVariables false
set_option linter.unusedSimpArgs false
def marksEdge : Nat → Int → List S52
  | 0, _ => []
  | n + 1, q => ⟨q, q + 1, q + 2⟩ :: marksEdge n (q + 3)
theorem markEdgeS_l (suf : List S52) : ∀ (pre : List S52) (k : Nat) (q : Int), suf.length < k → (pre.length : Int) + suf.length ≤ 1099511627776 → 0 ≤ q → q + 3 * suf.length ≤ 4611686018427387904 →
    laws_markEdgeS.l0 k (pre ++ suf) q (pre.length : Int) = some (q + 3 * suf.length, pre ++ marksEdge suf.length q) := by
  induction suf with
  | nil =>
    intro pre k q hk hb h0 h1
    obtain ⟨k, rfl⟩ : ∃ m, k = m + 1 := ⟨k - 1, by omega⟩
    simp only [laws_markEdgeS.l0]
    rw [if_neg (by simp)]
    simp [marksEdge]
  | cons x suf ih =>
    intro pre k q hk hb h0 h1
    simp only [List.length_cons] at hk hb h1
    obtain ⟨k, rfl⟩ : ∃ m, k = m + 1 := ⟨k - 1, by omega⟩
    have h := ih (pre ++ [⟨q, q + 1, q + 2⟩]) k (q + 3) (by omega) (by simp <;> omega) (by omega) (by omega)
    simp only [laws_markEdgeS.l0]
    rw [if_pos (by simp <;> omega), if_pos (by omega)]
    simp only [Option.bind_some, set_mid, rdEdge_mid]
    rw [wrap_id (x := q + 1) (by omega) (by omega), wrap_id (x := q + 1 + 1) (by omega) (by omega), wrap_id (x := q + 1 + 1 + 1) (by omega) (by omega), wrap_id (x := (pre.length : Int) + 1) (by omega) (by omega)]
    rw [show q + 1 + 1 = q + 2 from by omega, show q + 2 + 1 = q + 3 from by omega]
    rw [show ((pre ++ [(⟨q, q + 1, q + 2⟩ : S52)]).length : Int) = (pre.length : Int) + 1 from by simp] at h
    rw [app_one, h]
    simp only [marksEdge, List.length_cons, List.append_assoc, List.cons_append, List.nil_append, Option.some.injEq, Prod.mk.injEq, and_true]
    omega
theorem markEdgeS_ev (l : List S52) (q : Int) (hl : l.length ≤ 1099511627776) (h0 : 0 ≤ q) (h1 : q ≤ 1099511627776) : Ev (fun k => laws_markEdgeS.f k l q) (q + 3 * l.length, marksEdge l.length q) := by
  refine ⟨l.length + 1, fun k hk => ?_⟩
  show laws_markEdgeS.f k l q = _
  unfold laws_markEdgeS.f
  simpa using markEdgeS_l l [] k q (by omega) (by simp <;> omega) h0 (by omega)
end Go.Proofs.Ytpbnpepikkocmaa.P

namespace Go.Proofs.Ytpbnpepikkocmaa.Pure
open Go.RowKit Go.Proofs.Ytpbnpepikkocmaa.P Go.Proofs.YtpbnpepikkocmaaW.PrintWords Go.Proofs.YtpbnpepikkocmaaW.PrintLast
set_option linter.unusedVariables false
set_option linter.unusedSimpArgs false
theorem FnExactDegreesOf : laws_FnExactDegreesOf.Pure := by
  intro a0 l _ ⟨hm, _⟩
  refine Ev.rounds ?_
  unfold laws_FnExactDegreesOf.f
  rw [szEdgeS_is l hm 1048576 (by omega) (by omega)]
  simp only [Option.bind_some]
  by_cases h : (1048576 : Int) - l.length < 0
  · simp only [if_pos h]
    exact Ev.now _
  · have hl : l.length ≤ 1048576 := by omega
    have hl2 : (l.map cvEdge).length ≤ 1048576 := by simpa using hl
    have hr := degreesOf_len a0 (l.map cvEdge)
    simp only [if_neg h]
    refine Ev.bind (toEdgeS_ev l hl) ?_
    refine Ev.bind (specDegreesOf_ev a0 _ hl2) ?_
    refine Ev.bind (toEdgeS_ev l hl) ?_
    refine Ev.bind (implDegreesOf_ev a0 _ hl2) ?_
    have hi := implDegreesOf_ev a0 _ hl2
    generalize degreesOf a0 (l.map cvEdge) = r at hr hi
    refine Ev.bind (eqIntS_ev _ _ (by omega)) ?_
    simp only [decide_true, if_true, bne_self_eq_false]
    refine Ev.succ ?_
    simp only [laws_FnExactDegreesOf.j0, Bool.false_eq_true, if_false]
    refine Ev.bind (toEdgeS_ev l hl) ?_
    refine Ev.bind (eqEdgeS_ev _ _ (by omega)) ?_
    simp only [decide_true, if_true]
    refine Ev.bind (markEdgeS_ev _ 1 (by omega) (by omega) (by omega)) ?_
    simp only [if_neg (show ¬ (1 + 3 * ((l.map cvEdge).length : Int)) < 0 by omega)]
    refine Ev.bind (eqIntS_ev _ _ (by omega)) ?_
    simp only [decide_true, if_true, bne_self_eq_false]
    refine Ev.succ ?_
    simp only [laws_FnExactDegreesOf.j1, Bool.false_eq_true, if_false]
    refine Ev.bind (markIntS_ev _ 1 (by omega) (by omega) (by omega)) ?_
    refine Ev.bind (heldIntS_ev _ 1 (by omega) (by omega) (by omega)) ?_
    simp only [if_neg (show ¬ (1 + (r.1.length : Int)) < 0 by omega), if_true]
    refine Ev.bind (toEdgeS_ev l hl) ?_
    refine Ev.bind hi ?_
    refine Ev.bind (eqIntS_ev _ _ (by omega)) ?_
    simp only [decide_true, if_true, bne_self_eq_false]
    refine Ev.succ ?_
    simp only [laws_FnExactDegreesOf.j2, Bool.false_eq_true, if_false]
    refine Ev.bind (heldIntS_ev _ 1 (by omega) (by omega) (by omega)) ?_
    simp only [if_neg (show ¬ (1 + (r.1.length : Int)) < 0 by omega), if_true]
    exact Ev.now _
end Go.Proofs.Ytpbnpepikkocmaa.Pure
