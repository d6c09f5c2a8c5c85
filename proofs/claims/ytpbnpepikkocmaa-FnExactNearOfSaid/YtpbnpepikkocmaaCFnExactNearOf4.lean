/- Functions, walks and plain lemmas that the law FnExactNearOf reaches, part 4. -/
import Derived.Test.YtpbnpepikkocmaaCFnExactNearOf3
import Derived.WalkKit
import Derived.ProofKit
import Derived.OpenShut
import Derived.ChangeOld
import Derived.Below
import Derived.SizedLaws
import Derived.ChangeArms
import Derived.DataElems
import Derived.Deep.Draws
import Derived.Deep.AppendLies
import Derived.Maps.AppendAt
import Derived.OwnWalk
import Derived.Laws.BytesArg
import Derived.Laws.MakeOwn
import Derived.Laws.OwnMore
import Derived.Deep.OwnRows
import Derived.Tactics
import Derived.Lib.ConvBytes
import Derived.Laws.Slices
import Derived.KernelRfl
import Derived.RowKit3
import Derived.Deep.LoopGhost
import Derived.Deep.QuietTactic
import Derived.BigQuiet
import Derived.WideLaws
import Derived.Deep.DeepCutAuto
import Derived.Deep.CutBlock
import Derived.Deep.RegionHeld3
import Derived.Laws.Rows
import Derived.Lib.AppendStr
import Derived.ArgAppend
import Derived.Laws.IdiomCopy
import Derived.OrdersHeld
import Derived.Laws.BitsLemmas
import Derived.RowKit
import Derived.WalkSpells
import Derived.Lib.SliceRun
import Derived.Shelf.Abstract
import Derived.ShutString
namespace Go.Proofs.Ytpbnpepikkocmaa.P
open Go.RowKit Go.Proofs.YtpbnpepikkocmaaW.PrintWords Go.Proofs.YtpbnpepikkocmaaW.PrintLast Go.Proofs.YtpbnpepikkocmaaW.PrintMore
attribute [local go_sem] max2_int min2_int max_two min_two max_three min_three max_four min_four   -- for this text's walks alone
set_option linter.unusedVariables false
set_option linter.unusedSimpArgs false
mutual
def laws_FnExactNearOf.j0 : Nat → Int → List (S65) → Int → List Int → Bool → List (S52) → List Int → Bool → Bool → Option (Bool)
  | 0, _, _, _, _, _, _, _, _, _ => none
  | k + 1, x0, x1, x2, x8, x9, x10, x11, x12, x48 => if x48 = true then (some false) else ((laws_toEdgeS.f k x1).bind fun t451 => ((laws_eqEdgeS.f k x10 t451).bind fun t454 => (if t454 = true then ((laws_markEdgeS.f k x10 1).bind fun bt455 => (if bt455.1 < 0 then (laws_FnExactNearOf.j1 k x0 x1 x2 x8 x9 x11 true) else ((laws_eqIntS.f k x11 x8).bind fun t457 => (if t457 = true then (laws_FnExactNearOf.j1 k x0 x1 x2 x8 x9 x11 (x12 != x9)) else (laws_FnExactNearOf.j1 k x0 x1 x2 x8 x9 x11 true))))) else (some false))))
def laws_FnExactNearOf.j1 : Nat → Int → List (S65) → Int → List Int → Bool → List Int → Bool → Option (Bool)
  | 0, _, _, _, _, _, _, _ => none
  | k + 1, x0, x1, x2, x8, x9, x11, x69 => if x69 = true then (some false) else ((laws_markIntS.f k x11 1).bind fun bt458 => ((laws_heldIntS.f k bt458.2 1).bind fun t460 => (if t460 < 0 then (some false) else (if t460 = bt458.1 then ((laws_toEdgeS.f k x1).bind fun t461 => ((impl_NearOf.f k x0 t461 x2).bind fun bt464 => ((laws_eqIntS.f k bt464.1 x8).bind fun t468 => (if t468 = true then (laws_FnExactNearOf.j2 k bt458.2 bt458.1 (bt464.2 != x9)) else (laws_FnExactNearOf.j2 k bt458.2 bt458.1 true))))) else (some false)))))
def laws_FnExactNearOf.j2 : Nat → List Int → Int → Bool → Option (Bool)
  | 0, _, _, _ => none
  | k + 1, x11, x14, x97 => if x97 = true then (some false) else ((laws_heldIntS.f k x11 1).bind fun t469 => (if t469 < 0 then (some false) else (if t469 = x14 then (some true) else (some false))))
end
def laws_FnExactNearOf.f (k : Nat) (a0 : Int) (l1 : List (S65)) (a2 : Int) : Option (Bool) := (laws_szEdgeS.f l1 1048576).bind fun t435 => (if t435 < 0 then (some true) else ((laws_toEdgeS.f k l1).bind fun t436 => ((spec_NearOf.f k a0 t436 a2).bind fun bt439 => ((laws_toEdgeS.f k l1).bind fun t443 => ((impl_NearOf.f k a0 t443 a2).bind fun bt446 => ((laws_eqIntS.f k bt446.1 bt439.1).bind fun t450 => (if t450 = true then (laws_FnExactNearOf.j0 k a0 l1 a2 bt439.1 bt439.2 t443 bt446.1 bt446.2 (bt446.2 != bt439.2)) else (laws_FnExactNearOf.j0 k a0 l1 a2 bt439.1 bt439.2 t443 bt446.1 bt446.2 true))))))))
set_option maxHeartbeats 8000000 in
set_option maxRecDepth 100000 in
theorem laws_FnExactNearOf.calls (k : Nat) (a0 : Int) (A1 : Option Addr) (c1 : Nat) (l1 : List (S65)) (a2 : Int) (r : Bool) (w : World) (hr1 : Kd.C k65 w A1 l1.length l1) (hc1 : l1.length ≤ c1) (h : laws_FnExactNearOf.f k a0 l1 a2 = some r) :
    Calls Try.prog 7 #[.int .i64 a0, .slice A1 l1.length c1, .int .i64 a2] w fun e w' => e = .returned (.bool r) ∧ Below w.heap.size w w' := by
  have HR1 := Aside0.mk hr1
  have HC1 := Aside0.mk hc1
  clear hr1 hc1
  have HB := Aside0.mk (Below.refl w.heap.size w)
  have H : ((laws_szEdgeS.f l1 1048576).bind fun t435 => (if t435 < 0 then (some true) else ((laws_toEdgeS.f k l1).bind fun t436 => ((spec_NearOf.f k a0 t436 a2).bind fun bt439 => ((laws_toEdgeS.f k l1).bind fun t443 => ((impl_NearOf.f k a0 t443 a2).bind fun bt446 => ((laws_eqIntS.f k bt446.1 bt439.1).bind fun t450 => (if t450 = true then (laws_FnExactNearOf.j0 k a0 l1 a2 bt439.1 bt439.2 t443 bt446.1 bt446.2 (bt446.2 != bt439.2)) else (laws_FnExactNearOf.j0 k a0 l1 a2 bt439.1 bt439.2 t443 bt446.1 bt446.2 true))))))))) = some r := h
  clear h
  replace H := Option.bind_eq_some_iff.mp H
  obtain ⟨t435, A40, H⟩ := H
  replace H : (if t435 < 0 then (some true) else ((laws_toEdgeS.f k l1).bind fun t436 => ((spec_NearOf.f k a0 t436 a2).bind fun bt439 => ((laws_toEdgeS.f k l1).bind fun t443 => ((impl_NearOf.f k a0 t443 a2).bind fun bt446 => ((laws_eqIntS.f k bt446.1 bt439.1).bind fun t450 => (if t450 = true then (laws_FnExactNearOf.j0 k a0 l1 a2 bt439.1 bt439.2 t443 bt446.1 bt446.2 (bt446.2 != bt439.2)) else (laws_FnExactNearOf.j0 k a0 l1 a2 bt439.1 bt439.2 t443 bt446.1 bt446.2 true)))))))) = some r := H
  have A4 := Aside0.mk A40
  clear A40
  by_cases c5 : t435 < 0
  · rw [if_pos c5] at H
    have c5b0 : decide (t435 < 0) = true := decide_eq_true c5
    clear c5
    obtain rfl := Option.some.inj H
    go_enter Try.func7, Try.ntmps7
    go_wp2_with (first | ((with_reducible refine gate_callee (f := 10) rfl ?_); refine goesL_ (some 20) rfl rfl Try.func10 (by kernel_rfl) rfl #[.slice A1 l1.length c1, .int .i64 1048576] rfl (by (try simp only [List.map_toArray, List.map_cons, List.map_nil]); first | done | rfl | (simp only [List.length_drop, List.length_take]; rfl)) ?_; (with_reducible refine (laws_szEdgeS.calls _ _ l1 1048576 t435 _ ?side1 ?side2 A4.out).mono ?_); (case side1 => repeat (first | exact HR1.out | (with_reducible refine Kd.C_alloc ?_ _) | (with_reducible refine Kd.C_drewN ?_ _) | (with_reducible refine Kd.C_drew ?_))); (case side2 => exact HC1.out); rintro e w' ⟨rfl, ⟨nd, rfl⟩⟩; refine ⟨_, rfl, ?_⟩))
    go_ret
    exact ⟨by first | rfl | (simp [errW_none, errW_some] <;> rfl) | (simp [*, errW_none, errW_some] <;> rfl), by repeat (first | (with_reducible first | exact HB.out | apply below_alloc | apply pw_below_drewN | apply below_drew1) | exact HB.out)⟩
  · rw [if_neg c5] at H
    have c5b0 : decide (t435 < 0) = false := decide_eq_false c5
    clear c5
    replace H := Option.bind_eq_some_iff.mp H
    obtain ⟨t436, A60, H⟩ := H
    replace H : ((spec_NearOf.f k a0 t436 a2).bind fun bt439 => ((laws_toEdgeS.f k l1).bind fun t443 => ((impl_NearOf.f k a0 t443 a2).bind fun bt446 => ((laws_eqIntS.f k bt446.1 bt439.1).bind fun t450 => (if t450 = true then (laws_FnExactNearOf.j0 k a0 l1 a2 bt439.1 bt439.2 t443 bt446.1 bt446.2 (bt446.2 != bt439.2)) else (laws_FnExactNearOf.j0 k a0 l1 a2 bt439.1 bt439.2 t443 bt446.1 bt446.2 true)))))) = some r := H
    have A6 := Aside0.mk A60
    clear A60
    replace H := Option.bind_eq_some_iff.mp H
    obtain ⟨⟨t439, t440⟩, A70, H⟩ := H
    replace H : ((laws_toEdgeS.f k l1).bind fun t443 => ((impl_NearOf.f k a0 t443 a2).bind fun bt446 => ((laws_eqIntS.f k bt446.1 t439).bind fun t450 => (if t450 = true then (laws_FnExactNearOf.j0 k a0 l1 a2 t439 t440 t443 bt446.1 bt446.2 (bt446.2 != t440)) else (laws_FnExactNearOf.j0 k a0 l1 a2 t439 t440 t443 bt446.1 bt446.2 true))))) = some r := H
    have A7 := Aside0.mk A70
    clear A70
    replace H := Option.bind_eq_some_iff.mp H
    obtain ⟨t443, A80, H⟩ := H
    replace H : ((impl_NearOf.f k a0 t443 a2).bind fun bt446 => ((laws_eqIntS.f k bt446.1 t439).bind fun t450 => (if t450 = true then (laws_FnExactNearOf.j0 k a0 l1 a2 t439 t440 t443 bt446.1 bt446.2 (bt446.2 != t440)) else (laws_FnExactNearOf.j0 k a0 l1 a2 t439 t440 t443 bt446.1 bt446.2 true)))) = some r := H
    have A8 := Aside0.mk A80
    clear A80
    replace H := Option.bind_eq_some_iff.mp H
    obtain ⟨⟨t446, t447⟩, A90, H⟩ := H
    replace H : ((laws_eqIntS.f k t446 t439).bind fun t450 => (if t450 = true then (laws_FnExactNearOf.j0 k a0 l1 a2 t439 t440 t443 t446 t447 (t447 != t440)) else (laws_FnExactNearOf.j0 k a0 l1 a2 t439 t440 t443 t446 t447 true))) = some r := H
    have A9 := Aside0.mk A90
    clear A90
    have HC10 := Aside0.mk H
    clear H
    go_enter Try.func7, Try.ntmps7
    go_upto_region 8 with (first | ((with_reducible refine gate_callee (f := 10) rfl ?_); refine goesL_ (some 20) rfl rfl Try.func10 (by kernel_rfl) rfl #[.slice A1 l1.length c1, .int .i64 1048576] rfl (by (try simp only [List.map_toArray, List.map_cons, List.map_nil]); first | done | rfl | (simp only [List.length_drop, List.length_take]; rfl)) ?_; (with_reducible refine (laws_szEdgeS.calls _ _ l1 1048576 t435 _ ?side1 ?side2 A4.out).mono ?_); (case side1 => repeat (first | exact HR1.out | (with_reducible refine Kd.C_alloc ?_ _) | (with_reducible refine Kd.C_drewN ?_ _) | (with_reducible refine Kd.C_drew ?_))); (case side2 => exact HC1.out); rintro e w' ⟨rfl, ⟨nd, rfl⟩⟩; refine ⟨_, rfl, ?_⟩) | ((with_reducible refine gate_callee (f := 12) rfl ?_); refine goesL_ (some 26) rfl rfl Try.func12 (by kernel_rfl) rfl #[.slice A1 l1.length c1] rfl (by (try simp only [List.map_toArray, List.map_cons, List.map_nil]); first | done | rfl | (simp only [List.length_drop, List.length_take]; rfl)) ?_; (with_reducible refine (laws_toEdgeS.calls k _ _ l1 t436 _ ?side1 ?side2 A6.out).mono ?_); (case side1 => repeat (first | exact HR1.out | (with_reducible refine Kd.C_alloc ?_ _) | (with_reducible refine Kd.C_drewN ?_ _) | (with_reducible refine Kd.C_drew ?_))); (case side2 => exact HC1.out); rintro e w11 ⟨v437, rfl, ho0, hb⟩; refine ⟨_, rfl, ?_⟩; have n0_ := Aside0.mk (Kd.R_lower ho0 (below_size (by repeat (first | (with_reducible first | exact HB.out | apply below_alloc | apply pw_below_drewN | apply below_drew1) | exact HB.out)))); have n1_ := Aside0.mk (below_step (by repeat (first | (with_reducible first | exact HB.out | apply below_alloc | apply pw_below_drewN | apply below_drew1) | exact HB.out)) hb); clear HB; have HO438 := n0_; have HB := n1_; clear n0_ n1_; (try clear hb); (try clear hb2); (try clear hk); (try clear hi); (try clear ho0); obtain ⟨Ao12, co12, eo12⟩ := Kd.R_slice HO438.out; subst eo12) | ((with_reducible refine gate_callee (f := 30) rfl ?_); refine goesL_ (some 28) rfl rfl Try.func30 (by kernel_rfl) rfl #[.int .i64 a0, .slice Ao12 t436.length co12, .int .i64 a2] rfl (by (try simp only [List.map_toArray, List.map_cons, List.map_nil]); first | done | rfl | (simp only [List.length_drop, List.length_take]; rfl)) ?_; (with_reducible refine (spec_NearOf.calls k a0 _ _ t436 a2 t439 t440 _ ?side1 ?side2 A7.out).mono ?_); (case side1 => repeat (first | exact (Kd.R_reads' HO438.out).2.2 | (with_reducible refine Kd.C_alloc ?_ _) | (with_reducible refine Kd.C_drewN ?_ _) | (with_reducible refine Kd.C_drew ?_))); (case side2 => exact (Kd.R_reads' HO438.out).2.1); rintro e w13 ⟨v441, rfl, ho0, hb⟩; refine ⟨_, rfl, ?_⟩; have n0_ := Aside0.mk (Kd.R_below (by (with_reducible repeat (first | apply Kd.R_alloc | apply Kd.R_drewN | apply Kd.R_drew)); exact HO438.out) hb); have n1_ := Aside0.mk (Kd.R_lower ho0 (below_size (by repeat (first | (with_reducible first | exact HB.out | apply below_alloc | apply pw_below_drewN | apply below_drew1) | exact HB.out)))); have n2_ := Aside0.mk (below_step (by repeat (first | (with_reducible first | exact HB.out | apply below_alloc | apply pw_below_drewN | apply below_drew1) | exact HB.out)) hb); clear HO438; clear HB; have HO438 := n0_; have HO442 := n1_; have HB := n2_; clear n0_ n1_ n2_; (try clear hb); (try clear hb2); (try clear hk); (try clear hi); (try clear ho0)) | ((with_reducible refine gate_callee (f := 12) rfl ?_); refine goesL_ (some 32) rfl rfl Try.func12 (by kernel_rfl) rfl #[.slice A1 l1.length c1] rfl (by (try simp only [List.map_toArray, List.map_cons, List.map_nil]); first | done | rfl | (simp only [List.length_drop, List.length_take]; rfl)) ?_; (with_reducible refine (laws_toEdgeS.calls k _ _ l1 t443 _ ?side1 ?side2 A8.out).mono ?_); (case side1 => repeat (first | exact (Kd.C_below HR1.out HB.out) | (with_reducible refine Kd.C_alloc ?_ _) | (with_reducible refine Kd.C_drewN ?_ _) | (with_reducible refine Kd.C_drew ?_))); (case side2 => exact HC1.out); rintro e w14 ⟨v444, rfl, ho0, hb⟩; refine ⟨_, rfl, ?_⟩; have n0_ := Aside0.mk (Kd.R_elder' (by (with_reducible repeat (first | apply Kd.R_alloc | apply Kd.R_drewN | apply Kd.R_drew)); exact HO438.out) (Kd.R_base ho0) hb); have n1_ := Aside0.mk (Kd.R_below (by (with_reducible repeat (first | apply Kd.R_alloc | apply Kd.R_drewN | apply Kd.R_drew)); exact HO442.out) hb); have n2_ := Aside0.mk (Kd.R_lower (Kd.R_new' ho0 (Kd.R_lt (by (with_reducible repeat (first | apply Kd.R_alloc | apply Kd.R_drewN | apply Kd.R_drew)); exact HO438.out))) (below_size (by repeat (first | (with_reducible first | exact HB.out | apply below_alloc | apply pw_below_drewN | apply below_drew1) | exact HB.out)))); have n3_ := Aside0.mk (below_step (by repeat (first | (with_reducible first | exact HB.out | apply below_alloc | apply pw_below_drewN | apply below_drew1) | exact HB.out)) hb); clear HO438; clear HO442; clear HB; have HO438 := n0_; have HO442 := n1_; have HO445 := n2_; have HB := n3_; clear n0_ n1_ n2_ n3_; (try clear hb); (try clear hb2); (try clear hk); (try clear hi); (try clear ho0); obtain ⟨Ao15, co15, eo15⟩ := Kd.R_slice HO445.out; subst eo15) | ((with_reducible refine gate_callee (f := 31) rfl ?_); refine goesL_ (some 37) rfl rfl Try.func31 (by kernel_rfl) rfl #[.int .i64 a0, .slice Ao15 t443.length co15, .int .i64 a2] rfl (by (try simp only [List.map_toArray, List.map_cons, List.map_nil]); first | done | rfl | (simp only [List.length_drop, List.length_take]; rfl)) ?_; (with_reducible refine (impl_NearOf.calls k a0 _ _ t443 a2 t446 t447 _ ?side1 ?side2 A9.out).mono ?_); (case side1 => repeat (first | exact (Kd.R_reads' HO445.out).2.2 | (with_reducible refine Kd.C_alloc ?_ _) | (with_reducible refine Kd.C_drewN ?_ _) | (with_reducible refine Kd.C_drew ?_))); (case side2 => exact (Kd.R_reads' HO445.out).2.1); rintro e w16 ⟨v448, rfl, ho0, hb⟩; refine ⟨_, rfl, ?_⟩; have n0_ := Aside0.mk (Kd.R_below (by (with_reducible repeat (first | apply Kd.R_alloc | apply Kd.R_drewN | apply Kd.R_drew)); exact HO438.out) hb); have n1_ := Aside0.mk (Kd.R_elder' (by (with_reducible repeat (first | apply Kd.R_alloc | apply Kd.R_drewN | apply Kd.R_drew)); exact HO442.out) (Kd.R_base ho0) hb); have n2_ := Aside0.mk (Kd.R_below (by (with_reducible repeat (first | apply Kd.R_alloc | apply Kd.R_drewN | apply Kd.R_drew)); exact HO445.out) hb); have n3_ := Aside0.mk (Kd.R_lower (Kd.R_new' ho0 (Kd.R_lt (by (with_reducible repeat (first | apply Kd.R_alloc | apply Kd.R_drewN | apply Kd.R_drew)); exact HO442.out))) (below_size (by repeat (first | (with_reducible first | exact HB.out | apply below_alloc | apply pw_below_drewN | apply below_drew1) | exact HB.out)))); have n4_ := Aside0.mk (below_step (by repeat (first | (with_reducible first | exact HB.out | apply below_alloc | apply pw_below_drewN | apply below_drew1) | exact HB.out)) hb); clear HO438; clear HO442; clear HO445; clear HB; have HO438 := n0_; have HO442 := n1_; have HO445 := n2_; have HO449 := n3_; have HB := n4_; clear n0_ n1_ n2_ n3_ n4_; (try clear hb); (try clear hb2); (try clear hk); (try clear hi); (try clear ho0)))
    (try simp only [Act.put, List.setIfInBounds_toArray, List.set_cons_zero, List.set_cons_succ])
    go_cut [48] (fun v48 wc => ∃ (kq : Nat) (x48_9 : Bool), v48 = .bool x48_9 ∧ Aside0 (laws_FnExactNearOf.j0 kq a0 l1 a2 t439 t440 t443 t446 t447 x48_9 = some r) ∧ Aside0 (kq ≤ k) ∧ Aside0 (Kd.R (Kd.int .i64) 3 wc w.heap.size (fun k_ => some k_ ≠ (v448 : Value).ownBlock) v441 t439) ∧ Aside0 (Kd.R k52 52 wc w.heap.size (fun _ => True) (.slice Ao15 t443.length co15) t443) ∧ Aside0 (Kd.R (Kd.int .i64) 3 wc w.heap.size (fun k_ => some k_ ≠ (v441 : Value).ownBlock) v448 t446) ∧ Aside0 (Below w.heap.size w wc))
    case first =>
      have H := HC10.out
      clear HC10
      replace H := Option.bind_eq_some_iff.mp H
      obtain ⟨t450, A170, H⟩ := H
      replace H : (if t450 = true then (laws_FnExactNearOf.j0 k a0 l1 a2 t439 t440 t443 t446 t447 (t447 != t440)) else (laws_FnExactNearOf.j0 k a0 l1 a2 t439 t440 t443 t446 t447 true)) = some r := H
      have A17 := Aside0.mk A170
      clear A170
      by_cases c18 : t450 = true
      · subst c18
        have H1 : (laws_FnExactNearOf.j0 k a0 l1 a2 t439 t440 t443 t446 t447 (t447 != t440)) = some r := by rw [if_pos rfl] at H; exact H
        clear H
        have H := H1
        clear H1
        have H' := Aside0.mk H
        clear H
        obtain ⟨Ao19, co19, eo19⟩ := Kd.R_slice HO449.out
        subst eo19
        obtain ⟨Ao20, co20, eo20⟩ := Kd.R_slice HO442.out
        subst eo20
        go_wp2_with (first | ((with_reducible refine gate_callee (f := 17) rfl ?_); refine goesL_ (some 42) rfl rfl Try.func17 (by kernel_rfl) rfl #[.slice Ao19 t446.length co19, .slice Ao20 t439.length co20] rfl (by (try simp only [List.map_toArray, List.map_cons, List.map_nil]); first | done | rfl | (simp only [List.length_drop, List.length_take]; rfl)) ?_; (with_reducible refine (laws_eqIntS.calls k _ _ t446 _ _ t439 true _ ?side1 ?side2 ?side3 ?side4 A17.out).mono ?_); (case side1 => repeat (first | exact (Kd.R_reads' HO449.out).2.2 | (with_reducible refine Kd.C_alloc ?_ _) | (with_reducible refine Kd.C_drewN ?_ _) | (with_reducible refine Kd.C_drew ?_))); (case side2 => exact (Kd.R_reads' HO449.out).2.1); (case side3 => repeat (first | exact (Kd.R_reads' HO442.out).2.2 | (with_reducible refine Kd.C_alloc ?_ _) | (with_reducible refine Kd.C_drewN ?_ _) | (with_reducible refine Kd.C_drew ?_))); (case side4 => exact (Kd.R_reads' HO442.out).2.1); rintro e w' ⟨rfl, ⟨nd, rfl⟩⟩; refine ⟨_, rfl, ?_⟩))
        go_meet
        case rel => exact ⟨_, ((t447 != t440)), (by first | rfl | (simp; done) | (simp [*]; done)), H', ⟨by first | omega | exact Nat.le_refl _⟩, ⟨by (with_reducible repeat (first | apply Kd.R_alloc | apply Kd.R_drewN | apply Kd.R_drew)); exact Kd.R_mono HO442.out (fun _ hk => hk.2)⟩, ⟨by (with_reducible repeat (first | apply Kd.R_alloc | apply Kd.R_drewN | apply Kd.R_drew)); exact Kd.R_mono HO445.out (fun _ hk => trivial)⟩, ⟨by (with_reducible repeat (first | apply Kd.R_alloc | apply Kd.R_drewN | apply Kd.R_drew)); exact Kd.R_mono HO449.out (fun _ hk => hk.2)⟩, ⟨by repeat (first | (with_reducible first | exact HB.out | apply below_alloc | apply pw_below_drewN | apply below_drew1) | exact HB.out)⟩⟩
      · replace c18 := Bool.eq_false_iff.mpr c18
        subst c18
        have H1 : (laws_FnExactNearOf.j0 k a0 l1 a2 t439 t440 t443 t446 t447 true) = some r := by rw [if_neg (show ¬ (false = true) by decide)] at H; exact H
        clear H
        have H := H1
        clear H1
        have H' := Aside0.mk H
        clear H
        obtain ⟨Ao21, co21, eo21⟩ := Kd.R_slice HO449.out
        subst eo21
        obtain ⟨Ao22, co22, eo22⟩ := Kd.R_slice HO442.out
        subst eo22
        go_wp2_with (first | ((with_reducible refine gate_callee (f := 17) rfl ?_); refine goesL_ (some 42) rfl rfl Try.func17 (by kernel_rfl) rfl #[.slice Ao21 t446.length co21, .slice Ao22 t439.length co22] rfl (by (try simp only [List.map_toArray, List.map_cons, List.map_nil]); first | done | rfl | (simp only [List.length_drop, List.length_take]; rfl)) ?_; (with_reducible refine (laws_eqIntS.calls k _ _ t446 _ _ t439 false _ ?side1 ?side2 ?side3 ?side4 A17.out).mono ?_); (case side1 => repeat (first | exact (Kd.R_reads' HO449.out).2.2 | (with_reducible refine Kd.C_alloc ?_ _) | (with_reducible refine Kd.C_drewN ?_ _) | (with_reducible refine Kd.C_drew ?_))); (case side2 => exact (Kd.R_reads' HO449.out).2.1); (case side3 => repeat (first | exact (Kd.R_reads' HO442.out).2.2 | (with_reducible refine Kd.C_alloc ?_ _) | (with_reducible refine Kd.C_drewN ?_ _) | (with_reducible refine Kd.C_drew ?_))); (case side4 => exact (Kd.R_reads' HO442.out).2.1); rintro e w' ⟨rfl, ⟨nd, rfl⟩⟩; refine ⟨_, rfl, ?_⟩))
        go_meet
        case rel => exact ⟨_, (true), (by first | rfl | (simp; done) | (simp [*]; done)), H', ⟨by first | omega | exact Nat.le_refl _⟩, ⟨by (with_reducible repeat (first | apply Kd.R_alloc | apply Kd.R_drewN | apply Kd.R_drew)); exact Kd.R_mono HO442.out (fun _ hk => hk.2)⟩, ⟨by (with_reducible repeat (first | apply Kd.R_alloc | apply Kd.R_drewN | apply Kd.R_drew)); exact Kd.R_mono HO445.out (fun _ hk => trivial)⟩, ⟨by (with_reducible repeat (first | apply Kd.R_alloc | apply Kd.R_drewN | apply Kd.R_drew)); exact Kd.R_mono HO449.out (fun _ hk => hk.2)⟩, ⟨by repeat (first | (with_reducible first | exact HB.out | apply below_alloc | apply pw_below_drewN | apply below_drew1) | exact HB.out)⟩⟩
    case rest =>
      clear HC10
      try clear c1
      try clear p2
      try clear c3
      try clear c5
      try clear c5b0
      try clear c7
      try clear c10
      try clear c12
      try clear c17
      try clear c18
      obtain ⟨kq, x48_9, rfl, HA, HJ9, HO_8, HO_10, HO_11, HB⟩ := hcut
      cases kq with
      | zero => exact absurd HA.out (by simp [laws_FnExactNearOf.j0])
      | succ kj9 =>
        have H := HA.out
        clear HA
        simp only [laws_FnExactNearOf.j0] at H
        by_cases c23 : x48_9 = true
        · subst c23
          have H1 : (some false) = some r := by rw [if_pos rfl] at H; exact H
          clear H
          have H := H1
          clear H1
          obtain rfl := Option.some.inj H
          go_wp2
          go_ret
          exact ⟨by first | rfl | (simp [errW_none, errW_some] <;> rfl) | (simp [*, errW_none, errW_some] <;> rfl), by repeat (first | (with_reducible first | exact HB.out | apply below_alloc | apply pw_below_drewN | apply below_drew1) | exact HB.out)⟩
        · replace c23 := Bool.eq_false_iff.mpr c23
          subst c23
          have H1 : ((laws_toEdgeS.f kj9 l1).bind fun t451 => ((laws_eqEdgeS.f kj9 t443 t451).bind fun t454 => (if t454 = true then ((laws_markEdgeS.f kj9 t443 1).bind fun bt455 => (if bt455.1 < 0 then (laws_FnExactNearOf.j1 kj9 a0 l1 a2 t439 t440 t446 true) else ((laws_eqIntS.f kj9 t446 t439).bind fun t457 => (if t457 = true then (laws_FnExactNearOf.j1 kj9 a0 l1 a2 t439 t440 t446 (t447 != t440)) else (laws_FnExactNearOf.j1 kj9 a0 l1 a2 t439 t440 t446 true))))) else (some false)))) = some r := by rw [if_neg (show ¬ (false = true) by decide)] at H; exact H
          clear H
          have H := H1
          clear H1
          replace H := Option.bind_eq_some_iff.mp H
          obtain ⟨t451, A240, H⟩ := H
          replace H : ((laws_eqEdgeS.f kj9 t443 t451).bind fun t454 => (if t454 = true then ((laws_markEdgeS.f kj9 t443 1).bind fun bt455 => (if bt455.1 < 0 then (laws_FnExactNearOf.j1 kj9 a0 l1 a2 t439 t440 t446 true) else ((laws_eqIntS.f kj9 t446 t439).bind fun t457 => (if t457 = true then (laws_FnExactNearOf.j1 kj9 a0 l1 a2 t439 t440 t446 (t447 != t440)) else (laws_FnExactNearOf.j1 kj9 a0 l1 a2 t439 t440 t446 true))))) else (some false))) = some r := H
          have A24 := Aside0.mk A240
          clear A240
          replace H := Option.bind_eq_some_iff.mp H
          obtain ⟨t454, A250, H⟩ := H
          replace H : (if t454 = true then ((laws_markEdgeS.f kj9 t443 1).bind fun bt455 => (if bt455.1 < 0 then (laws_FnExactNearOf.j1 kj9 a0 l1 a2 t439 t440 t446 true) else ((laws_eqIntS.f kj9 t446 t439).bind fun t457 => (if t457 = true then (laws_FnExactNearOf.j1 kj9 a0 l1 a2 t439 t440 t446 (t447 != t440)) else (laws_FnExactNearOf.j1 kj9 a0 l1 a2 t439 t440 t446 true))))) else (some false)) = some r := H
          have A25 := Aside0.mk A250
          clear A250
          by_cases c26 : t454 = true
          · subst c26
            have H1 : ((laws_markEdgeS.f kj9 t443 1).bind fun bt455 => (if bt455.1 < 0 then (laws_FnExactNearOf.j1 kj9 a0 l1 a2 t439 t440 t446 true) else ((laws_eqIntS.f kj9 t446 t439).bind fun t457 => (if t457 = true then (laws_FnExactNearOf.j1 kj9 a0 l1 a2 t439 t440 t446 (t447 != t440)) else (laws_FnExactNearOf.j1 kj9 a0 l1 a2 t439 t440 t446 true))))) = some r := by rw [if_pos rfl] at H; exact H
            clear H
            have H := H1
            clear H1
            replace H := Option.bind_eq_some_iff.mp H
            obtain ⟨⟨t455, t456⟩, A270, H⟩ := H
            replace H : (if t455 < 0 then (laws_FnExactNearOf.j1 kj9 a0 l1 a2 t439 t440 t446 true) else ((laws_eqIntS.f kj9 t446 t439).bind fun t457 => (if t457 = true then (laws_FnExactNearOf.j1 kj9 a0 l1 a2 t439 t440 t446 (t447 != t440)) else (laws_FnExactNearOf.j1 kj9 a0 l1 a2 t439 t440 t446 true)))) = some r := H
            have A27 := Aside0.mk A270
            clear A270
            have HC28 := Aside0.mk H
            clear H
            go_upto_region 14 with (first | ((with_reducible refine gate_callee (f := 12) rfl ?_); refine goesL_ (some 51) rfl rfl Try.func12 (by kernel_rfl) rfl #[.slice A1 l1.length c1] rfl (by (try simp only [List.map_toArray, List.map_cons, List.map_nil]); first | done | rfl | (simp only [List.length_drop, List.length_take]; rfl)) ?_; (with_reducible refine (laws_toEdgeS.calls kj9 _ _ l1 t451 _ ?side1 ?side2 A24.out).mono ?_); (case side1 => repeat (first | exact (Kd.C_below HR1.out HB.out) | (with_reducible refine Kd.C_alloc ?_ _) | (with_reducible refine Kd.C_drewN ?_ _) | (with_reducible refine Kd.C_drew ?_))); (case side2 => exact HC1.out); rintro e w29 ⟨v452, rfl, ho0, hb⟩; refine ⟨_, rfl, ?_⟩; have n0_ := Aside0.mk (Kd.R_below (by (with_reducible repeat (first | apply Kd.R_alloc | apply Kd.R_drewN | apply Kd.R_drew)); exact HO_8.out) hb); have n1_ := Aside0.mk (Kd.R_elder' (by (with_reducible repeat (first | apply Kd.R_alloc | apply Kd.R_drewN | apply Kd.R_drew)); exact HO_10.out) (Kd.R_base ho0) hb); have n2_ := Aside0.mk (Kd.R_below (by (with_reducible repeat (first | apply Kd.R_alloc | apply Kd.R_drewN | apply Kd.R_drew)); exact HO_11.out) hb); have n3_ := Aside0.mk (Kd.R_lower (Kd.R_new' ho0 (Kd.R_lt (by (with_reducible repeat (first | apply Kd.R_alloc | apply Kd.R_drewN | apply Kd.R_drew)); exact HO_10.out))) (below_size (by repeat (first | (with_reducible first | exact HB.out | apply below_alloc | apply pw_below_drewN | apply below_drew1) | exact HB.out)))); have n4_ := Aside0.mk (below_step (by repeat (first | (with_reducible first | exact HB.out | apply below_alloc | apply pw_below_drewN | apply below_drew1) | exact HB.out)) hb); clear HO_8; clear HO_10; clear HO_11; clear HB; have HO_8 := n0_; have HO_10 := n1_; have HO_11 := n2_; have HO453 := n3_; have HB := n4_; clear n0_ n1_ n2_ n3_ n4_; (try clear hb); (try clear hb2); (try clear hk); (try clear hi); (try clear ho0); obtain ⟨Ao30, co30, eo30⟩ := Kd.R_slice HO453.out; subst eo30) | ((with_reducible refine gate_callee (f := 14) rfl ?_); refine goesL_ (some 52) rfl rfl Try.func14 (by kernel_rfl) rfl #[.slice Ao15 t443.length co15, .slice Ao30 t451.length co30] rfl (by (try simp only [List.map_toArray, List.map_cons, List.map_nil]); first | done | rfl | (simp only [List.length_drop, List.length_take]; rfl)) ?_; (with_reducible refine (laws_eqEdgeS.calls kj9 _ _ t443 _ _ t451 true _ ?side1 ?side2 ?side3 ?side4 A25.out).mono ?_); (case side1 => repeat (first | exact (Kd.R_reads' HO_10.out).2.2 | (with_reducible refine Kd.C_alloc ?_ _) | (with_reducible refine Kd.C_drewN ?_ _) | (with_reducible refine Kd.C_drew ?_))); (case side2 => exact (Kd.R_reads' HO_10.out).2.1); (case side3 => repeat (first | exact (Kd.R_reads' HO453.out).2.2 | (with_reducible refine Kd.C_alloc ?_ _) | (with_reducible refine Kd.C_drewN ?_ _) | (with_reducible refine Kd.C_drew ?_))); (case side4 => exact (Kd.R_reads' HO453.out).2.1); rintro e w31 ⟨rfl, hb⟩; refine ⟨_, rfl, ?_⟩; have n0_ := Aside0.mk (Kd.R_below (by (with_reducible repeat (first | apply Kd.R_alloc | apply Kd.R_drewN | apply Kd.R_drew)); exact HO_8.out) hb); have n1_ := Aside0.mk (Kd.R_below (by (with_reducible repeat (first | apply Kd.R_alloc | apply Kd.R_drewN | apply Kd.R_drew)); exact HO_10.out) hb); have n2_ := Aside0.mk (Kd.R_below (by (with_reducible repeat (first | apply Kd.R_alloc | apply Kd.R_drewN | apply Kd.R_drew)); exact HO_11.out) hb); have n3_ := Aside0.mk (Kd.R_below (by (with_reducible repeat (first | apply Kd.R_alloc | apply Kd.R_drewN | apply Kd.R_drew)); exact HO453.out) hb); have n4_ := Aside0.mk (below_step (by repeat (first | (with_reducible first | exact HB.out | apply below_alloc | apply pw_below_drewN | apply below_drew1) | exact HB.out)) hb); clear HO_8; clear HO_10; clear HO_11; clear HO453; clear HB; have HO_8 := n0_; have HO_10 := n1_; have HO_11 := n2_; have HO453 := n3_; have HB := n4_; clear n0_ n1_ n2_ n3_ n4_; (try clear hb); (try clear hb2); (try clear hk); (try clear hi)) | ((with_reducible refine gate_callee (f := 18) rfl ?_); refine goesL_ (some 56) rfl rfl Try.func18 (by kernel_rfl) rfl #[.slice Ao15 t443.length co15, .int .i64 1] rfl (by (try simp only [List.map_toArray, List.map_cons, List.map_nil]); first | done | rfl | (simp only [List.length_drop, List.length_take]; rfl)) ?_; (with_reducible refine (laws_markEdgeS.calls kj9 (fun k_ => some k_ = (.slice Ao15 t443.length co15 : Value).ownBlock) (.slice Ao15 t443.length co15) t443 1 t455 t456 w _ ?side1 ?side2 A27.out).mono ?_); (case side1 => repeat (first | (with_reducible first | exact HB.out | apply below_alloc | apply pw_below_drewN | apply below_drew1) | exact HB.out)); (case side2 => exact Kd.R_tight rfl HO_10.out); rintro e w32 ⟨rfl, hy0, hb, hkp⟩; refine ⟨_, rfl, ?_⟩; have n0_ := Aside0.mk (Kd.R_mono (ok' := fun k_ => some k_ ≠ (v448 : Value).ownBlock) (Kd.R_keptB ((Kd.R_apart' HO_8.out (Kd.R_typed HO_10.out) (by decide))) hkp (fun k_ hk_ hs_ => (hk_.2) hs_)) (fun k_ hk_ => hk_.1.1)); have n1_ := Aside0.mk (Kd.R_reok rfl hy0 (fun k_ e_ => HO_10.out.1 k_ e_)); have n2_ := Aside0.mk (Kd.R_mono (ok' := fun k_ => some k_ ≠ (v441 : Value).ownBlock) (Kd.R_keptB ((Kd.R_apart' HO_11.out (Kd.R_typed HO_10.out) (by decide))) hkp (fun k_ hk_ hs_ => (hk_.2) hs_)) (fun k_ hk_ => hk_.1.1)); have n3_ := Aside0.mk (Kd.R_mono (ok' := fun k_ => some k_ ≠ (.slice Ao15 t443.length co15 : Value).ownBlock) (Kd.R_keptB (HO453.out) hkp (fun k_ hk_ hs_ => (hk_.2) hs_)) (fun k_ hk_ => hk_.1.2)); have n4_ := Aside0.mk (hb); clear HO_8; clear HO_10; clear HO_11; clear HO453; clear HB; have HO_8 := n0_; have HO_10 := n1_; have HO_11 := n2_; have HO453 := n3_; have HB := n4_; clear n0_ n1_ n2_ n3_ n4_; (try clear hb); (try clear hkp); (try clear hy0)))
            (try simp only [Act.put, List.setIfInBounds_toArray, List.set_cons_zero, List.set_cons_succ])
            go_cut [69] (fun v69 wc => ∃ (kq : Nat) (x69_27 : Bool), v69 = .bool x69_27 ∧ Aside0 (laws_FnExactNearOf.j1 kq a0 l1 a2 t439 t440 t446 x69_27 = some r) ∧ Aside0 (kq ≤ kj9) ∧ Aside0 (Kd.R (Kd.int .i64) 3 wc w.heap.size (fun k_ => some k_ ≠ (v448 : Value).ownBlock) v441 t439) ∧ Aside0 (Kd.R (Kd.int .i64) 3 wc w.heap.size (fun k_ => some k_ ≠ (v441 : Value).ownBlock) v448 t446) ∧ Aside0 (Below w.heap.size w wc))
            case first =>
              have H := HC28.out
              clear HC28
              by_cases c33 : t455 < 0
              · rw [if_pos c33] at H
                have c33b0 : decide (t455 < 0) = true := decide_eq_true c33
                clear c33
                (first | rw [c33b0] | (simp only [i64_w, i32_w]; rw [c33b0]) | skip)
                have H' := Aside0.mk H
                clear H
                go_wp2
                go_meet
                case rel => exact ⟨_, (true), (by first | rfl | (simp; done) | (simp [*]; done)), H', ⟨by have := HJ9.out; first | omega | exact Nat.le_refl _⟩, ⟨by (with_reducible repeat (first | apply Kd.R_alloc | apply Kd.R_drewN | apply Kd.R_drew)); exact HO_8.out⟩, ⟨by (with_reducible repeat (first | apply Kd.R_alloc | apply Kd.R_drewN | apply Kd.R_drew)); exact HO_11.out⟩, ⟨by repeat (first | (with_reducible first | exact HB.out | apply below_alloc | apply pw_below_drewN | apply below_drew1) | exact HB.out)⟩⟩
              · rw [if_neg c33] at H
                have c33b0 : decide (t455 < 0) = false := decide_eq_false c33
                clear c33
                (first | rw [c33b0] | (simp only [i64_w, i32_w]; rw [c33b0]) | skip)
                replace H := Option.bind_eq_some_iff.mp H
                obtain ⟨t457, A340, H⟩ := H
                replace H : (if t457 = true then (laws_FnExactNearOf.j1 kj9 a0 l1 a2 t439 t440 t446 (t447 != t440)) else (laws_FnExactNearOf.j1 kj9 a0 l1 a2 t439 t440 t446 true)) = some r := H
                have A34 := Aside0.mk A340
                clear A340
                by_cases c35 : t457 = true
                · subst c35
                  have H1 : (laws_FnExactNearOf.j1 kj9 a0 l1 a2 t439 t440 t446 (t447 != t440)) = some r := by rw [if_pos rfl] at H; exact H
                  clear H
                  have H := H1
                  clear H1
                  have H' := Aside0.mk H
                  clear H
                  obtain ⟨Ao36, co36, eo36⟩ := Kd.R_slice HO_11.out
                  subst eo36
                  obtain ⟨Ao37, co37, eo37⟩ := Kd.R_slice HO_8.out
                  subst eo37
                  go_wp2_with (first | (go_at_call 17; (with_reducible refine (laws_eqIntS.calls kj9 _ _ t446 _ _ t439 true _ ?side1 ?side2 ?side3 ?side4 A34.out).mono ?_); (case side1 => repeat (first | exact (Kd.R_reads' HO_11.out).2.2 | (with_reducible refine Kd.C_alloc ?_ _) | (with_reducible refine Kd.C_drewN ?_ _) | (with_reducible refine Kd.C_drew ?_))); (case side2 => exact (Kd.R_reads' HO_11.out).2.1); (case side3 => repeat (first | exact (Kd.R_reads' HO_8.out).2.2 | (with_reducible refine Kd.C_alloc ?_ _) | (with_reducible refine Kd.C_drewN ?_ _) | (with_reducible refine Kd.C_drew ?_))); (case side4 => exact (Kd.R_reads' HO_8.out).2.1); rintro e w' ⟨rfl, ⟨nd, rfl⟩⟩))
                  go_meet
                  case rel => exact ⟨_, ((t447 != t440)), (by first | rfl | (simp; done) | (simp [*]; done)), H', ⟨by have := HJ9.out; first | omega | exact Nat.le_refl _⟩, ⟨by (with_reducible repeat (first | apply Kd.R_alloc | apply Kd.R_drewN | apply Kd.R_drew)); exact HO_8.out⟩, ⟨by (with_reducible repeat (first | apply Kd.R_alloc | apply Kd.R_drewN | apply Kd.R_drew)); exact HO_11.out⟩, ⟨by repeat (first | (with_reducible first | exact HB.out | apply below_alloc | apply pw_below_drewN | apply below_drew1) | exact HB.out)⟩⟩
                · replace c35 := Bool.eq_false_iff.mpr c35
                  subst c35
                  have H1 : (laws_FnExactNearOf.j1 kj9 a0 l1 a2 t439 t440 t446 true) = some r := by rw [if_neg (show ¬ (false = true) by decide)] at H; exact H
                  clear H
                  have H := H1
                  clear H1
                  have H' := Aside0.mk H
                  clear H
                  obtain ⟨Ao38, co38, eo38⟩ := Kd.R_slice HO_11.out
                  subst eo38
                  obtain ⟨Ao39, co39, eo39⟩ := Kd.R_slice HO_8.out
                  subst eo39
                  go_wp2_with (first | (go_at_call 17; (with_reducible refine (laws_eqIntS.calls kj9 _ _ t446 _ _ t439 false _ ?side1 ?side2 ?side3 ?side4 A34.out).mono ?_); (case side1 => repeat (first | exact (Kd.R_reads' HO_11.out).2.2 | (with_reducible refine Kd.C_alloc ?_ _) | (with_reducible refine Kd.C_drewN ?_ _) | (with_reducible refine Kd.C_drew ?_))); (case side2 => exact (Kd.R_reads' HO_11.out).2.1); (case side3 => repeat (first | exact (Kd.R_reads' HO_8.out).2.2 | (with_reducible refine Kd.C_alloc ?_ _) | (with_reducible refine Kd.C_drewN ?_ _) | (with_reducible refine Kd.C_drew ?_))); (case side4 => exact (Kd.R_reads' HO_8.out).2.1); rintro e w' ⟨rfl, ⟨nd, rfl⟩⟩))
                  go_meet
                  case rel => exact ⟨_, (true), (by first | rfl | (simp; done) | (simp [*]; done)), H', ⟨by have := HJ9.out; first | omega | exact Nat.le_refl _⟩, ⟨by (with_reducible repeat (first | apply Kd.R_alloc | apply Kd.R_drewN | apply Kd.R_drew)); exact HO_8.out⟩, ⟨by (with_reducible repeat (first | apply Kd.R_alloc | apply Kd.R_drewN | apply Kd.R_drew)); exact HO_11.out⟩, ⟨by repeat (first | (with_reducible first | exact HB.out | apply below_alloc | apply pw_below_drewN | apply below_drew1) | exact HB.out)⟩⟩
            case rest =>
              clear HC28
              try clear c1
              try clear c2
              try clear p2
              try clear c3
              try clear c5
              try clear c5b0
              try clear c7
              try clear c10
              try clear c12
              try clear c14
              try clear c17
              try clear c18
              try clear c23
              try clear c26
              try clear c30
              try clear c31
              try clear c33
              try clear c33b0
              try clear c35
              try clear p2
              obtain ⟨kq, x69_27, rfl, HA, HJ27, HO_8, HO_11, HB⟩ := hcut
              cases kq with
              | zero => exact absurd HA.out (by simp [laws_FnExactNearOf.j1])
              | succ kj27 =>
                have H := HA.out
                clear HA
                simp only [laws_FnExactNearOf.j1] at H
                by_cases c40 : x69_27 = true
                · subst c40
                  have H1 : (some false) = some r := by rw [if_pos rfl] at H; exact H
                  clear H
                  have H := H1
                  clear H1
                  obtain rfl := Option.some.inj H
                  go_wp2
                  go_ret
                  exact ⟨by first | rfl | (simp [errW_none, errW_some] <;> rfl) | (simp [*, errW_none, errW_some] <;> rfl), by repeat (first | (with_reducible first | exact HB.out | apply below_alloc | apply pw_below_drewN | apply below_drew1) | exact HB.out)⟩
                · replace c40 := Bool.eq_false_iff.mpr c40
                  subst c40
                  have H1 : ((laws_markIntS.f kj27 t446 1).bind fun bt458 => ((laws_heldIntS.f kj27 bt458.2 1).bind fun t460 => (if t460 < 0 then (some false) else (if t460 = bt458.1 then ((laws_toEdgeS.f kj27 l1).bind fun t461 => ((impl_NearOf.f kj27 a0 t461 a2).bind fun bt464 => ((laws_eqIntS.f kj27 bt464.1 t439).bind fun t468 => (if t468 = true then (laws_FnExactNearOf.j2 kj27 bt458.2 bt458.1 (bt464.2 != t440)) else (laws_FnExactNearOf.j2 kj27 bt458.2 bt458.1 true))))) else (some false))))) = some r := by rw [if_neg (show ¬ (false = true) by decide)] at H; exact H
                  clear H
                  have H := H1
                  clear H1
                  replace H := Option.bind_eq_some_iff.mp H
                  obtain ⟨⟨t458, t459⟩, A410, H⟩ := H
                  replace H : ((laws_heldIntS.f kj27 t459 1).bind fun t460 => (if t460 < 0 then (some false) else (if t460 = t458 then ((laws_toEdgeS.f kj27 l1).bind fun t461 => ((impl_NearOf.f kj27 a0 t461 a2).bind fun bt464 => ((laws_eqIntS.f kj27 bt464.1 t439).bind fun t468 => (if t468 = true then (laws_FnExactNearOf.j2 kj27 t459 t458 (bt464.2 != t440)) else (laws_FnExactNearOf.j2 kj27 t459 t458 true))))) else (some false)))) = some r := H
                  have A41 := Aside0.mk A410
                  clear A410
                  replace H := Option.bind_eq_some_iff.mp H
                  obtain ⟨t460, A420, H⟩ := H
                  replace H : (if t460 < 0 then (some false) else (if t460 = t458 then ((laws_toEdgeS.f kj27 l1).bind fun t461 => ((impl_NearOf.f kj27 a0 t461 a2).bind fun bt464 => ((laws_eqIntS.f kj27 bt464.1 t439).bind fun t468 => (if t468 = true then (laws_FnExactNearOf.j2 kj27 t459 t458 (bt464.2 != t440)) else (laws_FnExactNearOf.j2 kj27 t459 t458 true))))) else (some false))) = some r := H
                  have A42 := Aside0.mk A420
                  clear A420
                  by_cases c43 : t460 < 0
                  · rw [if_pos c43] at H
                    have c43b0 : decide (t460 < 0) = true := decide_eq_true c43
                    clear c43
                    obtain rfl := Option.some.inj H
                    obtain ⟨Ao44, co44, eo44⟩ := Kd.R_slice HO_11.out
                    subst eo44
                    go_wp2_with (first | ((with_reducible refine gate_callee (f := 19) rfl ?_); refine goesL_ (some 72) rfl rfl Try.func19 (by kernel_rfl) rfl #[.slice Ao44 t446.length co44, .int .i64 1] rfl (by (try simp only [List.map_toArray, List.map_cons, List.map_nil]); first | done | rfl | (simp only [List.length_drop, List.length_take]; rfl)) ?_; (with_reducible refine (laws_markIntS.calls kj27 (fun k_ => some k_ = (.slice Ao44 t446.length co44 : Value).ownBlock) (.slice Ao44 t446.length co44) t446 1 t458 t459 w _ ?side1 ?side2 A41.out).mono ?_); (case side1 => repeat (first | (with_reducible first | exact HB.out | apply below_alloc | apply pw_below_drewN | apply below_drew1) | exact HB.out)); (case side2 => exact Kd.R_tight rfl HO_11.out); rintro e w45 ⟨rfl, hy0, hb, hkp⟩; refine ⟨_, rfl, ?_⟩; have n0_ := Aside0.mk (Kd.R_mono (ok' := fun k_ => some k_ ≠ (.slice Ao44 t446.length co44 : Value).ownBlock) (Kd.R_keptB (HO_8.out) hkp (fun k_ hk_ hs_ => (hk_) hs_)) (fun k_ hk_ => hk_.1)); have n1_ := Aside0.mk (Kd.R_reok rfl hy0 (fun k_ e_ => HO_11.out.1 k_ e_)); have n2_ := Aside0.mk (hb); clear HO_8; clear HO_11; clear HB; have HO_8 := n0_; have HO_11 := n1_; have HB := n2_; clear n0_ n1_ n2_; (try clear hb); (try clear hkp); (try clear hy0)) | ((with_reducible refine gate_callee (f := 20) rfl ?_); refine goesL_ (some 75) rfl rfl Try.func20 (by kernel_rfl) rfl #[.slice Ao44 t459.length co44, .int .i64 1] rfl (by (try simp only [List.map_toArray, List.map_cons, List.map_nil]); first | done | (rw [show t459.length = t446.length from (Kd.R_reads' HO_11.out).1.symm] <;> rfl) | rfl | (simp only [List.length_drop, List.length_take]; rfl)) ?_; (with_reducible refine (laws_heldIntS.calls kj27 _ _ t459 1 t460 _ ?side1 ?side2 A42.out).mono ?_); (case side1 => repeat (first | exact (Kd.R_reads' HO_11.out).2.2 | (with_reducible refine Kd.C_alloc ?_ _) | (with_reducible refine Kd.C_drewN ?_ _) | (with_reducible refine Kd.C_drew ?_))); (case side2 => rw [show t459.length = t446.length from (Kd.R_reads' HO_11.out).1.symm]; exact (Kd.R_reads' HO_11.out).2.1); rintro e w' ⟨rfl, ⟨nd, rfl⟩⟩; refine ⟨_, rfl, ?_⟩))
                    go_ret
                    exact ⟨by first | rfl | (simp [errW_none, errW_some] <;> rfl) | (simp [*, errW_none, errW_some] <;> rfl), by repeat (first | (with_reducible first | exact HB.out | apply below_alloc | apply pw_below_drewN | apply below_drew1) | exact HB.out)⟩
                  · rw [if_neg c43] at H
                    have c43b0 : decide (t460 < 0) = false := decide_eq_false c43
                    clear c43
                    by_cases c46 : t460 = t458
                    · rw [if_pos c46] at H
                      have c46b0 : (t460 == t458) = true := beq_iff_eq.mpr c46
                      have c46b1 : (t460 != t458) = false := bne_eq_false_iff_eq.mpr c46
                      clear c46
                      replace H := Option.bind_eq_some_iff.mp H
                      obtain ⟨t461, A470, H⟩ := H
                      replace H : ((impl_NearOf.f kj27 a0 t461 a2).bind fun bt464 => ((laws_eqIntS.f kj27 bt464.1 t439).bind fun t468 => (if t468 = true then (laws_FnExactNearOf.j2 kj27 t459 t458 (bt464.2 != t440)) else (laws_FnExactNearOf.j2 kj27 t459 t458 true)))) = some r := H
                      have A47 := Aside0.mk A470
                      clear A470
                      replace H := Option.bind_eq_some_iff.mp H
                      obtain ⟨⟨t464, t465⟩, A480, H⟩ := H
                      replace H : ((laws_eqIntS.f kj27 t464 t439).bind fun t468 => (if t468 = true then (laws_FnExactNearOf.j2 kj27 t459 t458 (t465 != t440)) else (laws_FnExactNearOf.j2 kj27 t459 t458 true))) = some r := H
                      have A48 := Aside0.mk A480
                      clear A480
                      have HC49 := Aside0.mk H
                      clear H
                      obtain ⟨Ao50, co50, eo50⟩ := Kd.R_slice HO_11.out
                      subst eo50
                      go_upto_region 25 with (first | ((with_reducible refine gate_callee (f := 19) rfl ?_); refine goesL_ (some 72) rfl rfl Try.func19 (by kernel_rfl) rfl #[.slice Ao50 t446.length co50, .int .i64 1] rfl (by (try simp only [List.map_toArray, List.map_cons, List.map_nil]); first | done | rfl | (simp only [List.length_drop, List.length_take]; rfl)) ?_; (with_reducible refine (laws_markIntS.calls kj27 (fun k_ => some k_ = (.slice Ao50 t446.length co50 : Value).ownBlock) (.slice Ao50 t446.length co50) t446 1 t458 t459 w _ ?side1 ?side2 A41.out).mono ?_); (case side1 => repeat (first | (with_reducible first | exact HB.out | apply below_alloc | apply pw_below_drewN | apply below_drew1) | exact HB.out)); (case side2 => exact Kd.R_tight rfl HO_11.out); rintro e w51 ⟨rfl, hy0, hb, hkp⟩; refine ⟨_, rfl, ?_⟩; have n0_ := Aside0.mk (Kd.R_mono (ok' := fun k_ => some k_ ≠ (.slice Ao50 t446.length co50 : Value).ownBlock) (Kd.R_keptB (HO_8.out) hkp (fun k_ hk_ hs_ => (hk_) hs_)) (fun k_ hk_ => hk_.1)); have n1_ := Aside0.mk (Kd.R_reok rfl hy0 (fun k_ e_ => HO_11.out.1 k_ e_)); have n2_ := Aside0.mk (hb); clear HO_8; clear HO_11; clear HB; have HO_8 := n0_; have HO_11 := n1_; have HB := n2_; clear n0_ n1_ n2_; (try clear hb); (try clear hkp); (try clear hy0)) | ((with_reducible refine gate_callee (f := 20) rfl ?_); refine goesL_ (some 75) rfl rfl Try.func20 (by kernel_rfl) rfl #[.slice Ao50 t459.length co50, .int .i64 1] rfl (by (try simp only [List.map_toArray, List.map_cons, List.map_nil]); first | done | (rw [show t459.length = t446.length from (Kd.R_reads' HO_11.out).1.symm] <;> rfl) | rfl | (simp only [List.length_drop, List.length_take]; rfl)) ?_; (with_reducible refine (laws_heldIntS.calls kj27 _ _ t459 1 t460 _ ?side1 ?side2 A42.out).mono ?_); (case side1 => repeat (first | exact (Kd.R_reads' HO_11.out).2.2 | (with_reducible refine Kd.C_alloc ?_ _) | (with_reducible refine Kd.C_drewN ?_ _) | (with_reducible refine Kd.C_drew ?_))); (case side2 => rw [show t459.length = t446.length from (Kd.R_reads' HO_11.out).1.symm]; exact (Kd.R_reads' HO_11.out).2.1); rintro e w' ⟨rfl, ⟨nd, rfl⟩⟩; refine ⟨_, rfl, ?_⟩) | ((with_reducible refine gate_callee (f := 12) rfl ?_); refine goesL_ (some 84) rfl rfl Try.func12 (by kernel_rfl) rfl #[.slice A1 l1.length c1] rfl (by (try simp only [List.map_toArray, List.map_cons, List.map_nil]); first | done | rfl | (simp only [List.length_drop, List.length_take]; rfl)) ?_; (with_reducible refine (laws_toEdgeS.calls kj27 _ _ l1 t461 _ ?side1 ?side2 A47.out).mono ?_); (case side1 => repeat (first | exact (Kd.C_below HR1.out (by repeat (first | (with_reducible first | exact HB.out | apply below_alloc | apply pw_below_drewN | apply below_drew1) | exact HB.out))) | (with_reducible refine Kd.C_alloc ?_ _) | (with_reducible refine Kd.C_drewN ?_ _) | (with_reducible refine Kd.C_drew ?_))); (case side2 => exact HC1.out); rintro e w52 ⟨v462, rfl, ho0, hb⟩; refine ⟨_, rfl, ?_⟩; have n0_ := Aside0.mk (Kd.R_below (by (with_reducible repeat (first | apply Kd.R_alloc | apply Kd.R_drewN | apply Kd.R_drew)); exact HO_8.out) hb); have n1_ := Aside0.mk (Kd.R_below (by (with_reducible repeat (first | apply Kd.R_alloc | apply Kd.R_drewN | apply Kd.R_drew)); exact HO_11.out) hb); have n2_ := Aside0.mk (Kd.R_lower ho0 (below_size (by repeat (first | (with_reducible first | exact HB.out | apply below_alloc | apply pw_below_drewN | apply below_drew1) | exact HB.out)))); have n3_ := Aside0.mk (below_step (by repeat (first | (with_reducible first | exact HB.out | apply below_alloc | apply pw_below_drewN | apply below_drew1) | exact HB.out)) hb); clear HO_8; clear HO_11; clear HB; have HO_8 := n0_; have HO_11 := n1_; have HO463 := n2_; have HB := n3_; clear n0_ n1_ n2_ n3_; (try clear hb); (try clear hb2); (try clear hk); (try clear hi); (try clear ho0); obtain ⟨Ao53, co53, eo53⟩ := Kd.R_slice HO463.out; subst eo53) | ((with_reducible refine gate_callee (f := 31) rfl ?_); refine goesL_ (some 86) rfl rfl Try.func31 (by kernel_rfl) rfl #[.int .i64 a0, .slice Ao53 t461.length co53, .int .i64 a2] rfl (by (try simp only [List.map_toArray, List.map_cons, List.map_nil]); first | done | rfl | (simp only [List.length_drop, List.length_take]; rfl)) ?_; (with_reducible refine (impl_NearOf.calls kj27 a0 _ _ t461 a2 t464 t465 _ ?side1 ?side2 A48.out).mono ?_); (case side1 => repeat (first | exact (Kd.R_reads' HO463.out).2.2 | (with_reducible refine Kd.C_alloc ?_ _) | (with_reducible refine Kd.C_drewN ?_ _) | (with_reducible refine Kd.C_drew ?_))); (case side2 => exact (Kd.R_reads' HO463.out).2.1); rintro e w54 ⟨v466, rfl, ho0, hb⟩; refine ⟨_, rfl, ?_⟩; have n0_ := Aside0.mk (Kd.R_elder' (by (with_reducible repeat (first | apply Kd.R_alloc | apply Kd.R_drewN | apply Kd.R_drew)); exact HO_8.out) (Kd.R_base ho0) hb); have n1_ := Aside0.mk (Kd.R_elder' (by (with_reducible repeat (first | apply Kd.R_alloc | apply Kd.R_drewN | apply Kd.R_drew)); exact HO_11.out) (Kd.R_base ho0) hb); have n2_ := Aside0.mk (Kd.R_below (by (with_reducible repeat (first | apply Kd.R_alloc | apply Kd.R_drewN | apply Kd.R_drew)); exact HO463.out) hb); have n3_ := Aside0.mk (Kd.R_lower (Kd.R_new' (Kd.R_new' ho0 (Kd.R_lt (by (with_reducible repeat (first | apply Kd.R_alloc | apply Kd.R_drewN | apply Kd.R_drew)); exact HO_8.out))) (Kd.R_lt (by (with_reducible repeat (first | apply Kd.R_alloc | apply Kd.R_drewN | apply Kd.R_drew)); exact HO_11.out))) (below_size (by repeat (first | (with_reducible first | exact HB.out | apply below_alloc | apply pw_below_drewN | apply below_drew1) | exact HB.out)))); have n4_ := Aside0.mk (below_step (by repeat (first | (with_reducible first | exact HB.out | apply below_alloc | apply pw_below_drewN | apply below_drew1) | exact HB.out)) hb); clear HO_8; clear HO_11; clear HO463; clear HB; have HO_8 := n0_; have HO_11 := n1_; have HO463 := n2_; have HO467 := n3_; have HB := n4_; clear n0_ n1_ n2_ n3_ n4_; (try clear hb); (try clear hb2); (try clear hk); (try clear hi); (try clear ho0)))
                      (try simp only [Act.put, List.setIfInBounds_toArray, List.set_cons_zero, List.set_cons_succ])
                      go_cut [97] (fun v97 wc => ∃ (kq : Nat) (x97_48 : Bool), v97 = .bool x97_48 ∧ Aside0 (laws_FnExactNearOf.j2 kq t459 t458 x97_48 = some r) ∧ Aside0 (kq ≤ kj27) ∧ Aside0 (Kd.R (Kd.int .i64) 3 wc w.heap.size (fun _ => True) (.slice Ao50 t446.length co50) t459) ∧ Aside0 (Below w.heap.size w wc))
                      case first =>
                        have H := HC49.out
                        clear HC49
                        replace H := Option.bind_eq_some_iff.mp H
                        obtain ⟨t468, A550, H⟩ := H
                        replace H : (if t468 = true then (laws_FnExactNearOf.j2 kj27 t459 t458 (t465 != t440)) else (laws_FnExactNearOf.j2 kj27 t459 t458 true)) = some r := H
                        have A55 := Aside0.mk A550
                        clear A550
                        by_cases c56 : t468 = true
                        · subst c56
                          have H1 : (laws_FnExactNearOf.j2 kj27 t459 t458 (t465 != t440)) = some r := by rw [if_pos rfl] at H; exact H
                          clear H
                          have H := H1
                          clear H1
                          have H' := Aside0.mk H
                          clear H
                          obtain ⟨Ao57, co57, eo57⟩ := Kd.R_slice HO467.out
                          subst eo57
                          obtain ⟨Ao58, co58, eo58⟩ := Kd.R_slice HO_8.out
                          subst eo58
                          go_wp2_with (first | ((with_reducible refine gate_callee (f := 17) rfl ?_); refine goesL_ (some 91) rfl rfl Try.func17 (by kernel_rfl) rfl #[.slice Ao57 t464.length co57, .slice Ao58 t439.length co58] rfl (by (try simp only [List.map_toArray, List.map_cons, List.map_nil]); first | done | rfl | (simp only [List.length_drop, List.length_take]; rfl)) ?_; (with_reducible refine (laws_eqIntS.calls kj27 _ _ t464 _ _ t439 true _ ?side1 ?side2 ?side3 ?side4 A55.out).mono ?_); (case side1 => repeat (first | exact (Kd.R_reads' HO467.out).2.2 | (with_reducible refine Kd.C_alloc ?_ _) | (with_reducible refine Kd.C_drewN ?_ _) | (with_reducible refine Kd.C_drew ?_))); (case side2 => exact (Kd.R_reads' HO467.out).2.1); (case side3 => repeat (first | exact (Kd.R_reads' HO_8.out).2.2 | (with_reducible refine Kd.C_alloc ?_ _) | (with_reducible refine Kd.C_drewN ?_ _) | (with_reducible refine Kd.C_drew ?_))); (case side4 => exact (Kd.R_reads' HO_8.out).2.1); rintro e w' ⟨rfl, ⟨nd, rfl⟩⟩; refine ⟨_, rfl, ?_⟩))
                          go_meet
                          case rel => exact ⟨_, ((t465 != t440)), (by first | rfl | (simp; done) | (simp [*]; done)), H', ⟨by have := HJ9.out; have := HJ27.out; first | omega | exact Nat.le_refl _⟩, ⟨by (with_reducible repeat (first | apply Kd.R_alloc | apply Kd.R_drewN | apply Kd.R_drew)); exact Kd.R_mono HO_11.out (fun _ hk => trivial)⟩, ⟨by repeat (first | (with_reducible first | exact HB.out | apply below_alloc | apply pw_below_drewN | apply below_drew1) | exact HB.out)⟩⟩
                        · replace c56 := Bool.eq_false_iff.mpr c56
                          subst c56
                          have H1 : (laws_FnExactNearOf.j2 kj27 t459 t458 true) = some r := by rw [if_neg (show ¬ (false = true) by decide)] at H; exact H
                          clear H
                          have H := H1
                          clear H1
                          have H' := Aside0.mk H
                          clear H
                          obtain ⟨Ao59, co59, eo59⟩ := Kd.R_slice HO467.out
                          subst eo59
                          obtain ⟨Ao60, co60, eo60⟩ := Kd.R_slice HO_8.out
                          subst eo60
                          go_wp2_with (first | ((with_reducible refine gate_callee (f := 17) rfl ?_); refine goesL_ (some 91) rfl rfl Try.func17 (by kernel_rfl) rfl #[.slice Ao59 t464.length co59, .slice Ao60 t439.length co60] rfl (by (try simp only [List.map_toArray, List.map_cons, List.map_nil]); first | done | rfl | (simp only [List.length_drop, List.length_take]; rfl)) ?_; (with_reducible refine (laws_eqIntS.calls kj27 _ _ t464 _ _ t439 false _ ?side1 ?side2 ?side3 ?side4 A55.out).mono ?_); (case side1 => repeat (first | exact (Kd.R_reads' HO467.out).2.2 | (with_reducible refine Kd.C_alloc ?_ _) | (with_reducible refine Kd.C_drewN ?_ _) | (with_reducible refine Kd.C_drew ?_))); (case side2 => exact (Kd.R_reads' HO467.out).2.1); (case side3 => repeat (first | exact (Kd.R_reads' HO_8.out).2.2 | (with_reducible refine Kd.C_alloc ?_ _) | (with_reducible refine Kd.C_drewN ?_ _) | (with_reducible refine Kd.C_drew ?_))); (case side4 => exact (Kd.R_reads' HO_8.out).2.1); rintro e w' ⟨rfl, ⟨nd, rfl⟩⟩; refine ⟨_, rfl, ?_⟩))
                          go_meet
                          case rel => exact ⟨_, (true), (by first | rfl | (simp; done) | (simp [*]; done)), H', ⟨by have := HJ9.out; have := HJ27.out; first | omega | exact Nat.le_refl _⟩, ⟨by (with_reducible repeat (first | apply Kd.R_alloc | apply Kd.R_drewN | apply Kd.R_drew)); exact Kd.R_mono HO_11.out (fun _ hk => trivial)⟩, ⟨by repeat (first | (with_reducible first | exact HB.out | apply below_alloc | apply pw_below_drewN | apply below_drew1) | exact HB.out)⟩⟩
                      case rest =>
                        clear HC49
                        try clear c1
                        try clear c2
                        try clear p2
                        try clear c3
                        try clear c4
                        try clear c5
                        try clear c5b0
                        try clear c7
                        try clear c10
                        try clear c12
                        try clear c14
                        try clear c17
                        try clear c18
                        try clear c19
                        try clear c20
                        try clear c23
                        try clear c26
                        try clear c30
                        try clear c31
                        try clear c33
                        try clear c33b0
                        try clear c35
                        try clear c40
                        try clear c43
                        try clear c43b0
                        try clear c46
                        try clear c46b0
                        try clear c46b1
                        try clear c56
                        try clear p2
                        obtain ⟨kq, x97_48, rfl, HA, HJ48, HO_11, HB⟩ := hcut
                        have hl11_48 := (Kd.R_reads' HO_11.out).1
                        rw [hl11_48] at HO_11
                        (try simp only [hl11_48])
                        cases kq with
                        | zero => exact absurd HA.out (by simp [laws_FnExactNearOf.j2])
                        | succ kj48 =>
                          have H := HA.out
                          clear HA
                          simp only [laws_FnExactNearOf.j2] at H
                          by_cases c61 : x97_48 = true
                          · subst c61
                            have H1 : (some false) = some r := by rw [if_pos rfl] at H; exact H
                            clear H
                            have H := H1
                            clear H1
                            obtain rfl := Option.some.inj H
                            go_wp2
                            go_ret
                            exact ⟨by first | rfl | (simp [errW_none, errW_some] <;> rfl) | (simp [*, errW_none, errW_some] <;> rfl), by repeat (first | (with_reducible first | exact HB.out | apply below_alloc | apply pw_below_drewN | apply below_drew1) | exact HB.out)⟩
                          · replace c61 := Bool.eq_false_iff.mpr c61
                            subst c61
                            have H1 : ((laws_heldIntS.f kj48 t459 1).bind fun t469 => (if t469 < 0 then (some false) else (if t469 = t458 then (some true) else (some false)))) = some r := by rw [if_neg (show ¬ (false = true) by decide)] at H; exact H
                            clear H
                            have H := H1
                            clear H1
                            replace H := Option.bind_eq_some_iff.mp H
                            obtain ⟨t469, A620, H⟩ := H
                            replace H : (if t469 < 0 then (some false) else (if t469 = t458 then (some true) else (some false))) = some r := H
                            have A62 := Aside0.mk A620
                            clear A620
                            by_cases c63 : t469 < 0
                            · rw [if_pos c63] at H
                              have c63b0 : decide (t469 < 0) = true := decide_eq_true c63
                              clear c63
                              obtain rfl := Option.some.inj H
                              go_wp2_with (first | ((with_reducible refine gate_callee (f := 20) rfl ?_); refine goesL_ (some 100) rfl rfl Try.func20 (by kernel_rfl) rfl #[.slice Ao50 t459.length co50, .int .i64 1] rfl (by (try simp only [List.map_toArray, List.map_cons, List.map_nil]); first | done | rfl | (simp only [List.length_drop, List.length_take]; rfl)) ?_; (with_reducible refine (laws_heldIntS.calls kj48 _ _ t459 1 t469 _ ?side1 ?side2 A62.out).mono ?_); (case side1 => repeat (first | exact (Kd.R_reads' HO_11.out).2.2 | (with_reducible refine Kd.C_alloc ?_ _) | (with_reducible refine Kd.C_drewN ?_ _) | (with_reducible refine Kd.C_drew ?_))); (case side2 => exact (Kd.R_reads' HO_11.out).2.1); rintro e w' ⟨rfl, ⟨nd, rfl⟩⟩; refine ⟨_, rfl, ?_⟩))
                              go_ret
                              exact ⟨by first | rfl | (simp [errW_none, errW_some] <;> rfl) | (simp [*, errW_none, errW_some] <;> rfl), by repeat (first | (with_reducible first | exact HB.out | apply below_alloc | apply pw_below_drewN | apply below_drew1) | exact HB.out)⟩
                            · rw [if_neg c63] at H
                              have c63b0 : decide (t469 < 0) = false := decide_eq_false c63
                              clear c63
                              by_cases c64 : t469 = t458
                              · rw [if_pos c64] at H
                                have c64b0 : (t469 == t458) = true := beq_iff_eq.mpr c64
                                have c64b1 : (t469 != t458) = false := bne_eq_false_iff_eq.mpr c64
                                clear c64
                                obtain rfl := Option.some.inj H
                                go_wp2_with (first | ((with_reducible refine gate_callee (f := 20) rfl ?_); refine goesL_ (some 100) rfl rfl Try.func20 (by kernel_rfl) rfl #[.slice Ao50 t459.length co50, .int .i64 1] rfl (by (try simp only [List.map_toArray, List.map_cons, List.map_nil]); first | done | rfl | (simp only [List.length_drop, List.length_take]; rfl)) ?_; (with_reducible refine (laws_heldIntS.calls kj48 _ _ t459 1 t469 _ ?side1 ?side2 A62.out).mono ?_); (case side1 => repeat (first | exact (Kd.R_reads' HO_11.out).2.2 | (with_reducible refine Kd.C_alloc ?_ _) | (with_reducible refine Kd.C_drewN ?_ _) | (with_reducible refine Kd.C_drew ?_))); (case side2 => exact (Kd.R_reads' HO_11.out).2.1); rintro e w' ⟨rfl, ⟨nd, rfl⟩⟩; refine ⟨_, rfl, ?_⟩))
                                go_ret
                                exact ⟨by first | rfl | (simp [errW_none, errW_some] <;> rfl) | (simp [*, errW_none, errW_some] <;> rfl), by repeat (first | (with_reducible first | exact HB.out | apply below_alloc | apply pw_below_drewN | apply below_drew1) | exact HB.out)⟩
                              · rw [if_neg c64] at H
                                have c64b0 : (t469 == t458) = false := beq_eq_false_iff_ne.mpr c64
                                have c64b1 : (t469 != t458) = true := bne_iff_ne.mpr c64
                                obtain rfl := Option.some.inj H
                                go_wp2_with (first | ((with_reducible refine gate_callee (f := 20) rfl ?_); refine goesL_ (some 100) rfl rfl Try.func20 (by kernel_rfl) rfl #[.slice Ao50 t459.length co50, .int .i64 1] rfl (by (try simp only [List.map_toArray, List.map_cons, List.map_nil]); first | done | rfl | (simp only [List.length_drop, List.length_take]; rfl)) ?_; (with_reducible refine (laws_heldIntS.calls kj48 _ _ t459 1 t469 _ ?side1 ?side2 A62.out).mono ?_); (case side1 => repeat (first | exact (Kd.R_reads' HO_11.out).2.2 | (with_reducible refine Kd.C_alloc ?_ _) | (with_reducible refine Kd.C_drewN ?_ _) | (with_reducible refine Kd.C_drew ?_))); (case side2 => exact (Kd.R_reads' HO_11.out).2.1); rintro e w' ⟨rfl, ⟨nd, rfl⟩⟩; refine ⟨_, rfl, ?_⟩))
                                go_ret
                                exact ⟨by first | rfl | (simp [errW_none, errW_some] <;> rfl) | (simp [*, errW_none, errW_some] <;> rfl), by repeat (first | (with_reducible first | exact HB.out | apply below_alloc | apply pw_below_drewN | apply below_drew1) | exact HB.out)⟩
                    · rw [if_neg c46] at H
                      have c46b0 : (t460 == t458) = false := beq_eq_false_iff_ne.mpr c46
                      have c46b1 : (t460 != t458) = true := bne_iff_ne.mpr c46
                      obtain rfl := Option.some.inj H
                      obtain ⟨Ao65, co65, eo65⟩ := Kd.R_slice HO_11.out
                      subst eo65
                      go_wp2_with (first | ((with_reducible refine gate_callee (f := 19) rfl ?_); refine goesL_ (some 72) rfl rfl Try.func19 (by kernel_rfl) rfl #[.slice Ao65 t446.length co65, .int .i64 1] rfl (by (try simp only [List.map_toArray, List.map_cons, List.map_nil]); first | done | rfl | (simp only [List.length_drop, List.length_take]; rfl)) ?_; (with_reducible refine (laws_markIntS.calls kj27 (fun k_ => some k_ = (.slice Ao65 t446.length co65 : Value).ownBlock) (.slice Ao65 t446.length co65) t446 1 t458 t459 w _ ?side1 ?side2 A41.out).mono ?_); (case side1 => repeat (first | (with_reducible first | exact HB.out | apply below_alloc | apply pw_below_drewN | apply below_drew1) | exact HB.out)); (case side2 => exact Kd.R_tight rfl HO_11.out); rintro e w66 ⟨rfl, hy0, hb, hkp⟩; refine ⟨_, rfl, ?_⟩; have n0_ := Aside0.mk (Kd.R_mono (ok' := fun k_ => some k_ ≠ (.slice Ao65 t446.length co65 : Value).ownBlock) (Kd.R_keptB (HO_8.out) hkp (fun k_ hk_ hs_ => (hk_) hs_)) (fun k_ hk_ => hk_.1)); have n1_ := Aside0.mk (Kd.R_reok rfl hy0 (fun k_ e_ => HO_11.out.1 k_ e_)); have n2_ := Aside0.mk (hb); clear HO_8; clear HO_11; clear HB; have HO_8 := n0_; have HO_11 := n1_; have HB := n2_; clear n0_ n1_ n2_; (try clear hb); (try clear hkp); (try clear hy0)) | ((with_reducible refine gate_callee (f := 20) rfl ?_); refine goesL_ (some 75) rfl rfl Try.func20 (by kernel_rfl) rfl #[.slice Ao65 t459.length co65, .int .i64 1] rfl (by (try simp only [List.map_toArray, List.map_cons, List.map_nil]); first | done | (rw [show t459.length = t446.length from (Kd.R_reads' HO_11.out).1.symm] <;> rfl) | rfl | (simp only [List.length_drop, List.length_take]; rfl)) ?_; (with_reducible refine (laws_heldIntS.calls kj27 _ _ t459 1 t460 _ ?side1 ?side2 A42.out).mono ?_); (case side1 => repeat (first | exact (Kd.R_reads' HO_11.out).2.2 | (with_reducible refine Kd.C_alloc ?_ _) | (with_reducible refine Kd.C_drewN ?_ _) | (with_reducible refine Kd.C_drew ?_))); (case side2 => rw [show t459.length = t446.length from (Kd.R_reads' HO_11.out).1.symm]; exact (Kd.R_reads' HO_11.out).2.1); rintro e w' ⟨rfl, ⟨nd, rfl⟩⟩; refine ⟨_, rfl, ?_⟩))
                      go_ret
                      exact ⟨by first | rfl | (simp [errW_none, errW_some] <;> rfl) | (simp [*, errW_none, errW_some] <;> rfl), by repeat (first | (with_reducible first | exact HB.out | apply below_alloc | apply pw_below_drewN | apply below_drew1) | exact HB.out)⟩
          · replace c26 := Bool.eq_false_iff.mpr c26
            subst c26
            have H1 : (some false) = some r := by rw [if_neg (show ¬ (false = true) by decide)] at H; exact H
            clear H
            have H := H1
            clear H1
            obtain rfl := Option.some.inj H
            go_wp2_with (first | ((with_reducible refine gate_callee (f := 12) rfl ?_); refine goesL_ (some 51) rfl rfl Try.func12 (by kernel_rfl) rfl #[.slice A1 l1.length c1] rfl (by (try simp only [List.map_toArray, List.map_cons, List.map_nil]); first | done | rfl | (simp only [List.length_drop, List.length_take]; rfl)) ?_; (with_reducible refine (laws_toEdgeS.calls kj9 _ _ l1 t451 _ ?side1 ?side2 A24.out).mono ?_); (case side1 => repeat (first | exact (Kd.C_below HR1.out HB.out) | (with_reducible refine Kd.C_alloc ?_ _) | (with_reducible refine Kd.C_drewN ?_ _) | (with_reducible refine Kd.C_drew ?_))); (case side2 => exact HC1.out); rintro e w67 ⟨v452, rfl, ho0, hb⟩; refine ⟨_, rfl, ?_⟩; have n0_ := Aside0.mk (Kd.R_below (by (with_reducible repeat (first | apply Kd.R_alloc | apply Kd.R_drewN | apply Kd.R_drew)); exact HO_8.out) hb); have n1_ := Aside0.mk (Kd.R_elder' (by (with_reducible repeat (first | apply Kd.R_alloc | apply Kd.R_drewN | apply Kd.R_drew)); exact HO_10.out) (Kd.R_base ho0) hb); have n2_ := Aside0.mk (Kd.R_below (by (with_reducible repeat (first | apply Kd.R_alloc | apply Kd.R_drewN | apply Kd.R_drew)); exact HO_11.out) hb); have n3_ := Aside0.mk (Kd.R_lower (Kd.R_new' ho0 (Kd.R_lt (by (with_reducible repeat (first | apply Kd.R_alloc | apply Kd.R_drewN | apply Kd.R_drew)); exact HO_10.out))) (below_size (by repeat (first | (with_reducible first | exact HB.out | apply below_alloc | apply pw_below_drewN | apply below_drew1) | exact HB.out)))); have n4_ := Aside0.mk (below_step (by repeat (first | (with_reducible first | exact HB.out | apply below_alloc | apply pw_below_drewN | apply below_drew1) | exact HB.out)) hb); clear HO_8; clear HO_10; clear HO_11; clear HB; have HO_8 := n0_; have HO_10 := n1_; have HO_11 := n2_; have HO453 := n3_; have HB := n4_; clear n0_ n1_ n2_ n3_ n4_; (try clear hb); (try clear hb2); (try clear hk); (try clear hi); (try clear ho0); obtain ⟨Ao68, co68, eo68⟩ := Kd.R_slice HO453.out; subst eo68) | ((with_reducible refine gate_callee (f := 14) rfl ?_); refine goesL_ (some 52) rfl rfl Try.func14 (by kernel_rfl) rfl #[.slice Ao15 t443.length co15, .slice Ao68 t451.length co68] rfl (by (try simp only [List.map_toArray, List.map_cons, List.map_nil]); first | done | rfl | (simp only [List.length_drop, List.length_take]; rfl)) ?_; (with_reducible refine (laws_eqEdgeS.calls kj9 _ _ t443 _ _ t451 false _ ?side1 ?side2 ?side3 ?side4 A25.out).mono ?_); (case side1 => repeat (first | exact (Kd.R_reads' HO_10.out).2.2 | (with_reducible refine Kd.C_alloc ?_ _) | (with_reducible refine Kd.C_drewN ?_ _) | (with_reducible refine Kd.C_drew ?_))); (case side2 => exact (Kd.R_reads' HO_10.out).2.1); (case side3 => repeat (first | exact (Kd.R_reads' HO453.out).2.2 | (with_reducible refine Kd.C_alloc ?_ _) | (with_reducible refine Kd.C_drewN ?_ _) | (with_reducible refine Kd.C_drew ?_))); (case side4 => exact (Kd.R_reads' HO453.out).2.1); rintro e w69 ⟨rfl, hb⟩; refine ⟨_, rfl, ?_⟩; have n0_ := Aside0.mk (Kd.R_below (by (with_reducible repeat (first | apply Kd.R_alloc | apply Kd.R_drewN | apply Kd.R_drew)); exact HO_8.out) hb); have n1_ := Aside0.mk (Kd.R_below (by (with_reducible repeat (first | apply Kd.R_alloc | apply Kd.R_drewN | apply Kd.R_drew)); exact HO_10.out) hb); have n2_ := Aside0.mk (Kd.R_below (by (with_reducible repeat (first | apply Kd.R_alloc | apply Kd.R_drewN | apply Kd.R_drew)); exact HO_11.out) hb); have n3_ := Aside0.mk (Kd.R_below (by (with_reducible repeat (first | apply Kd.R_alloc | apply Kd.R_drewN | apply Kd.R_drew)); exact HO453.out) hb); have n4_ := Aside0.mk (below_step (by repeat (first | (with_reducible first | exact HB.out | apply below_alloc | apply pw_below_drewN | apply below_drew1) | exact HB.out)) hb); clear HO_8; clear HO_10; clear HO_11; clear HO453; clear HB; have HO_8 := n0_; have HO_10 := n1_; have HO_11 := n2_; have HO453 := n3_; have HB := n4_; clear n0_ n1_ n2_ n3_ n4_; (try clear hb); (try clear hb2); (try clear hk); (try clear hi)))
            go_ret
            exact ⟨by first | rfl | (simp [errW_none, errW_some] <;> rfl) | (simp [*, errW_none, errW_some] <;> rfl), by repeat (first | (with_reducible first | exact HB.out | apply below_alloc | apply pw_below_drewN | apply below_drew1) | exact HB.out)⟩
end Go.Proofs.Ytpbnpepikkocmaa.P

namespace Go.Proofs.Ytpbnpepikkocmaa.P
open Go.RowKit Go.Proofs.YtpbnpepikkocmaaW.PrintWords Go.Proofs.YtpbnpepikkocmaaW.PrintLast
def wfS65 (s : S65) : Prop := (fun n : Int => (Lit.int .i64 n).wf = true) s.f0 ∧ (fun n : Int => (Lit.int .i64 n).wf = true) s.f1 ∧ (fun n : Int => (Lit.int .i64 n).wf = true) s.f2
/-- The one pure statement of laws_FnExactNearOf. -/
def laws_FnExactNearOf.Pure : Prop := ∀ (a0 : Int) (l1 : List (S65)) (a2 : Int), (fun n : Int => (Lit.int .i64 n).wf = true) a0 → (fun l : List (S65) => l.length ≤ maxLen ∧ ∀ x ∈ l, wfS65 x) l1 → (fun n : Int => (Lit.int .i64 n).wf = true) a2 → ∃ k, laws_FnExactNearOf.f k a0 l1 a2 = some true
end Go.Proofs.Ytpbnpepikkocmaa.P

namespace Go.Proofs.Ytpbnpepikkocmaa.P
open Go.RowKit Go.Proofs.YtpbnpepikkocmaaW.PrintWords
set_option linter.unusedVariables false
set_option linter.unusedSimpArgs false
theorem wrap_id {x : Int} (h0 : -9223372036854775808 ≤ x) (h1 : x ≤ 9223372036854775807) : wrap64 x = x := by unfold wrap64; omega
theorem Ev.succ {α : Type} {g : Nat → Option α} {r : α} (h : Ev (fun k => g (k + 1)) r) : Ev g r := Ev.step (fun _ => rfl) h
theorem Ev.some_ {α : Type} {r s : α} (h : r = s) : Ev (fun _ => some r) s := h ▸ Ev.now r
theorem getD_mid {α : Type} (d : α) (pre : List α) (x : α) (suf : List α) : (pre ++ x :: suf).getD ((pre.length : Int)).toNat d = x := by simp
theorem set_mid {α : Type} (pre : List α) (x y : α) (suf : List α) : (pre ++ x :: suf).set ((pre.length : Int)).toNat y = pre ++ y :: suf := by simp
theorem app_one {α : Type} (pre : List α) (x : α) (suf : List α) : pre ++ x :: suf = (pre ++ [x]) ++ suf := by simp
theorem len_mid {α : Type} (pre : List α) (x : α) (suf : List α) : ((pre ++ x :: suf).length : Int) = pre.length + suf.length + 1 := by simp; omega
theorem len_one {α : Type} (pre : List α) (x : α) : ((pre ++ [x]).length : Int) = pre.length + 1 := by simp
theorem nil_or_snoc {α : Type} (l : List α) : l = [] ∨ ∃ p y, l = p ++ [y] := by
  rcases List.eq_nil_or_concat l with rfl | ⟨p, y, rfl⟩
  · exact .inl rfl
  · exact .inr ⟨p, y, by simp⟩
end Go.Proofs.Ytpbnpepikkocmaa.P

namespace Go.Proofs.Ytpbnpepikkocmaa.P
open Go.RowKit Go.Proofs.YtpbnpepikkocmaaW.PrintWords Go.Proofs.YtpbnpepikkocmaaW.PrintLast
set_option linter.unusedVariables false
set_option linter.unusedSimpArgs false
theorem rdEdge_mid (pre : List S52) (x : S52) (suf : List S52) : rd_T52 (pre ++ x :: suf) (pre.length : Int) = x := getD_mid _ pre x suf
theorem rdLEdge_mid (pre : List S65) (x : S65) (suf : List S65) : rd_T65 (pre ++ x :: suf) (pre.length : Int) = x := getD_mid _ pre x suf
instance decEdge : DecidableEq S52 := fun a b => decidable_of_iff (a.f0 = b.f0 ∧ a.f1 = b.f1 ∧ a.f2 = b.f2) (by cases a; cases b; simp)
def cvEdge (x : S65) : S52 := ⟨x.f0, x.f1, x.f2⟩
theorem toEdgeS_l (suf : List S65) : ∀ (pre : List S65) (k : Nat), suf.length < k → (pre.length : Int) + suf.length ≤ 1099511627776 →
    laws_toEdgeS.l0 k (pre ++ suf) (pre.map cvEdge ++ List.replicate suf.length z52) (pre.length : Int) = some ((pre ++ suf).map cvEdge) := by
  induction suf with
  | nil =>
    intro pre k hk hb
    obtain ⟨k, rfl⟩ : ∃ m, k = m + 1 := ⟨k - 1, by omega⟩
    simp only [laws_toEdgeS.l0]
    rw [if_neg (by simp)]
    simp
  | cons x suf ih =>
    intro pre k hk hb
    simp only [List.length_cons] at hk hb
    obtain ⟨k, rfl⟩ : ∃ m, k = m + 1 := ⟨k - 1, by omega⟩
    have h := ih (pre ++ [x]) k (by omega) (by simp; omega)
    simp only [laws_toEdgeS.l0]
    rw [if_pos (by simp; omega), if_pos (by omega), rdLEdge_mid]
    simp only [laws_toEdge.f, Option.bind_some]
    rw [if_pos (by simp; omega), wrap_id (by omega) (by omega)]
    have e : (pre.map cvEdge ++ List.replicate (x :: suf).length z52).set ((pre.length : Int)).toNat (⟨x.f0, x.f1, x.f2⟩ : S52) = (pre ++ [x]).map cvEdge ++ List.replicate suf.length z52 := by
      simp [List.replicate_succ, cvEdge]
    rw [e]
    simpa using h
theorem toEdgeS_ev (l : List S65) (hl : l.length ≤ 1048576) : Ev (fun k => laws_toEdgeS.f k l) (l.map cvEdge) := by
  refine ⟨l.length + 1, fun k hk => ?_⟩
  have h := toEdgeS_l l [] k (by omega) (by simp; omega)
  show laws_toEdgeS.f k l = _
  unfold laws_toEdgeS.f
  rw [if_pos (by omega), if_pos (by simp; omega)]
  simpa using h
theorem eqEdge_is (a b : S52) : laws_eqEdge.f a.f0 a.f1 a.f2 b.f0 b.f1 b.f2 = some (decide (a = b)) := by
  cases a; cases b
  unfold laws_eqEdge.f
  simp only [S52.mk.injEq]
  split
  · split
    · split
      · rename_i h1 h2 h3; simp [h1, h2, h3]
      · rename_i h1 h2 h3; simp [h3]
    · rename_i h1 h2; simp [h2]
  · rename_i h1; simp [h1]
theorem eqEdgeS_l (s : List S52) : ∀ (t pre qre : List S52) (k : Nat), s.length < k → pre.length = qre.length → s.length = t.length → (pre.length : Int) + s.length ≤ 1099511627776 →
    laws_eqEdgeS.l0 k (pre ++ s) (qre ++ t) (pre.length : Int) = some (decide (s = t)) := by
  induction s with
  | nil =>
    intro t pre qre k hk hq hl hb
    obtain ⟨k, rfl⟩ : ∃ m, k = m + 1 := ⟨k - 1, by omega⟩
    obtain rfl : t = [] := List.eq_nil_of_length_eq_zero (by simpa using hl.symm)
    simp only [laws_eqEdgeS.l0]
    rw [if_neg (by simp)]
    simp
  | cons x s ih =>
    intro t pre qre k hk hq hl hb
    cases t with
    | nil => simp at hl
    | cons y t =>
      simp only [List.length_cons] at hk hl hb
      obtain ⟨k, rfl⟩ : ∃ m, k = m + 1 := ⟨k - 1, by omega⟩
      have h := ih t (pre ++ [x]) (qre ++ [y]) k (by omega) (by simp; omega) (by omega) (by simp; omega)
      have hy : rd_T52 (qre ++ y :: t) (pre.length : Int) = y := by rw [hq]; exact rdEdge_mid qre y t
      simp only [laws_eqEdgeS.l0]
      rw [if_pos (by simp; omega), if_pos (by omega), if_pos (by simp; omega), rdEdge_mid, hy, eqEdge_is, wrap_id (by omega) (by omega)]
      simp only [Option.bind_some]
      by_cases e : x = y
      · subst e
        rw [if_pos (by simp)]
        simpa using h
      · rw [if_neg (by simpa using e)]
        simp [e]
theorem eqEdgeS_ev (s t : List S52) (hs : s.length ≤ 1099511627776) : Ev (fun k => laws_eqEdgeS.f k s t) (decide (s = t)) := by
  refine ⟨s.length + 1, fun k hk => ?_⟩
  show laws_eqEdgeS.f k s t = _
  unfold laws_eqEdgeS.f
  by_cases hl : s.length = t.length
  · rw [if_pos (by omega)]
    exact eqEdgeS_l s t [] [] k (by omega) rfl hl (by simp; omega)
  · rw [if_neg (by omega)]
    have : s ≠ t := fun e => hl (by rw [e])
    simp [this]
theorem szEdgeS_is (l : List S65) (hl : l.length ≤ maxLen) (a : Int) (h0 : 0 ≤ a) (h1 : a ≤ 1048576) : laws_szEdgeS.f l a = some (if a - l.length < 0 then -1 else a - l.length) := by
  have hm : l.length ≤ 9223372036854775807 := by unfold maxLen at hl; exact hl
  unfold laws_szEdgeS.f
  rw [wrap_id (by omega) (by omega)]
  split <;> rfl
end Go.Proofs.Ytpbnpepikkocmaa.P

namespace Go.Proofs.Ytpbnpepikkocmaa.P
open Go.RowKit Go.Proofs.YtpbnpepikkocmaaW.PrintWords Go.Proofs.YtpbnpepikkocmaaW.PrintLast
set_option linter.unusedVariables false
set_option linter.unusedSimpArgs false
def isEdge (m : Int) (x : S52) : Bool := decide (0 ≤ x.f0 ∧ x.f0 ≤ m ∧ 0 ≤ x.f1 ∧ x.f1 ≤ m ∧ x.f0 < x.f1 ∧ 1 ≤ x.f2 ∧ x.f2 ≤ 100)
def edgeLt (y x : S52) : Bool := decide (y.f0 < x.f0 ∨ y.f0 = x.f0 ∧ y.f1 < x.f1)
def goodEF (m : Int) : Option S52 → List S52 → Bool
  | _, [] => true
  | none, x :: r => isEdge m x && goodEF m (some x) r
  | some y, x :: r => isEdge m x && (edgeLt y x && goodEF m (some x) r)
def goodE (n : Int) (l : List S52) : Bool := goodEF (wrap64 (n - 1)) none l && (decide (1 ≤ n ∧ n ≤ 12) && decide (l.length ≤ 40))
theorem specIn (a b c : Int) : spec_l1In.f a b c = some (decide (b ≤ a ∧ a ≤ c)) := by
  unfold spec_l1In.f
  by_cases h : b ≤ a <;> simp [h]
theorem implIn (a b c : Int) : impl_in.f a b c = some (decide (b ≤ a ∧ a ≤ c)) := specIn a b c
theorem isEdge_iff (m : Int) (x : S52) : isEdge m x = true ↔ (0 ≤ x.f0 ∧ x.f0 ≤ m ∧ 0 ≤ x.f1 ∧ x.f1 ≤ m ∧ x.f0 < x.f1 ∧ 1 ≤ x.f2 ∧ x.f2 ≤ 100) := by unfold isEdge; simp only [decide_eq_true_eq]
theorem specGoodE_l (n : Int) (suf : List S52) : ∀ (pre : List S52), (pre.length : Int) + suf.length ≤ 1099511627776 →
    Ev (fun k => spec_GoodEdges.l0 k n (pre ++ suf) (pre ++ suf) ((pre ++ suf).length : Int) (pre.length : Int)) (goodEF (wrap64 (n - 1)) pre.getLast? suf && (decide (1 ≤ n ∧ n ≤ 12) && decide ((pre ++ suf).length ≤ 40))) := by
  induction suf with
  | nil =>
    intro pre hb
    refine Ev.succ ?_
    simp only [spec_GoodEdges.l0]
    simp only [if_neg (show ¬ (pre.length : Int) < ((pre ++ ([] : List S52)).length : Int) by simp), specIn, Option.bind_some]
    have : goodEF (wrap64 (n - 1)) pre.getLast? [] = true := by cases pre.getLast? <;> rfl
    rw [this, Bool.true_and]
    by_cases h : 1 ≤ n ∧ n ≤ 12
    · simp only [h, and_self, decide_true, if_true, Bool.true_and]
      refine Ev.some_ ?_
      congr 1
      simp only [eq_iff_iff]
      omega
    · simp only [h, decide_false, Bool.false_eq_true, if_false, Bool.false_and]
      exact Ev.now _
  | cons x suf ih =>
    intro pre hb
    simp only [List.length_cons] at hb
    have c1 : (pre.length : Int) < ((pre ++ x :: suf).length : Int) := by simp <;> omega
    have c0 : (0 : Int) ≤ (pre.length : Int) := by omega
    have h := ih (pre ++ [x]) (by simp <;> omega)
    rw [← app_one, len_one, List.getLast?_concat] at h
    refine Ev.succ ?_
    simp only [spec_GoodEdges.l0]
    simp only [if_pos c1, if_pos c0, rdEdge_mid, specIn, Option.bind_some]
    generalize wrap64 (n - 1) = m at h ⊢
    generalize hfin : (decide (1 ≤ n ∧ n ≤ 12) && decide ((pre ++ x :: suf).length ≤ 40)) = fin at h ⊢
    have bad : ∀ (b : Bool), isEdge m x = false → b = true → Ev (fun k => spec_GoodEdges.j1 k n (pre ++ x :: suf) (pre.length : Int) (pre ++ x :: suf) ((pre ++ x :: suf).length : Int) (pre.length : Int) b x.f0 x.f1 x.f2) (goodEF m pre.getLast? (x :: suf) && fin) := by
      intro b he hb
      refine Ev.succ ?_
      simp only [spec_GoodEdges.j1, hb, if_true]
      refine Ev.some_ ?_
      cases pre.getLast? <;> simp [goodEF, he]
    by_cases h1 : 0 ≤ x.f0 ∧ x.f0 ≤ m
    · simp only [h1, and_self, decide_true, if_true]
      by_cases h2 : 0 ≤ x.f1 ∧ x.f1 ≤ m
      · simp only [h2, and_self, decide_true, if_true]
        by_cases h3 : x.f0 ≥ x.f1
        · simp only [if_pos h3]
          refine bad true ?_ rfl
          unfold isEdge; simp only [decide_eq_false_iff_not]; omega
        · simp only [if_neg h3]
          by_cases h4 : 1 ≤ x.f2 ∧ x.f2 ≤ 100
          · have he : isEdge m x = true := by rw [isEdge_iff]; omega
            simp only [h4, and_self, decide_true, Bool.not_true]
            refine Ev.succ ?_
            simp only [spec_GoodEdges.j1, Bool.false_eq_true, if_false]
            rw [wrap_id (x := (pre.length : Int) + 1) (by omega) (by omega)]
            rcases nil_or_snoc pre with rfl | ⟨pre', y, rfl⟩
            · simp only [if_neg (show ¬ (([] : List S52).length : Int) > 0 by simp)]
              have e : goodEF m ([] : List S52).getLast? (x :: suf) = goodEF m (some x) suf := by simp [goodEF, he]
              rw [e]
              exact h
            · have hy : rd_T52 ((pre' ++ [y]) ++ x :: suf) (((pre' ++ [y]).length : Int) - 1) = y := by
                rw [show ((pre' ++ [y]) ++ x :: suf) = pre' ++ y :: (x :: suf) by simp, show (((pre' ++ [y]).length : Int) - 1) = (pre'.length : Int) by simp]
                exact rdEdge_mid _ _ _
              have q0 : (((pre' ++ [y]).length : Int)) > 0 := by simp <;> omega
              rw [wrap_id (x := ((pre' ++ [y]).length : Int) - 1) (by omega) (by omega)]
              simp only [if_pos q0, if_pos (show 0 ≤ ((pre' ++ [y]).length : Int) - 1 by omega), if_pos (show ((pre' ++ [y]).length : Int) - 1 < (((pre' ++ [y]) ++ x :: suf).length : Int) by omega), hy]
              have e : goodEF m (pre' ++ [y]).getLast? (x :: suf) = (edgeLt y x && goodEF m (some x) suf) := by simp [goodEF, he]
              rw [e]
              by_cases g1 : y.f0 > x.f0
              · simp only [if_pos g1]
                refine Ev.some_ ?_
                have : edgeLt y x = false := by unfold edgeLt; simp only [decide_eq_false_iff_not]; omega
                rw [this]; rfl
              · simp only [if_neg g1]
                by_cases g2 : y.f0 = x.f0
                · simp only [if_pos g2]
                  by_cases g3 : y.f1 ≥ x.f1
                  · simp only [if_pos g3]
                    refine Ev.some_ ?_
                    have : edgeLt y x = false := by unfold edgeLt; simp only [decide_eq_false_iff_not]; omega
                    rw [this]; rfl
                  · simp only [if_neg g3]
                    have : edgeLt y x = true := by unfold edgeLt; simp only [decide_eq_true_eq]; omega
                    rw [this, Bool.true_and]
                    exact h
                · simp only [if_neg g2]
                  have : edgeLt y x = true := by unfold edgeLt; simp only [decide_eq_true_eq]; omega
                  rw [this, Bool.true_and]
                  exact h
          · simp only [h4, decide_false, Bool.not_false]
            refine bad true ?_ rfl
            unfold isEdge; simp only [decide_eq_false_iff_not]; omega
      · simp only [h2, decide_false, Bool.false_eq_true, if_false]
        refine bad true ?_ rfl
        unfold isEdge; simp only [decide_eq_false_iff_not]; omega
    · simp only [h1, decide_false, Bool.false_eq_true, if_false]
      refine bad true ?_ rfl
      unfold isEdge; simp only [decide_eq_false_iff_not]; omega
theorem specGoodE_ev (n : Int) (l : List S52) (hl : l.length ≤ 1048576) : Ev (fun k => spec_GoodEdges.f k n l) (goodE n l) := by
  unfold spec_GoodEdges.f
  exact specGoodE_l n l [] (by simp <;> omega)
theorem implGoodE_l (n : Int) (hm : wrap64 (n - 1) ≤ 9223372036854775807) (suf : List S52) : ∀ (pre : List S52), (pre.length : Int) + suf.length ≤ 1099511627776 → (∀ y, pre.getLast? = some y → isEdge (wrap64 (n - 1)) y = true) →
    Ev (fun k => impl_GoodEdges.l0 k n (pre ++ suf) (pre ++ suf) ((pre ++ suf).length : Int) (pre.length : Int)) (goodEF (wrap64 (n - 1)) pre.getLast? suf && (decide (1 ≤ n ∧ n ≤ 12) && decide ((pre ++ suf).length ≤ 40))) := by
  induction suf with
  | nil =>
    intro pre hb _
    refine Ev.succ ?_
    simp only [impl_GoodEdges.l0]
    simp only [if_neg (show ¬ (pre.length : Int) < ((pre ++ ([] : List S52)).length : Int) by simp), impl_isSpots.f, implIn, Option.bind_some]
    have : goodEF (wrap64 (n - 1)) pre.getLast? [] = true := by cases pre.getLast? <;> rfl
    rw [this, Bool.true_and]
    by_cases h : 1 ≤ n ∧ n ≤ 12
    · simp only [h, and_self, decide_true, if_true, Bool.true_and]
      refine Ev.some_ ?_
      congr 1
      simp only [eq_iff_iff]
      omega
    · simp only [h, decide_false, Bool.false_eq_true, if_false, Bool.false_and]
      exact Ev.now _
  | cons x suf ih =>
    intro pre hb hlast
    simp only [List.length_cons] at hb
    have c1 : (pre.length : Int) < ((pre ++ x :: suf).length : Int) := by simp <;> omega
    have c0 : (0 : Int) ≤ (pre.length : Int) := by omega
    have h := ih (pre ++ [x]) (by simp <;> omega)
    rw [← app_one, len_one, List.getLast?_concat] at h
    refine Ev.succ ?_
    simp only [impl_GoodEdges.l0]
    simp only [if_pos c1, if_pos c0, rdEdge_mid, implIn, Option.bind_some]
    generalize wrap64 (n - 1) = m at h hm hlast ⊢
    generalize hfin : (decide (1 ≤ n ∧ n ≤ 12) && decide ((pre ++ x :: suf).length ≤ 40)) = fin at h ⊢
    have bad : isEdge m x = false → Ev (fun k => some false) (goodEF m pre.getLast? (x :: suf) && fin) := by
      intro he
      refine Ev.some_ ?_
      cases pre.getLast? <;> simp [goodEF, he]
    by_cases h1 : 0 ≤ x.f0 ∧ x.f0 ≤ m
    · simp only [h1, and_self, decide_true, if_true]
      by_cases h2 : 0 ≤ x.f1 ∧ x.f1 ≤ m
      · simp only [h2, and_self, decide_true, if_true]
        by_cases h3 : x.f0 ≥ x.f1
        · simp only [if_pos h3]
          refine bad ?_
          unfold isEdge; simp only [decide_eq_false_iff_not]; omega
        · simp only [if_neg h3]
          by_cases h4 : 1 ≤ x.f2 ∧ x.f2 ≤ 100
          · have he : isEdge m x = true := by rw [isEdge_iff]; omega
            have h := h (fun y hy => by cases hy; exact he)
            simp only [h4, and_self, decide_true, if_true]
            rw [wrap_id (x := (pre.length : Int) + 1) (by omega) (by omega)]
            rcases nil_or_snoc pre with rfl | ⟨pre', y, rfl⟩
            · simp only [if_neg (show ¬ (([] : List S52).length : Int) > 0 by simp)]
              have e : goodEF m ([] : List S52).getLast? (x :: suf) = goodEF m (some x) suf := by simp [goodEF, he]
              rw [e]
              exact h
            · have hy : rd_T52 ((pre' ++ [y]) ++ x :: suf) (((pre' ++ [y]).length : Int) - 1) = y := by
                rw [show ((pre' ++ [y]) ++ x :: suf) = pre' ++ y :: (x :: suf) by simp, show (((pre' ++ [y]).length : Int) - 1) = (pre'.length : Int) by simp]
                exact rdEdge_mid _ _ _
              have hye := (isEdge_iff m y).1 (hlast y (by simp))
              have hxe := (isEdge_iff m x).1 he
              have q0 : (((pre' ++ [y]).length : Int)) > 0 := by simp <;> omega
              rw [wrap_id (x := ((pre' ++ [y]).length : Int) - 1) (by omega) (by omega)]
              simp only [if_pos q0, if_pos (show 0 ≤ ((pre' ++ [y]).length : Int) - 1 by omega), if_pos (show ((pre' ++ [y]).length : Int) - 1 < (((pre' ++ [y]) ++ x :: suf).length : Int) by omega), hy]
              have e : goodEF m (pre' ++ [y]).getLast? (x :: suf) = (edgeLt y x && goodEF m (some x) suf) := by simp [goodEF, he]
              rw [e]
              have eb : impl_byEnds.f y.f0 y.f1 y.f2 x.f0 x.f1 x.f2 = some (if y.f0 = x.f0 then y.f1 - x.f1 else y.f0 - x.f0) := by
                unfold impl_byEnds.f
                split
                · rw [wrap_id (by omega) (by omega)]
                · rw [wrap_id (by omega) (by omega)]
              simp only [eb, Option.bind_some]
              by_cases g : edgeLt y x = true
              · have g' : (y.f0 < x.f0 ∨ y.f0 = x.f0 ∧ y.f1 < x.f1) := by unfold edgeLt at g; simpa only [decide_eq_true_eq] using g
                rw [g, Bool.true_and]
                simp only [if_neg (show ¬ (if y.f0 = x.f0 then y.f1 - x.f1 else y.f0 - x.f0) ≥ 0 by split <;> omega)]
                exact h
              · have g' : ¬ (y.f0 < x.f0 ∨ y.f0 = x.f0 ∧ y.f1 < x.f1) := by unfold edgeLt at g; simpa only [decide_eq_true_eq] using g
                simp only [if_pos (show (if y.f0 = x.f0 then y.f1 - x.f1 else y.f0 - x.f0) ≥ 0 by split <;> omega)]
                refine Ev.some_ ?_
                rw [Bool.not_eq_true] at g
                rw [g]; rfl
          · simp only [h4, decide_false, Bool.false_eq_true, if_false]
            refine bad ?_
            unfold isEdge; simp only [decide_eq_false_iff_not]; omega
      · simp only [h2, decide_false, Bool.false_eq_true, if_false]
        refine bad ?_
        unfold isEdge; simp only [decide_eq_false_iff_not]; omega
    · simp only [h1, decide_false, Bool.false_eq_true, if_false]
      refine bad ?_
      unfold isEdge; simp only [decide_eq_false_iff_not]; omega
theorem wrap_top (x : Int) : -9223372036854775808 ≤ wrap64 x ∧ wrap64 x ≤ 9223372036854775807 := by unfold wrap64; omega
theorem implGoodE_ev (n : Int) (l : List S52) (hl : l.length ≤ 1048576) : Ev (fun k => impl_GoodEdges.f k n l) (goodE n l) := by
  unfold impl_GoodEdges.f
  exact implGoodE_l n (wrap_top _).2 l [] (by simp <;> omega) (fun y hy => by simp at hy)
/-- What good edges are. -/
theorem goodE_n {n : Int} {l : List S52} (h : goodE n l = true) : 1 ≤ n ∧ n ≤ 12 ∧ l.length ≤ 40 := by
  unfold goodE at h
  simp only [Bool.and_eq_true, decide_eq_true_eq] at h
  exact ⟨h.2.1.1, h.2.1.2, h.2.2⟩
theorem goodEF_all {m : Int} : ∀ (l : List S52) (o : Option S52), goodEF m o l = true → ∀ x ∈ l, isEdge m x = true
  | [], _, _, x, hx => by simp at hx
  | y :: r, o, h, x, hx => by
    have h2 : isEdge m y = true ∧ goodEF m (some y) r = true := by
      cases o with
      | none => simpa [goodEF] using h
      | some z =>
        simp only [goodEF, Bool.and_eq_true] at h
        exact ⟨h.1, h.2.2⟩
    rcases List.mem_cons.1 hx with rfl | hx
    · exact h2.1
    · exact goodEF_all r _ h2.2 x hx
theorem goodE_edge {n : Int} {l : List S52} (h : goodE n l = true) : ∀ x ∈ l, 0 ≤ x.f0 ∧ x.f0 < x.f1 ∧ x.f1 < n ∧ 1 ≤ x.f2 ∧ x.f2 ≤ 100 := by
  have hn := goodE_n h
  intro x hx
  unfold goodE at h
  simp only [Bool.and_eq_true] at h
  have := (isEdge_iff _ _).1 (goodEF_all l none h.1 x hx)
  rw [wrap_id (by omega) (by omega)] at this
  omega
end Go.Proofs.Ytpbnpepikkocmaa.P

namespace Go.Proofs.Ytpbnpepikkocmaa.P
open Go.RowKit Go.Proofs.YtpbnpepikkocmaaW.PrintWords Go.Proofs.YtpbnpepikkocmaaW.PrintLast
set_option linter.unusedVariables false
set_option linter.unusedSimpArgs false
/-- The spots' own numbers. -/
def own0 (n : Nat) : List Int := (List.range n).map fun (i : Nat) => (i : Int)
theorem own0_len (n : Nat) : (own0 n).length = n := by simp [own0]
end Go.Proofs.Ytpbnpepikkocmaa.P

namespace Go.Proofs.Ytpbnpepikkocmaa.P
open Go.RowKit Go.Proofs.YtpbnpepikkocmaaW.PrintWords Go.Proofs.YtpbnpepikkocmaaW.PrintLast
set_option linter.unusedVariables false
set_option linter.unusedSimpArgs false
theorem rd_mid (pre : List Int) (x : Int) (suf : List Int) : rd (pre ++ x :: suf) (pre.length : Int) = x := getD_mid _ pre x suf
theorem eqIntS_l (s : List Int) : ∀ (t pre qre : List Int) (k : Nat), s.length < k → pre.length = qre.length → s.length = t.length → (pre.length : Int) + s.length ≤ 1099511627776 →
    laws_eqIntS.l0 k (pre ++ s) (qre ++ t) (pre.length : Int) = some (decide (s = t)) := by
  induction s with
  | nil =>
    intro t pre qre k hk hq hl hb
    obtain ⟨k, rfl⟩ : ∃ m, k = m + 1 := ⟨k - 1, by omega⟩
    obtain rfl : t = [] := List.eq_nil_of_length_eq_zero (by simpa using hl.symm)
    simp only [laws_eqIntS.l0]
    rw [if_neg (by simp)]
    simp
  | cons x s ih =>
    intro t pre qre k hk hq hl hb
    cases t with
    | nil => simp at hl
    | cons y t =>
      simp only [List.length_cons] at hk hl hb
      obtain ⟨k, rfl⟩ : ∃ m, k = m + 1 := ⟨k - 1, by omega⟩
      have h := ih t (pre ++ [x]) (qre ++ [y]) k (by omega) (by simp; omega) (by omega) (by simp; omega)
      have hy : rd (qre ++ y :: t) (pre.length : Int) = y := by rw [hq]; exact rd_mid qre y t
      simp only [laws_eqIntS.l0]
      rw [if_pos (by simp <;> omega), if_pos (by omega), if_pos (by simp <;> omega), rd_mid, hy, wrap_id (by omega) (by omega)]
      by_cases e : x = y
      · subst e
        rw [if_pos rfl]
        simpa using h
      · rw [if_neg e]
        simp [e]
theorem eqIntS_ev (s t : List Int) (hs : s.length ≤ 1099511627776) : Ev (fun k => laws_eqIntS.f k s t) (decide (s = t)) := by
  refine ⟨s.length + 1, fun k hk => ?_⟩
  show laws_eqIntS.f k s t = _
  unfold laws_eqIntS.f
  by_cases hl : s.length = t.length
  · rw [if_pos (by omega)]
    exact eqIntS_l s t [] [] k (by omega) rfl hl (by simp; omega)
  · rw [if_neg (by omega)]
    have : s ≠ t := fun e => hl (by rw [e])
    simp [this]
end Go.Proofs.Ytpbnpepikkocmaa.P

namespace Go.Proofs.Ytpbnpepikkocmaa.P
open Go.RowKit Go.Proofs.YtpbnpepikkocmaaW.PrintWords Go.Proofs.YtpbnpepikkocmaaW.PrintLast
set_option linter.unusedVariables false
set_option linter.unusedSimpArgs false
-- sweeps over a list of numbers; the least of two
theorem mn_is (a b : Int) : mn a b = min a b := by
  unfold mn
  split
  · rw [Int.min_eq_right (by omega)]
  · rw [Int.min_eq_left (by omega)]
theorem own0_succ (n : Nat) : own0 (n + 1) = own0 n ++ [(n : Int)] := by
  unfold own0
  rw [List.range_succ, List.map_append]
  rfl
def allIn (a b : Int) (l : List Int) : Bool := l.all fun x => decide (a ≤ x ∧ x ≤ b)
theorem implAll_l (a b : Int) (suf : List Int) : ∀ (pre : List Int), ((pre ++ suf).length : Int) ≤ 1099511627776 → Ev (fun k => impl_allIn.l0 k a b (pre ++ suf) ((pre ++ suf).length : Int) pre.length) (allIn a b suf) := by
  induction suf with
  | nil =>
    intro pre h
    refine Ev.succ ?_
    simp only [impl_allIn.l0, List.append_nil, Int.lt_irrefl, if_false]
    exact Ev.now _
  | cons x suf ih =>
    intro pre h
    refine Ev.succ ?_
    rw [len_mid] at h ⊢
    simp only [impl_allIn.l0]
    simp only [if_pos (show ((pre.length : Int) < pre.length + suf.length + 1) by omega), if_pos (show (0 : Int) ≤ pre.length by omega), len_mid, rd_mid, implIn, Option.bind_some, wrap_id (show (-9223372036854775808 : Int) ≤ pre.length + 1 by omega) (show ((pre.length : Int) + 1 ≤ 9223372036854775807) by omega)]
    by_cases hx : a ≤ x ∧ x ≤ b
    · have := ih (pre ++ [x]) (by rw [← app_one, len_mid]; exact h)
      rw [← app_one, len_mid, len_one] at this
      simp only [hx, and_self, decide_true, if_true]
      rw [show allIn a b (x :: suf) = allIn a b suf by simp [allIn, hx]]
      exact this
    · simp only [decide_eq_true_eq, if_neg hx]
      rw [show allIn a b (x :: suf) = false by simp [allIn]; intro h1 h2; exact absurd ⟨h1, h2⟩ hx]
      exact Ev.now _
theorem implAll_ev (a b : Int) (l : List Int) (h : (l.length : Int) ≤ 1099511627776) : Ev (fun k => impl_allIn.f k l a b) (allIn a b l) := by
  have := implAll_l a b l [] h
  exact this
theorem mx_is (a b : Int) : mx a b = max a b := by
  unfold mx
  split <;> omega
theorem own0_mem (n : Nat) (x : Int) : x ∈ own0 n ↔ 0 ≤ x ∧ x < n := by
  unfold own0
  rw [List.mem_map]
  constructor
  · rintro ⟨i, hi, rfl⟩
    have := List.mem_range.1 hi
    omega
  · intro ⟨h0, h1⟩
    exact ⟨x.toNat, List.mem_range.2 (by omega), by omega⟩
theorem own0_sorted : ∀ (n : Nat), (own0 n).Pairwise (· < ·)
  | 0 => by simp [own0]
  | n + 1 => by
    rw [own0_succ]
    refine List.pairwise_append.2 ⟨own0_sorted n, by simp, fun a ha b hb => ?_⟩
    have := (own0_mem n a).1 ha
    simp only [List.mem_singleton] at hb
    omega
end Go.Proofs.Ytpbnpepikkocmaa.P

namespace Go.Proofs.Ytpbnpepikkocmaa.P
open Go.RowKit Go.Proofs.YtpbnpepikkocmaaW.PrintWords Go.Proofs.YtpbnpepikkocmaaW.PrintLast
set_option linter.unusedVariables false
set_option linter.unusedSimpArgs false
-- the neighbours of a node: the sorted puts and the sweep over costs give one list
def putI : List Int → Int → List Int
  | [], x => [x]
  | y :: r, x => if y < x then y :: putI r x else if y = x then y :: r else x :: y :: r
theorem putI_len : ∀ (l : List Int) (x : Int), (putI l x).length ≤ l.length + 1
  | [], x => by simp [putI]
  | y :: r, x => by
    have := putI_len r x
    unfold putI
    split
    · simp; omega
    · split <;> simp
theorem putI_mem : ∀ (l : List Int) (x z : Int), z ∈ putI l x ↔ z = x ∨ z ∈ l
  | [], x, z => by simp [putI]
  | y :: r, x, z => by
    have := putI_mem r x z
    unfold putI
    split
    · simp only [List.mem_cons, this]
      constructor
      · rintro (h | h | h) <;> simp [h]
      · rintro (h | h | h) <;> simp [h]
    · split
      · rename_i h
        subst h
        simp
      · simp
theorem putI_sorted : ∀ (l : List Int) (x : Int), l.Pairwise (· < ·) → (putI l x).Pairwise (· < ·)
  | [], x, _ => by simp [putI]
  | y :: r, x, h => by
    have h1 := List.pairwise_cons.1 h
    have := putI_sorted r x h1.2
    unfold putI
    split
    · rename_i hyx
      refine List.pairwise_cons.2 ⟨fun z hz => ?_, this⟩
      rcases (putI_mem r x z).1 hz with h2 | h2
      · omega
      · exact h1.1 z h2
    · split
      · exact h
      · refine List.pairwise_cons.2 ⟨fun z hz => ?_, h⟩
        rcases List.mem_cons.1 hz with h2 | h2
        · omega
        · have := h1.1 z h2
          omega
theorem sorted_ext : ∀ (a b : List Int), a.Pairwise (· < ·) → b.Pairwise (· < ·) → (∀ x, x ∈ a ↔ x ∈ b) → a = b
  | [], [], _, _, _ => rfl
  | [], y :: b, _, _, h => by have := (h y).2 (List.mem_cons_self ..); simp at this
  | x :: a, [], _, _, h => by have := (h x).1 (List.mem_cons_self ..); simp at this
  | x :: a, y :: b, ha, hb, h => by
    have ha1 := List.pairwise_cons.1 ha
    have hb1 := List.pairwise_cons.1 hb
    have hxy : x = y := by
      rcases List.mem_cons.1 ((h x).1 (List.mem_cons_self ..)) with h1 | h1
      · exact h1
      · rcases List.mem_cons.1 ((h y).2 (List.mem_cons_self ..)) with h2 | h2
        · exact h2.symm
        · have := ha1.1 y h2
          have := hb1.1 x h1
          omega
    subst hxy
    rw [sorted_ext a b ha1.2 hb1.2 fun z => ?_]
    constructor
    · intro hz
      rcases List.mem_cons.1 ((h z).1 (List.mem_cons_of_mem _ hz)) with h1 | h1
      · have := ha1.1 z hz
        omega
      · exact h1
    · intro hz
      rcases List.mem_cons.1 ((h z).2 (List.mem_cons_of_mem _ hz)) with h1 | h1
      · have := hb1.1 z hz
        omega
      · exact h1
theorem put_l (x : Int) (suf : List Int) : ∀ (pre : List Int), ((pre ++ suf).length : Int) ≤ 4398046511104 → Ev (fun k => spec_l1Put.l0 k (pre ++ suf) x pre.length) (pre ++ putI suf x) := by
  induction suf with
  | nil =>
    intro pre h
    refine Ev.succ ?_
    simp only [List.append_nil] at h ⊢
    have h0 : pre.length < 17592186044416 := by omega
    simp only [spec_l1Put.l0, Int.lt_irrefl, if_false, Option.bind_some, if_pos (show (0 : Int) ≤ pre.length by omega), if_pos (Int.le_refl (pre.length : Int)), Int.toNat_natCast, List.take_length, List.drop_length, List.nil_append, List.length_nil, Nat.zero_add, if_pos h0, List.length_append, List.length_cons, Nat.add_zero, List.append_nil, if_pos (show pre.length + (0 + 1) < 17592186044416 by omega), if_pos (show pre.length + 1 < 17592186044416 by omega), putI]
    exact Ev.now _
  | cons y suf ih =>
    intro pre h
    refine Ev.succ ?_
    have hl := len_mid pre y suf
    rw [hl] at h
    simp only [spec_l1Put.l0, hl, rd_mid, if_pos (show ((pre.length : Int) < pre.length + suf.length + 1) by omega), if_pos (show (0 : Int) ≤ pre.length by omega), wrap_id (show (-9223372036854775808 : Int) ≤ pre.length + 1 by omega) (show ((pre.length : Int) + 1 ≤ 9223372036854775807) by omega)]
    by_cases h1 : y < x
    · have := ih (pre ++ [y]) (by rw [← app_one, hl]; exact h)
      rw [← app_one, len_one] at this
      simp only [if_pos h1, putI]
      rw [app_one] at this
      rw [app_one pre y (putI suf x)]
      rw [← app_one] at this
      exact this
    · by_cases h2 : y = x
      · simp only [if_neg h1, if_pos h2, putI]
        exact Ev.now _
      · have h0 : pre.length < 17592186044416 := by omega
        simp only [if_neg h1, if_neg h2, putI, Option.bind_some, if_pos (show (pre.length : Int) ≤ pre.length + suf.length + 1 by omega), Int.toNat_natCast, List.take_left, List.drop_left, List.nil_append, List.length_nil, Nat.zero_add, if_pos h0, List.length_append, List.length_cons, if_pos (show pre.length + 1 + (suf.length + 1) < 17592186044416 by omega), if_pos (show pre.length + (0 + 1) + (suf.length + 1) < 17592186044416 by omega), List.append_assoc, List.cons_append]
        exact Ev.now _
theorem put_ev (l : List Int) (x : Int) (h : (l.length : Int) ≤ 4398046511104) : Ev (fun k => spec_l1Put.f k l x) (putI l x) := by
  have := put_l x l [] h
  exact this
def nearStep (v : Int) (out : List Int) (e : S52) : List Int := if e.f0 = v then (if e.f1 = v then putI (putI out e.f1) e.f0 else putI out e.f1) else (if e.f1 = v then putI out e.f0 else out)
theorem nearStep_len (v : Int) (out : List Int) (e : S52) : (nearStep v out e).length ≤ out.length + 2 := by
  unfold nearStep
  split
  · split
    · have := putI_len (putI out e.f1) e.f0
      have := putI_len out e.f1
      omega
    · have := putI_len out e.f1
      omega
  · split
    · have := putI_len out e.f0
      omega
    · omega
theorem specNear_l (v : Int) (suf : List S52) : ∀ (pre : List S52) (out : List Int), ((pre ++ suf).length : Int) ≤ 1099511627776 → (out.length : Int) ≤ 2 * pre.length →
    Ev (fun k => spec_l8Near.l0 k v out (pre ++ suf) ((pre ++ suf).length : Int) pre.length) (suf.foldl (nearStep v) out) := by
  induction suf with
  | nil =>
    intro pre out h ho
    refine Ev.succ ?_
    simp only [spec_l8Near.l0, List.append_nil, Int.lt_irrefl, if_false, List.foldl_nil]
    exact Ev.now _
  | cons e suf ih =>
    intro pre out h ho
    refine Ev.succ ?_
    rw [len_mid] at h ⊢
    have hs := nearStep_len v out e
    have := ih (pre ++ [e]) (nearStep v out e) (by rw [← app_one, len_mid]; exact h) (by rw [len_one]; omega)
    rw [← app_one, len_mid, len_one] at this
    simp only [spec_l8Near.l0, List.foldl_cons]
    simp only [if_pos (show ((pre.length : Int) < pre.length + suf.length + 1) by omega), if_pos (show (0 : Int) ≤ pre.length by omega), len_mid, rdEdge_mid, wrap_id (show (-9223372036854775808 : Int) ≤ pre.length + 1 by omega) (show ((pre.length : Int) + 1 ≤ 9223372036854775807) by omega)]
    have hp := putI_len out e.f1
    by_cases h1 : e.f0 = v
    · by_cases h2 : e.f1 = v
      · simp only [if_pos h1, if_pos h2]
        refine Ev.bind (put_ev _ _ (by omega)) ?_
        refine Ev.bind (put_ev _ _ (by omega)) ?_
        rw [show nearStep v out e = putI (putI out e.f1) e.f0 by simp [nearStep, h1, h2]] at this
        rw [show nearStep v out e = putI (putI out e.f1) e.f0 by simp [nearStep, h1, h2]]
        exact this
      · simp only [if_pos h1, if_neg h2]
        refine Ev.bind (put_ev _ _ (by omega)) ?_
        rw [show nearStep v out e = putI out e.f1 by simp only [nearStep, if_pos h1, if_neg h2]] at this
        rw [show nearStep v out e = putI out e.f1 by simp only [nearStep, if_pos h1, if_neg h2]]
        exact this
    · by_cases h2 : e.f1 = v
      · simp only [if_neg h1, if_pos h2]
        refine Ev.bind (put_ev _ _ (by omega)) ?_
        rw [show nearStep v out e = putI out e.f0 by simp only [nearStep, if_neg h1, if_pos h2]] at this
        rw [show nearStep v out e = putI out e.f0 by simp only [nearStep, if_neg h1, if_pos h2]]
        exact this
      · simp only [if_neg h1, if_neg h2]
        rw [show nearStep v out e = out by simp only [nearStep, if_neg h1, if_neg h2]] at this
        rw [show nearStep v out e = out by simp only [nearStep, if_neg h1, if_neg h2]]
        exact this
def nearS (l : List S52) (v : Int) : List Int := l.foldl (nearStep v) []
theorem specNear_ev (l : List S52) (v : Int) (h : (l.length : Int) ≤ 1099511627776) : Ev (fun k => spec_l8Near.f k l v) (nearS l v) := by
  have := specNear_l v l [] [] h (by simp)
  exact this
theorem foldNear (v : Int) : ∀ (l : List S52) (out : List Int), out.Pairwise (· < ·) → (l.foldl (nearStep v) out).Pairwise (· < ·) ∧ ∀ x, x ∈ l.foldl (nearStep v) out ↔ x ∈ out ∨ ∃ e ∈ l, (e.f0 = v ∧ e.f1 = x) ∨ (e.f1 = v ∧ e.f0 = x)
  | [], out, h => by simp [h]
  | e :: l, out, h => by
    have h1 : (nearStep v out e).Pairwise (· < ·) := by
      unfold nearStep
      split
      · split
        · exact putI_sorted _ _ (putI_sorted _ _ h)
        · exact putI_sorted _ _ h
      · split
        · exact putI_sorted _ _ h
        · exact h
    have h2 : ∀ x, x ∈ nearStep v out e ↔ x ∈ out ∨ (e.f0 = v ∧ e.f1 = x) ∨ (e.f1 = v ∧ e.f0 = x) := by
      intro x
      unfold nearStep
      split
      · rename_i a
        split
        · rename_i b
          rw [putI_mem, putI_mem]
          constructor
          · rintro (c | c | c)
            · exact .inr (.inr ⟨b, c.symm⟩)
            · exact .inr (.inl ⟨a, c.symm⟩)
            · exact .inl c
          · rintro (c | c | c)
            · exact .inr (.inr c)
            · exact .inr (.inl c.2.symm)
            · exact .inl c.2.symm
        · rename_i b
          rw [putI_mem]
          constructor
          · rintro (c | c)
            · exact .inr (.inl ⟨a, c.symm⟩)
            · exact .inl c
          · rintro (c | c | c)
            · exact .inr c
            · exact .inl c.2.symm
            · exact absurd c.1 b
      · rename_i a
        split
        · rename_i b
          rw [putI_mem]
          constructor
          · rintro (c | c)
            · exact .inr (.inr ⟨b, c.symm⟩)
            · exact .inl c
          · rintro (c | c | c)
            · exact .inr c
            · exact absurd c.1 a
            · exact .inl c.2.symm
        · rename_i b
          constructor
          · exact .inl
          · rintro (c | c | c)
            · exact c
            · exact absurd c.1 a
            · exact absurd c.1 b
    have h3 := foldNear v l (nearStep v out e) h1
    refine ⟨h3.1, fun x => ?_⟩
    rw [List.foldl_cons, h3.2, h2]
    constructor
    · rintro ((c | c) | ⟨y, c, d⟩)
      · exact .inl c
      · exact .inr ⟨e, List.mem_cons_self .., c⟩
      · exact .inr ⟨y, List.mem_cons_of_mem _ c, d⟩
    · rintro (c | ⟨y, c, d⟩)
      · exact .inl (.inl c)
      · rcases List.mem_cons.1 c with rfl | c
        · exact .inl (.inr d)
        · exact .inr ⟨y, c, d⟩
def isAt (a b : Int) (e : S52) : Bool := decide (e.f0 = min a b ∧ e.f1 = max a b)
def costM (l : List S52) (a b : Int) : Int := match l.find? (isAt a b) with
  | some e => e.f2
  | none => 0
theorem implCost_l (a b : Int) (suf : List S52) : ∀ (pre : List S52), ((pre ++ suf).length : Int) ≤ 1099511627776 →
    Ev (fun k => impl_cost.l0 k a b (pre ++ suf) ((pre ++ suf).length : Int) pre.length) (costM suf a b) := by
  induction suf with
  | nil =>
    intro pre h
    refine Ev.succ ?_
    simp only [impl_cost.l0, List.append_nil, Int.lt_irrefl, if_false]
    exact Ev.now _
  | cons e suf ih =>
    intro pre h
    refine Ev.succ ?_
    rw [len_mid] at h ⊢
    have := ih (pre ++ [e]) (by rw [← app_one, len_mid]; exact h)
    rw [← app_one, len_mid, len_one] at this
    simp only [impl_cost.l0]
    simp only [if_pos (show ((pre.length : Int) < pre.length + suf.length + 1) by omega), if_pos (show (0 : Int) ≤ pre.length by omega), len_mid, rdEdge_mid, wrap_id (show (-9223372036854775808 : Int) ≤ pre.length + 1 by omega) (show ((pre.length : Int) + 1 ≤ 9223372036854775807) by omega), mn_is, mx_is]
    by_cases h1 : e.f0 = min a b
    · by_cases h2 : e.f1 = max a b
      · simp only [if_pos h1, if_pos h2]
        rw [show costM (e :: suf) a b = e.f2 by unfold costM; rw [List.find?_cons_of_pos (by simp only [isAt, h1, h2, and_self, decide_true])]]
        exact Ev.now _
      · simp only [if_pos h1, if_neg h2]
        rw [show costM (e :: suf) a b = costM suf a b by unfold costM; rw [List.find?_cons_of_neg (by simp only [isAt, h2, and_false, decide_false]; simp)]]
        exact this
    · simp only [if_neg h1]
      rw [show costM (e :: suf) a b = costM suf a b by unfold costM; rw [List.find?_cons_of_neg (by simp only [isAt, h1, false_and, decide_false]; simp)]]
      exact this
theorem implCost_ev (l : List S52) (a b : Int) (h : (l.length : Int) ≤ 1099511627776) : Ev (fun k => impl_cost.f k l a b) (costM l a b) := by
  have := implCost_l a b l [] h
  exact this
def nearM (n : Nat) (l : List S52) (v : Int) : List Int := (own0 n).filter fun u => decide (costM l v u > 0)
theorem nearM_succ (n : Nat) (l : List S52) (v : Int) : nearM (n + 1) l v = if costM l v n > 0 then nearM n l v ++ [(n : Int)] else nearM n l v := by
  unfold nearM
  rw [own0_succ, List.filter_append]
  split
  · rename_i h
    simp [h]
  · rename_i h
    simp [h]
theorem nearM_len (n : Nat) (l : List S52) (v : Int) : (nearM n l v).length ≤ n := by
  have := List.length_filter_le (fun u => decide (costM l v u > 0)) (own0 n)
  rw [own0_len] at this
  exact this
theorem implNear_l (l : List S52) (v : Int) (hb : (l.length : Int) ≤ 1099511627776) (d : Nat) : ∀ (c : Nat), c + d ≤ 1000000 →
    Ev (fun k => impl_near.l0 k l v (nearM c l v) ((c + d : Nat) : Int) c) (nearM (c + d) l v) := by
  induction d with
  | zero =>
    intro c h
    refine Ev.succ ?_
    simp only [impl_near.l0, Nat.add_zero, Int.lt_irrefl, if_false]
    exact Ev.now _
  | succ d ih =>
    intro c h
    refine Ev.succ ?_
    have := ih (c + 1) (by omega)
    rw [show c + 1 + d = c + (d + 1) by omega] at this
    have hl := nearM_len c l v
    simp only [impl_near.l0, if_pos (show (c : Int) < ((c + (d + 1) : Nat) : Int) by omega), wrap_id (show (-9223372036854775808 : Int) ≤ c + 1 by omega) (show ((c : Int) + 1 ≤ 9223372036854775807) by omega)]
    refine Ev.bind (implCost_ev l v c hb) ?_
    rw [nearM_succ] at this
    by_cases h1 : costM l v c > 0
    · simp only [if_pos h1, if_pos (show (nearM c l v).length < 17592186044416 by omega)] at this ⊢
      exact this
    · simp only [if_neg h1] at this ⊢
      exact this
theorem implNear_ev (n : Int) (l : List S52) (v : Int) (h0 : 0 ≤ n) (hn : n ≤ 1000) (hb : (l.length : Int) ≤ 1099511627776) : Ev (fun k => impl_near.f k n l v) (nearM n.toNat l v) := by
  have := implNear_l l v hb n.toNat 0 (by omega)
  rw [Nat.zero_add, show ((n.toNat : Nat) : Int) = n by omega] at this
  exact this
theorem costM_pos {n : Int} {l : List S52} (hx : ∀ x ∈ l, 0 ≤ x.f0 ∧ x.f0 < x.f1 ∧ x.f1 < n ∧ 1 ≤ x.f2 ∧ x.f2 ≤ 100) (a b : Int) : costM l a b > 0 ↔ ∃ e ∈ l, (e.f0 = a ∧ e.f1 = b) ∨ (e.f1 = a ∧ e.f0 = b) := by
  unfold costM
  cases hf : l.find? (isAt a b) with
  | none =>
    simp only [gt_iff_lt, Int.lt_irrefl, false_iff]
    rintro ⟨e, he, hc⟩
    have := hx e he
    have h1 := List.find?_eq_none.1 hf e he
    simp only [isAt, decide_eq_true_eq] at h1
    omega
  | some e =>
    have he := List.mem_of_find?_eq_some hf
    have := hx e he
    have h1 := List.find?_some hf
    simp only [isAt, decide_eq_true_eq] at h1
    simp only [gt_iff_lt]
    refine ⟨fun _ => ⟨e, he, ?_⟩, fun _ => by omega⟩
    omega
theorem near_same {n : Int} {l : List S52} (hx : ∀ x ∈ l, 0 ≤ x.f0 ∧ x.f0 < x.f1 ∧ x.f1 < n ∧ 1 ≤ x.f2 ∧ x.f2 ≤ 100) (v : Int) : nearS l v = nearM n.toNat l v := by
  have h := foldNear v l [] (by simp)
  refine sorted_ext _ _ h.1 ?_ fun x => ?_
  · exact (own0_sorted _).filter _
  · unfold nearM
    rw [List.mem_filter, own0_mem, decide_eq_true_eq, costM_pos hx]
    have h2 := h.2 x
    simp only [List.not_mem_nil, false_or] at h2
    refine h2.trans ⟨fun hc => ⟨?_, hc⟩, fun hc => hc.2⟩
    obtain ⟨e, he, hc⟩ := hc
    have := hx e he
    omega
theorem goodAt_ev (n : Int) (l : List S52) (q : List Int) (hl : l.length ≤ 1048576) (hq : (q.length : Int) ≤ 1099511627776) : Ev (fun k => impl_goodAt.f k n l q) (goodE n l && allIn 0 (wrap64 (n - 1)) q) := by
  unfold impl_goodAt.f
  refine Ev.bind (implGoodE_ev n l hl) ?_
  by_cases h : goodE n l = true
  · simp only [h, if_true, Bool.true_and]
    exact Ev.bind (implAll_ev _ _ q hq) (Ev.now _)
  · simp only [h, Bool.false_and, Bool.false_eq_true, if_false]
    exact Ev.now _
end Go.Proofs.Ytpbnpepikkocmaa.P

namespace Go.Proofs.Ytpbnpepikkocmaa.P
open Go.RowKit Go.Proofs.YtpbnpepikkocmaaW.PrintWords Go.Proofs.YtpbnpepikkocmaaW.PrintLast
set_option linter.unusedVariables false
set_option linter.unusedSimpArgs false
-- NearOf, both sides
def nearOf (n : Int) (l : List S52) (v : Int) : List Int × Bool := if goodE n l = true then (if 0 ≤ v ∧ v ≤ wrap64 (n - 1) then (nearM n.toNat l v, true) else ([], false)) else ([], false)
theorem nearOf_len (n : Int) (l : List S52) (v : Int) : (nearOf n l v).1.length ≤ 12 := by
  unfold nearOf
  split
  · rename_i h
    have := goodE_n h
    have := nearM_len n.toNat l v
    split
    · show (nearM n.toNat l v).length ≤ 12
      omega
    · simp
  · simp
theorem specNearOf_ev (n : Int) (l : List S52) (v : Int) (hl : l.length ≤ 1048576) : Ev (fun k => spec_NearOf.f k n l v) (nearOf n l v) := by
  unfold spec_NearOf.f nearOf
  refine Ev.bind (specGoodE_ev n l hl) ?_
  by_cases h : goodE n l = true
  · simp only [if_pos h, specIn, Option.bind_some]
    by_cases hv : 0 ≤ v ∧ v ≤ wrap64 (n - 1)
    · simp only [if_pos hv, decide_eq_true_eq]
      refine Ev.bind (specNear_ev l v (by omega)) ?_
      rw [near_same (goodE_edge h)]
      exact Ev.now _
    · simp only [if_neg hv, decide_eq_true_eq]
      exact Ev.now _
  · simp only [if_neg h]
    exact Ev.now _
theorem implNearOf_ev (n : Int) (l : List S52) (v : Int) (hl : l.length ≤ 1048576) : Ev (fun k => impl_NearOf.f k n l v) (nearOf n l v) := by
  unfold impl_NearOf.f nearOf
  have hga := goodAt_ev n l [v] hl (by simp)
  by_cases h : goodE n l = true
  · have hn := goodE_n h
    by_cases hv : 0 ≤ v ∧ v ≤ wrap64 (n - 1)
    · rw [show (goodE n l && allIn 0 (wrap64 (n - 1)) [v]) = true by rw [h, Bool.true_and, allIn, List.all_cons, List.all_nil, Bool.and_true]; exact decide_eq_true hv] at hga
      refine Ev.bind hga ?_
      simp only [if_true]
      rw [if_pos h, if_pos hv]
      refine Ev.bind (implNear_ev n l v (by omega) (by omega) (by omega)) ?_
      exact Ev.now _
    · rw [show (goodE n l && allIn 0 (wrap64 (n - 1)) [v]) = false by rw [h, Bool.true_and, allIn, List.all_cons, List.all_nil, Bool.and_true]; exact decide_eq_false hv] at hga
      refine Ev.bind hga ?_
      simp only [Bool.false_eq_true, if_false]
      rw [if_pos h, if_neg hv]
      exact Ev.now _
  · rw [show (goodE n l && allIn 0 (wrap64 (n - 1)) [v]) = false by rw [Bool.eq_false_iff.2 h, Bool.false_and]] at hga
    refine Ev.bind hga ?_
    simp only [Bool.false_eq_true, if_false]
    rw [if_neg h]
    exact Ev.now _
end Go.Proofs.Ytpbnpepikkocmaa.P

namespace Go.Proofs.Ytpbnpepikkocmaa.P
open Go.RowKit Go.Proofs.YtpbnpepikkocmaaW.PrintWords Go.Proofs.YtpbnpepikkocmaaW.PrintLast
set_option linter.unusedVariables false
set_option linter.unusedSimpArgs false
def marksI : Nat → Int → List Int
  | 0, _ => []
  | n + 1, q => q :: marksI n (q + 1)
theorem markIntS_l (suf : List Int) : ∀ (pre : List Int) (k : Nat) (q : Int), suf.length < k → (pre.length : Int) + suf.length ≤ 1099511627776 → 0 ≤ q → q + suf.length ≤ 4611686018427387904 →
    laws_markIntS.l0 k (pre ++ suf) q (pre.length : Int) = some (q + suf.length, pre ++ marksI suf.length q) := by
  induction suf with
  | nil =>
    intro pre k q hk hb h0 h1
    obtain ⟨k, rfl⟩ : ∃ m, k = m + 1 := ⟨k - 1, by omega⟩
    simp only [laws_markIntS.l0]
    rw [if_neg (by simp)]
    simp [marksI]
  | cons x suf ih =>
    intro pre k q hk hb h0 h1
    simp only [List.length_cons] at hk hb h1
    obtain ⟨k, rfl⟩ : ∃ m, k = m + 1 := ⟨k - 1, by omega⟩
    have h := ih (pre ++ [q]) k (q + 1) (by omega) (by simp <;> omega) (by omega) (by omega)
    simp only [laws_markIntS.l0]
    rw [if_pos (by simp <;> omega), if_pos (by omega), set_mid, wrap_id (x := q + 1) (by omega) (by omega), wrap_id (x := (pre.length : Int) + 1) (by omega) (by omega)]
    rw [len_one] at h
    rw [app_one, h]
    simp only [marksI, List.length_cons, List.append_assoc, List.cons_append, List.nil_append, Option.some.injEq, Prod.mk.injEq, and_true]
    omega
theorem markIntS_ev (l : List Int) (q : Int) (hl : l.length ≤ 1099511627776) (h0 : 0 ≤ q) (h1 : q ≤ 1099511627776) : Ev (fun k => laws_markIntS.f k l q) (q + l.length, marksI l.length q) := by
  refine ⟨l.length + 1, fun k hk => ?_⟩
  show laws_markIntS.f k l q = _
  unfold laws_markIntS.f
  simpa using markIntS_l l [] k q (by omega) (by simp <;> omega) h0 (by omega)
theorem heldIntS_l (n : Nat) : ∀ (pre : List Int) (k : Nat) (q : Int), n < k → (pre.length : Int) + n ≤ 1099511627776 → 0 ≤ q → q + n ≤ 4611686018427387904 →
    laws_heldIntS.l0 k (pre ++ marksI n q) q (pre.length : Int) = some (q + n) := by
  induction n with
  | zero =>
    intro pre k q hk hb h0 h1
    obtain ⟨k, rfl⟩ : ∃ m, k = m + 1 := ⟨k - 1, by omega⟩
    simp only [laws_heldIntS.l0]
    rw [show marksI 0 q = [] from rfl, if_neg (by simp)]
    simp
  | succ n ih =>
    intro pre k q hk hb h0 h1
    obtain ⟨k, rfl⟩ : ∃ m, k = m + 1 := ⟨k - 1, by omega⟩
    have h := ih (pre ++ [q]) k (q + 1) (by omega) (by simp <;> omega) (by omega) (by omega)
    simp only [laws_heldIntS.l0]
    rw [show marksI (n + 1) q = q :: marksI n (q + 1) from rfl]
    rw [if_pos (by simp <;> omega), if_pos (by omega), rd_mid, if_pos rfl, wrap_id (x := q + 1) (by omega) (by omega), wrap_id (x := (pre.length : Int) + 1) (by omega) (by omega)]
    rw [len_one] at h
    rw [app_one, h]
    simp only [Option.some.injEq]
    omega
theorem heldIntS_ev (n : Nat) (q : Int) (hl : n ≤ 1099511627776) (h0 : 0 ≤ q) (h1 : q ≤ 1099511627776) : Ev (fun k => laws_heldIntS.f k (marksI n q) q) (q + n) := by
  refine ⟨n + 1, fun k hk => ?_⟩
  show laws_heldIntS.f k (marksI n q) q = _
  unfold laws_heldIntS.f
  exact heldIntS_l n [] k q (by omega) (by simp <;> omega) h0 (by omega)
end Go.Proofs.Ytpbnpepikkocmaa.P

namespace Go.Proofs.Ytpbnpepikkocmaa.P
open Go.RowKit Go.Proofs.YtpbnpepikkocmaaW.PrintWords Go.Proofs.YtpbnpepikkocmaaW.PrintLast
set_option linter.unusedVariables false
set_option linter.unusedSimpArgs false
def marksEdge : Nat → Int → List S52
  | 0, _ => []
  | n + 1, q => ⟨q, q + 1, q + 2⟩ :: marksEdge n (q + 3)
theorem markEdgeS_l (suf : List S52) : ∀ (pre : List S52) (k : Nat) (q : Int), suf.length < k → (pre.length : Int) + suf.length ≤ 1099511627776 → 0 ≤ q → q + 3 * suf.length ≤ 4611686018427387904 →
    laws_markEdgeS.l0 k (pre ++ suf) q (pre.length : Int) = some (q + 3 * suf.length, pre ++ marksEdge suf.length q) := by
  induction suf with
  | nil =>
    intro pre k q hk hb h0 h1
    obtain ⟨k, rfl⟩ : ∃ m, k = m + 1 := ⟨k - 1, by omega⟩
    simp only [laws_markEdgeS.l0]
    rw [if_neg (by simp)]
    simp [marksEdge]
  | cons x suf ih =>
    intro pre k q hk hb h0 h1
    simp only [List.length_cons] at hk hb h1
    obtain ⟨k, rfl⟩ : ∃ m, k = m + 1 := ⟨k - 1, by omega⟩
    have h := ih (pre ++ [⟨q, q + 1, q + 2⟩]) k (q + 3) (by omega) (by simp <;> omega) (by omega) (by omega)
    simp only [laws_markEdgeS.l0]
    rw [if_pos (by simp <;> omega), if_pos (by omega)]
    simp only [Option.bind_some, set_mid, rdEdge_mid]
    rw [wrap_id (x := q + 1) (by omega) (by omega), wrap_id (x := q + 1 + 1) (by omega) (by omega), wrap_id (x := q + 1 + 1 + 1) (by omega) (by omega), wrap_id (x := (pre.length : Int) + 1) (by omega) (by omega)]
    rw [show q + 1 + 1 = q + 2 from by omega, show q + 2 + 1 = q + 3 from by omega]
    rw [show ((pre ++ [(⟨q, q + 1, q + 2⟩ : S52)]).length : Int) = (pre.length : Int) + 1 from by simp] at h
    rw [app_one, h]
    simp only [marksEdge, List.length_cons, List.append_assoc, List.cons_append, List.nil_append, Option.some.injEq, Prod.mk.injEq, and_true]
    omega
theorem markEdgeS_ev (l : List S52) (q : Int) (hl : l.length ≤ 1099511627776) (h0 : 0 ≤ q) (h1 : q ≤ 1099511627776) : Ev (fun k => laws_markEdgeS.f k l q) (q + 3 * l.length, marksEdge l.length q) := by
  refine ⟨l.length + 1, fun k hk => ?_⟩
  show laws_markEdgeS.f k l q = _
  unfold laws_markEdgeS.f
  simpa using markEdgeS_l l [] k q (by omega) (by simp <;> omega) h0 (by omega)
end Go.Proofs.Ytpbnpepikkocmaa.P

namespace Go.Proofs.Ytpbnpepikkocmaa.Pure
open Go.RowKit Go.Proofs.Ytpbnpepikkocmaa.P Go.Proofs.YtpbnpepikkocmaaW.PrintWords Go.Proofs.YtpbnpepikkocmaaW.PrintLast
set_option linter.unusedVariables false
set_option linter.unusedSimpArgs false
theorem FnExactNearOf : laws_FnExactNearOf.Pure := by
  intro a0 l a2 _ ⟨hm, _⟩ _
  refine Ev.rounds ?_
  unfold laws_FnExactNearOf.f
  rw [szEdgeS_is l hm 1048576 (by omega) (by omega)]
  simp only [Option.bind_some]
  by_cases h : (1048576 : Int) - l.length < 0
  · simp only [if_pos h]
    exact Ev.now _
  · have hl : l.length ≤ 1048576 := by omega
    have hl2 : (l.map cvEdge).length ≤ 1048576 := by simpa using hl
    have hr := nearOf_len a0 (l.map cvEdge) a2
    simp only [if_neg h]
    refine Ev.bind (toEdgeS_ev l hl) ?_
    refine Ev.bind (specNearOf_ev a0 _ a2 hl2) ?_
    refine Ev.bind (toEdgeS_ev l hl) ?_
    refine Ev.bind (implNearOf_ev a0 _ a2 hl2) ?_
    have hi := implNearOf_ev a0 _ a2 hl2
    generalize nearOf a0 (l.map cvEdge) a2 = r at hr hi
    refine Ev.bind (eqIntS_ev _ _ (by omega)) ?_
    simp only [decide_true, if_true, bne_self_eq_false]
    refine Ev.succ ?_
    simp only [laws_FnExactNearOf.j0, Bool.false_eq_true, if_false]
    refine Ev.bind (toEdgeS_ev l hl) ?_
    refine Ev.bind (eqEdgeS_ev _ _ (by omega)) ?_
    simp only [decide_true, if_true]
    refine Ev.bind (markEdgeS_ev _ 1 (by omega) (by omega) (by omega)) ?_
    simp only [if_neg (show ¬ (1 + 3 * ((l.map cvEdge).length : Int)) < 0 by omega)]
    refine Ev.bind (eqIntS_ev _ _ (by omega)) ?_
    simp only [decide_true, if_true, bne_self_eq_false]
    refine Ev.succ ?_
    simp only [laws_FnExactNearOf.j1, Bool.false_eq_true, if_false]
    refine Ev.bind (markIntS_ev _ 1 (by omega) (by omega) (by omega)) ?_
    refine Ev.bind (heldIntS_ev _ 1 (by omega) (by omega) (by omega)) ?_
    simp only [if_neg (show ¬ (1 + (r.1.length : Int)) < 0 by omega), if_true]
    refine Ev.bind (toEdgeS_ev l hl) ?_
    refine Ev.bind hi ?_
    refine Ev.bind (eqIntS_ev _ _ (by omega)) ?_
    simp only [decide_true, if_true, bne_self_eq_false]
    refine Ev.succ ?_
    simp only [laws_FnExactNearOf.j2, Bool.false_eq_true, if_false]
    refine Ev.bind (heldIntS_ev _ 1 (by omega) (by omega) (by omega)) ?_
    simp only [if_neg (show ¬ (1 + (r.1.length : Int)) < 0 by omega), if_true]
    exact Ev.now _
end Go.Proofs.Ytpbnpepikkocmaa.Pure
