/- Functions, walks and plain lemmas that the law FnExactWayTo reaches, part 5. -/
import Derived.Test.YtklecgkjoofipaaCFnExactWayTo4
import Derived.WalkKit
import Derived.ProofKit
import Derived.OpenShut
import Derived.ChangeOld
import Derived.Below
import Derived.SizedLaws
import Derived.ChangeArms
import Derived.DataElems
import Derived.Deep.Draws
import Derived.Deep.AppendLies
import Derived.Maps.AppendAt
import Derived.OwnWalk
import Derived.Laws.BytesArg
import Derived.Laws.MakeOwn
import Derived.Laws.OwnMore
import Derived.Deep.OwnRows
import Derived.Tactics
import Derived.Lib.ConvBytes
import Derived.Laws.Slices
import Derived.KernelRfl
import Derived.RowKit3
import Derived.Deep.LoopGhost
import Derived.Deep.QuietTactic
import Derived.BigQuiet
import Derived.WideLaws
import Derived.Deep.DeepCutAuto
import Derived.Deep.CutBlock
import Derived.Deep.RegionHeld3
import Derived.Laws.Rows
import Derived.Lib.AppendStr
import Derived.ArgAppend
import Derived.Laws.IdiomCopy
import Derived.OrdersHeld
import Derived.Laws.BitsLemmas
import Derived.RowKit
import Derived.WalkSpells
import Derived.Lib.SliceRun
import Derived.Shelf.Abstract
import Derived.ShutString
namespace Go.Proofs.Ytklecgkjoofipaa.P
open Go.RowKit Go.Proofs.YtklecgkjoofipaaW.PrintWords Go.Proofs.YtklecgkjoofipaaW.PrintLast Go.Proofs.YtklecgkjoofipaaW.PrintMore
attribute [local go_sem] max2_int min2_int max_two min_two max_three min_three max_four min_four   -- for this text's walks alone
set_option linter.unusedVariables false
set_option linter.unusedSimpArgs false
mutual
def laws_FnExactWayTo.j0 : Nat → Int → List (S69) → Int → Int → List Int → Int → Bool → List (S67) → List Int → Int → Bool → Bool → Option (Bool)
 | 0, _, _, _, _, _, _, _, _, _, _, _, _ => none
 | k + 1, x0, x1, x2, x3, x10, x11, x12, x13, x14, x15, x16, x62 => if x62 = true then (some false) else ((laws_toEdgeS.f k x1).bind fun t592 => ((laws_eqEdgeS.f k x13 t592).bind fun t595 => (if t595 = true then ((laws_markEdgeS.f k x13 1).bind fun bt596 => (if bt596.1 < 0 then (laws_FnExactWayTo.j1 k x0 x1 x2 x3 x10 x11 x12 x14 true) else ((laws_eqIntS.f k x14 x10).bind fun t598 => (if t598 = true then (if x15 = x11 then (laws_FnExactWayTo.j1 k x0 x1 x2 x3 x10 x11 x12 x14 (x16 != x12)) else (laws_FnExactWayTo.j1 k x0 x1 x2 x3 x10 x11 x12 x14 true)) else (laws_FnExactWayTo.j1 k x0 x1 x2 x3 x10 x11 x12 x14 true))))) else (some false))))
def laws_FnExactWayTo.j1 : Nat → Int → List (S69) → Int → Int → List Int → Int → Bool → List Int → Bool → Option (Bool)
 | 0, _, _, _, _, _, _, _, _, _ => none
 | k + 1, x0, x1, x2, x3, x10, x11, x12, x14, x88 => if x88 = true then (some false) else ((laws_markIntS.f k x14 1).bind fun bt599 => ((laws_heldIntS.f k bt599.2 1).bind fun t601 => (if t601 < 0 then (some false) else (if t601 = bt599.1 then ((laws_toEdgeS.f k x1).bind fun t602 => ((impl_WayTo.f k x0 t602 x2 x3).bind fun bt605 => ((laws_eqIntS.f k bt605.1 x10).bind fun t610 => (if t610 = true then (if bt605.2.1 = x11 then (laws_FnExactWayTo.j2 k bt599.2 bt599.1 (bt605.2.2 != x12)) else (laws_FnExactWayTo.j2 k bt599.2 bt599.1 true)) else (laws_FnExactWayTo.j2 k bt599.2 bt599.1 true))))) else (some false)))))
def laws_FnExactWayTo.j2 : Nat → List Int → Int → Bool → Option (Bool)
 | 0, _, _, _ => none
 | k + 1, x14, x18, x123 => if x123 = true then (some false) else ((laws_heldIntS.f k x14 1).bind fun t611 => (if t611 < 0 then (some false) else (if t611 = x18 then (some true) else (some false))))
end
def laws_FnExactWayTo.f (k : Nat) (a0 : Int) (l1 : List (S69)) (a2 : Int) (a3 : Int) : Option (Bool) := (laws_szEdgeS.f l1 1048576).bind fun t574 => (if t574 < 0 then (some true) else ((laws_toEdgeS.f k l1).bind fun t575 => ((spec_WayTo.f k a0 t575 a2 a3).bind fun bt578 => ((laws_toEdgeS.f k l1).bind fun t583 => ((impl_WayTo.f k a0 t583 a2 a3).bind fun bt586 => ((laws_eqIntS.f k bt586.1 bt578.1).bind fun t591 => (if t591 = true then (if bt586.2.1 = bt578.2.1 then (laws_FnExactWayTo.j0 k a0 l1 a2 a3 bt578.1 bt578.2.1 bt578.2.2 t583 bt586.1 bt586.2.1 bt586.2.2 (bt586.2.2 != bt578.2.2)) else (laws_FnExactWayTo.j0 k a0 l1 a2 a3 bt578.1 bt578.2.1 bt578.2.2 t583 bt586.1 bt586.2.1 bt586.2.2 true)) else (laws_FnExactWayTo.j0 k a0 l1 a2 a3 bt578.1 bt578.2.1 bt578.2.2 t583 bt586.1 bt586.2.1 bt586.2.2 true))))))))
set_option maxHeartbeats 8000000 in
set_option maxRecDepth 100000 in
theorem laws_FnExactWayTo.calls (k : Nat) (a0 : Int) (A1 : Option Addr) (c1 : Nat) (l1 : List (S69)) (a2 : Int) (a3 : Int) (r : Bool) (w : World) (hr1 : Kd.C k69 w A1 l1.length l1) (hc1 : l1.length ≤ c1) (h : laws_FnExactWayTo.f k a0 l1 a2 a3 = some r) :
  Calls Try.prog 9 #[.int .i64 a0, .slice A1 l1.length c1, .int .i64 a2, .int .i64 a3] w fun e w' => e = .returned (.bool r) ∧ Below w.heap.size w w' := by
 have HR1 := Aside0.mk hr1
 have HC1 := Aside0.mk hc1
 clear hr1 hc1
 have HB := Aside0.mk (Below.refl w.heap.size w)
 have H : ((laws_szEdgeS.f l1 1048576).bind fun t574 => (if t574 < 0 then (some true) else ((laws_toEdgeS.f k l1).bind fun t575 => ((spec_WayTo.f k a0 t575 a2 a3).bind fun bt578 => ((laws_toEdgeS.f k l1).bind fun t583 => ((impl_WayTo.f k a0 t583 a2 a3).bind fun bt586 => ((laws_eqIntS.f k bt586.1 bt578.1).bind fun t591 => (if t591 = true then (if bt586.2.1 = bt578.2.1 then (laws_FnExactWayTo.j0 k a0 l1 a2 a3 bt578.1 bt578.2.1 bt578.2.2 t583 bt586.1 bt586.2.1 bt586.2.2 (bt586.2.2 != bt578.2.2)) else (laws_FnExactWayTo.j0 k a0 l1 a2 a3 bt578.1 bt578.2.1 bt578.2.2 t583 bt586.1 bt586.2.1 bt586.2.2 true)) else (laws_FnExactWayTo.j0 k a0 l1 a2 a3 bt578.1 bt578.2.1 bt578.2.2 t583 bt586.1 bt586.2.1 bt586.2.2 true))))))))) = some r := h
 clear h
 replace H := Option.bind_eq_some_iff.mp H
 obtain ⟨t574, A50, H⟩ := H
 replace H : (if t574 < 0 then (some true) else ((laws_toEdgeS.f k l1).bind fun t575 => ((spec_WayTo.f k a0 t575 a2 a3).bind fun bt578 => ((laws_toEdgeS.f k l1).bind fun t583 => ((impl_WayTo.f k a0 t583 a2 a3).bind fun bt586 => ((laws_eqIntS.f k bt586.1 bt578.1).bind fun t591 => (if t591 = true then (if bt586.2.1 = bt578.2.1 then (laws_FnExactWayTo.j0 k a0 l1 a2 a3 bt578.1 bt578.2.1 bt578.2.2 t583 bt586.1 bt586.2.1 bt586.2.2 (bt586.2.2 != bt578.2.2)) else (laws_FnExactWayTo.j0 k a0 l1 a2 a3 bt578.1 bt578.2.1 bt578.2.2 t583 bt586.1 bt586.2.1 bt586.2.2 true)) else (laws_FnExactWayTo.j0 k a0 l1 a2 a3 bt578.1 bt578.2.1 bt578.2.2 t583 bt586.1 bt586.2.1 bt586.2.2 true)))))))) = some r := H
 have A5 := Aside0.mk A50
 clear A50
 by_cases c6 : t574 < 0
 ·rw [if_pos c6] at H
  have c6b0 : decide (t574 < 0) = true := decide_eq_true c6
  clear c6
  obtain rfl := Option.some.inj H
  go_enter Try.func9, Try.ntmps9
  go_wp2_with (first | ((with_reducible refine gate_callee (f := 12) rfl ?_); refine goesL_ (some 25) rfl rfl Try.func12 (by kernel_rfl) rfl #[.slice A1 l1.length c1, .int .i64 1048576] rfl (by (try simp only [List.map_toArray, List.map_cons, List.map_nil]); first | done | rfl | (simp only [List.length_drop, List.length_take]; rfl)) ?_; (with_reducible refine (laws_szEdgeS.calls _ _ l1 1048576 t574 _ ?side1 ?side2 A5.out).mono ?_); (case side1 => repeat (first | exact HR1.out | (with_reducible refine Kd.C_alloc ?_ _) | (with_reducible refine Kd.C_drewN ?_ _) | (with_reducible refine Kd.C_drew ?_))); (case side2 => exact HC1.out); rintro e w' ⟨rfl, ⟨nd, rfl⟩⟩; refine ⟨_, rfl, ?_⟩))
  go_ret
  exact ⟨by first | rfl | (simp [errW_none, errW_some] <;> rfl) | (simp [*, errW_none, errW_some] <;> rfl), by repeat (first | (with_reducible first | exact HB.out | apply below_alloc | apply pw_below_drewN | apply below_drew1) | exact HB.out)⟩
 ·rw [if_neg c6] at H
  have c6b0 : decide (t574 < 0) = false := decide_eq_false c6
  clear c6
  replace H := Option.bind_eq_some_iff.mp H
  obtain ⟨t575, A70, H⟩ := H
  replace H : ((spec_WayTo.f k a0 t575 a2 a3).bind fun bt578 => ((laws_toEdgeS.f k l1).bind fun t583 => ((impl_WayTo.f k a0 t583 a2 a3).bind fun bt586 => ((laws_eqIntS.f k bt586.1 bt578.1).bind fun t591 => (if t591 = true then (if bt586.2.1 = bt578.2.1 then (laws_FnExactWayTo.j0 k a0 l1 a2 a3 bt578.1 bt578.2.1 bt578.2.2 t583 bt586.1 bt586.2.1 bt586.2.2 (bt586.2.2 != bt578.2.2)) else (laws_FnExactWayTo.j0 k a0 l1 a2 a3 bt578.1 bt578.2.1 bt578.2.2 t583 bt586.1 bt586.2.1 bt586.2.2 true)) else (laws_FnExactWayTo.j0 k a0 l1 a2 a3 bt578.1 bt578.2.1 bt578.2.2 t583 bt586.1 bt586.2.1 bt586.2.2 true)))))) = some r := H
  have A7 := Aside0.mk A70
  clear A70
  replace H := Option.bind_eq_some_iff.mp H
  obtain ⟨⟨t578, t579, t580⟩, A80, H⟩ := H
  replace H : ((laws_toEdgeS.f k l1).bind fun t583 => ((impl_WayTo.f k a0 t583 a2 a3).bind fun bt586 => ((laws_eqIntS.f k bt586.1 t578).bind fun t591 => (if t591 = true then (if bt586.2.1 = t579 then (laws_FnExactWayTo.j0 k a0 l1 a2 a3 t578 t579 t580 t583 bt586.1 bt586.2.1 bt586.2.2 (bt586.2.2 != t580)) else (laws_FnExactWayTo.j0 k a0 l1 a2 a3 t578 t579 t580 t583 bt586.1 bt586.2.1 bt586.2.2 true)) else (laws_FnExactWayTo.j0 k a0 l1 a2 a3 t578 t579 t580 t583 bt586.1 bt586.2.1 bt586.2.2 true))))) = some r := H
  have A8 := Aside0.mk A80
  clear A80
  replace H := Option.bind_eq_some_iff.mp H
  obtain ⟨t583, A90, H⟩ := H
  replace H : ((impl_WayTo.f k a0 t583 a2 a3).bind fun bt586 => ((laws_eqIntS.f k bt586.1 t578).bind fun t591 => (if t591 = true then (if bt586.2.1 = t579 then (laws_FnExactWayTo.j0 k a0 l1 a2 a3 t578 t579 t580 t583 bt586.1 bt586.2.1 bt586.2.2 (bt586.2.2 != t580)) else (laws_FnExactWayTo.j0 k a0 l1 a2 a3 t578 t579 t580 t583 bt586.1 bt586.2.1 bt586.2.2 true)) else (laws_FnExactWayTo.j0 k a0 l1 a2 a3 t578 t579 t580 t583 bt586.1 bt586.2.1 bt586.2.2 true)))) = some r := H
  have A9 := Aside0.mk A90
  clear A90
  replace H := Option.bind_eq_some_iff.mp H
  obtain ⟨⟨t586, t587, t588⟩, A100, H⟩ := H
  replace H : ((laws_eqIntS.f k t586 t578).bind fun t591 => (if t591 = true then (if t587 = t579 then (laws_FnExactWayTo.j0 k a0 l1 a2 a3 t578 t579 t580 t583 t586 t587 t588 (t588 != t580)) else (laws_FnExactWayTo.j0 k a0 l1 a2 a3 t578 t579 t580 t583 t586 t587 t588 true)) else (laws_FnExactWayTo.j0 k a0 l1 a2 a3 t578 t579 t580 t583 t586 t587 t588 true))) = some r := H
  have A10 := Aside0.mk A100
  clear A100
  have HC11 := Aside0.mk H
  clear H
  go_enter Try.func9, Try.ntmps9
  go_upto_region 8 with (first | ((with_reducible refine gate_callee (f := 12) rfl ?_); refine goesL_ (some 25) rfl rfl Try.func12 (by kernel_rfl) rfl #[.slice A1 l1.length c1, .int .i64 1048576] rfl (by (try simp only [List.map_toArray, List.map_cons, List.map_nil]); first | done | rfl | (simp only [List.length_drop, List.length_take]; rfl)) ?_; (with_reducible refine (laws_szEdgeS.calls _ _ l1 1048576 t574 _ ?side1 ?side2 A5.out).mono ?_); (case side1 => repeat (first | exact HR1.out | (with_reducible refine Kd.C_alloc ?_ _) | (with_reducible refine Kd.C_drewN ?_ _) | (with_reducible refine Kd.C_drew ?_))); (case side2 => exact HC1.out); rintro e w' ⟨rfl, ⟨nd, rfl⟩⟩; refine ⟨_, rfl, ?_⟩) | ((with_reducible refine gate_callee (f := 14) rfl ?_); refine goesL_ (some 31) rfl rfl Try.func14 (by kernel_rfl) rfl #[.slice A1 l1.length c1] rfl (by (try simp only [List.map_toArray, List.map_cons, List.map_nil]); first | done | rfl | (simp only [List.length_drop, List.length_take]; rfl)) ?_; (with_reducible refine (laws_toEdgeS.calls k _ _ l1 t575 _ ?side1 ?side2 A7.out).mono ?_); (case side1 => repeat (first | exact HR1.out | (with_reducible refine Kd.C_alloc ?_ _) | (with_reducible refine Kd.C_drewN ?_ _) | (with_reducible refine Kd.C_drew ?_))); (case side2 => exact HC1.out); rintro e w12 ⟨v576, rfl, ho0, hb⟩; refine ⟨_, rfl, ?_⟩; have n0_ := Aside0.mk (Kd.R_lower ho0 (below_size (by repeat (first | (with_reducible first | exact HB.out | apply below_alloc | apply pw_below_drewN | apply below_drew1) | exact HB.out)))); have n1_ := Aside0.mk (below_step (by repeat (first | (with_reducible first | exact HB.out | apply below_alloc | apply pw_below_drewN | apply below_drew1) | exact HB.out)) hb); clear HB; have HO577 := n0_; have HB := n1_; clear n0_ n1_; (try clear hb); (try clear hb2); (try clear hk); (try clear hi); (try clear ho0); obtain ⟨Ao13, co13, eo13⟩ := Kd.R_slice HO577.out; subst eo13) | ((with_reducible refine gate_callee (f := 32) rfl ?_); refine goesL_ (some 34) rfl rfl Try.func32 (by kernel_rfl) rfl #[.int .i64 a0, .slice Ao13 t575.length co13, .int .i64 a2, .int .i64 a3] rfl (by (try simp only [List.map_toArray, List.map_cons, List.map_nil]); first | done | rfl | (simp only [List.length_drop, List.length_take]; rfl)) ?_; (with_reducible refine (spec_WayTo.calls k a0 _ _ t575 a2 a3 t578 t579 t580 _ ?side1 ?side2 A8.out).mono ?_); (case side1 => repeat (first | exact (Kd.R_reads' HO577.out).2.2 | (with_reducible refine Kd.C_alloc ?_ _) | (with_reducible refine Kd.C_drewN ?_ _) | (with_reducible refine Kd.C_drew ?_))); (case side2 => exact (Kd.R_reads' HO577.out).2.1); rintro e w14 ⟨v581, rfl, ho0, hb⟩; refine ⟨_, rfl, ?_⟩; have n0_ := Aside0.mk (Kd.R_below (by (with_reducible repeat (first | apply Kd.R_alloc | apply Kd.R_drewN | apply Kd.R_drew)); exact HO577.out) hb); have n1_ := Aside0.mk (Kd.R_lower ho0 (below_size (by repeat (first | (with_reducible first | exact HB.out | apply below_alloc | apply pw_below_drewN | apply below_drew1) | exact HB.out)))); have n2_ := Aside0.mk (below_step (by repeat (first | (with_reducible first | exact HB.out | apply below_alloc | apply pw_below_drewN | apply below_drew1) | exact HB.out)) hb); clear HO577; clear HB; have HO577 := n0_; have HO582 := n1_; have HB := n2_; clear n0_ n1_ n2_; (try clear hb); (try clear hb2); (try clear hk); (try clear hi); (try clear ho0)) | ((with_reducible refine gate_callee (f := 14) rfl ?_); refine goesL_ (some 39) rfl rfl Try.func14 (by kernel_rfl) rfl #[.slice A1 l1.length c1] rfl (by (try simp only [List.map_toArray, List.map_cons, List.map_nil]); first | done | rfl | (simp only [List.length_drop, List.length_take]; rfl)) ?_; (with_reducible refine (laws_toEdgeS.calls k _ _ l1 t583 _ ?side1 ?side2 A9.out).mono ?_); (case side1 => repeat (first | exact (Kd.C_below HR1.out HB.out) | (with_reducible refine Kd.C_alloc ?_ _) | (with_reducible refine Kd.C_drewN ?_ _) | (with_reducible refine Kd.C_drew ?_))); (case side2 => exact HC1.out); rintro e w15 ⟨v584, rfl, ho0, hb⟩; refine ⟨_, rfl, ?_⟩; have n0_ := Aside0.mk (Kd.R_elder' (by (with_reducible repeat (first | apply Kd.R_alloc | apply Kd.R_drewN | apply Kd.R_drew)); exact HO577.out) (Kd.R_base ho0) hb); have n1_ := Aside0.mk (Kd.R_below (by (with_reducible repeat (first | apply Kd.R_alloc | apply Kd.R_drewN | apply Kd.R_drew)); exact HO582.out) hb); have n2_ := Aside0.mk (Kd.R_lower (Kd.R_new' ho0 (Kd.R_lt (by (with_reducible repeat (first | apply Kd.R_alloc | apply Kd.R_drewN | apply Kd.R_drew)); exact HO577.out))) (below_size (by repeat (first | (with_reducible first | exact HB.out | apply below_alloc | apply pw_below_drewN | apply below_drew1) | exact HB.out)))); have n3_ := Aside0.mk (below_step (by repeat (first | (with_reducible first | exact HB.out | apply below_alloc | apply pw_below_drewN | apply below_drew1) | exact HB.out)) hb); clear HO577; clear HO582; clear HB; have HO577 := n0_; have HO582 := n1_; have HO585 := n2_; have HB := n3_; clear n0_ n1_ n2_ n3_; (try clear hb); (try clear hb2); (try clear hk); (try clear hi); (try clear ho0); obtain ⟨Ao16, co16, eo16⟩ := Kd.R_slice HO585.out; subst eo16) | ((with_reducible refine gate_callee (f := 33) rfl ?_); refine goesL_ (some 45) rfl rfl Try.func33 (by kernel_rfl) rfl #[.int .i64 a0, .slice Ao16 t583.length co16, .int .i64 a2, .int .i64 a3] rfl (by (try simp only [List.map_toArray, List.map_cons, List.map_nil]); first | done | rfl | (simp only [List.length_drop, List.length_take]; rfl)) ?_; (with_reducible refine (impl_WayTo.calls k a0 _ _ t583 a2 a3 t586 t587 t588 _ ?side1 ?side2 A10.out).mono ?_); (case side1 => repeat (first | exact (Kd.R_reads' HO585.out).2.2 | (with_reducible refine Kd.C_alloc ?_ _) | (with_reducible refine Kd.C_drewN ?_ _) | (with_reducible refine Kd.C_drew ?_))); (case side2 => exact (Kd.R_reads' HO585.out).2.1); rintro e w17 ⟨v589, rfl, ho0, hb⟩; refine ⟨_, rfl, ?_⟩; have n0_ := Aside0.mk (Kd.R_below (by (with_reducible repeat (first | apply Kd.R_alloc | apply Kd.R_drewN | apply Kd.R_drew)); exact HO577.out) hb); have n1_ := Aside0.mk (Kd.R_elder' (by (with_reducible repeat (first | apply Kd.R_alloc | apply Kd.R_drewN | apply Kd.R_drew)); exact HO582.out) (Kd.R_base ho0) hb); have n2_ := Aside0.mk (Kd.R_below (by (with_reducible repeat (first | apply Kd.R_alloc | apply Kd.R_drewN | apply Kd.R_drew)); exact HO585.out) hb); have n3_ := Aside0.mk (Kd.R_lower (Kd.R_new' ho0 (Kd.R_lt (by (with_reducible repeat (first | apply Kd.R_alloc | apply Kd.R_drewN | apply Kd.R_drew)); exact HO582.out))) (below_size (by repeat (first | (with_reducible first | exact HB.out | apply below_alloc | apply pw_below_drewN | apply below_drew1) | exact HB.out)))); have n4_ := Aside0.mk (below_step (by repeat (first | (with_reducible first | exact HB.out | apply below_alloc | apply pw_below_drewN | apply below_drew1) | exact HB.out)) hb); clear HO577; clear HO582; clear HO585; clear HB; have HO577 := n0_; have HO582 := n1_; have HO585 := n2_; have HO590 := n3_; have HB := n4_; clear n0_ n1_ n2_ n3_ n4_; (try clear hb); (try clear hb2); (try clear hk); (try clear hi); (try clear ho0)))
  (try simp only [Act.put, List.setIfInBounds_toArray, List.set_cons_zero, List.set_cons_succ])
  go_cut [62] (fun v62 wc => ∃ (kq : Nat) (x62_10 : Bool), v62 = .bool x62_10 ∧ Aside0 (laws_FnExactWayTo.j0 kq a0 l1 a2 a3 t578 t579 t580 t583 t586 t587 t588 x62_10 = some r) ∧ Aside0 (kq ≤ k) ∧ Aside0 (Kd.R (Kd.int .i64) 3 wc w.heap.size (fun k_ => some k_ ≠ (v589 : Value).ownBlock) v581 t578) ∧ Aside0 (Kd.R k67 67 wc w.heap.size (fun _ => True) (.slice Ao16 t583.length co16) t583) ∧ Aside0 (Kd.R (Kd.int .i64) 3 wc w.heap.size (fun k_ => some k_ ≠ (v581 : Value).ownBlock) v589 t586) ∧ Aside0 (Below w.heap.size w wc))
  case first =>
   have H := HC11.out
   clear HC11
   replace H := Option.bind_eq_some_iff.mp H
   obtain ⟨t591, A180, H⟩ := H
   replace H : (if t591 = true then (if t587 = t579 then (laws_FnExactWayTo.j0 k a0 l1 a2 a3 t578 t579 t580 t583 t586 t587 t588 (t588 != t580)) else (laws_FnExactWayTo.j0 k a0 l1 a2 a3 t578 t579 t580 t583 t586 t587 t588 true)) else (laws_FnExactWayTo.j0 k a0 l1 a2 a3 t578 t579 t580 t583 t586 t587 t588 true)) = some r := H
   have A18 := Aside0.mk A180
   clear A180
   by_cases c19 : t591 = true
   ·subst c19
    have H1 : (if t587 = t579 then (laws_FnExactWayTo.j0 k a0 l1 a2 a3 t578 t579 t580 t583 t586 t587 t588 (t588 != t580)) else (laws_FnExactWayTo.j0 k a0 l1 a2 a3 t578 t579 t580 t583 t586 t587 t588 true)) = some r := by rw [if_pos rfl] at H; exact H
    clear H
    have H := H1
    clear H1
    by_cases c20 : t587 = t579
    ·rw [if_pos c20] at H
     have c20b0 : (t587 == t579) = true := beq_iff_eq.mpr c20
     have c20b1 : (t587 != t579) = false := bne_eq_false_iff_eq.mpr c20
     clear c20
     (first | rw [c20b0] | (simp only [i64_w, i32_w]; rw [c20b0]) | skip)
     have H' := Aside0.mk H
     clear H
     obtain ⟨Ao21, co21, eo21⟩ := Kd.R_slice HO590.out
     subst eo21
     obtain ⟨Ao22, co22, eo22⟩ := Kd.R_slice HO582.out
     subst eo22
     go_wp2_with (first | ((with_reducible refine gate_callee (f := 18) rfl ?_); refine goesL_ (some 51) rfl rfl Try.func18 (by kernel_rfl) rfl #[.slice Ao21 t586.length co21, .slice Ao22 t578.length co22] rfl (by (try simp only [List.map_toArray, List.map_cons, List.map_nil]); first | done | rfl | (simp only [List.length_drop, List.length_take]; rfl)) ?_; (with_reducible refine (laws_eqIntS.calls k _ _ t586 _ _ t578 true _ ?side1 ?side2 ?side3 ?side4 A18.out).mono ?_); (case side1 => repeat (first | exact (Kd.R_reads' HO590.out).2.2 | (with_reducible refine Kd.C_alloc ?_ _) | (with_reducible refine Kd.C_drewN ?_ _) | (with_reducible refine Kd.C_drew ?_))); (case side2 => exact (Kd.R_reads' HO590.out).2.1); (case side3 => repeat (first | exact (Kd.R_reads' HO582.out).2.2 | (with_reducible refine Kd.C_alloc ?_ _) | (with_reducible refine Kd.C_drewN ?_ _) | (with_reducible refine Kd.C_drew ?_))); (case side4 => exact (Kd.R_reads' HO582.out).2.1); rintro e w' ⟨rfl, ⟨nd, rfl⟩⟩; refine ⟨_, rfl, ?_⟩))
     go_meet
     case rel => exact ⟨_, ((t588 != t580)), (by first | rfl | (simp; done) | (simp [*]; done)), H', ⟨by first | omega | exact Nat.le_refl _⟩, ⟨by (with_reducible repeat (first | apply Kd.R_alloc | apply Kd.R_drewN | apply Kd.R_drew)); exact Kd.R_mono HO582.out (fun _ hk => hk.2)⟩, ⟨by (with_reducible repeat (first | apply Kd.R_alloc | apply Kd.R_drewN | apply Kd.R_drew)); exact Kd.R_mono HO585.out (fun _ hk => trivial)⟩, ⟨by (with_reducible repeat (first | apply Kd.R_alloc | apply Kd.R_drewN | apply Kd.R_drew)); exact Kd.R_mono HO590.out (fun _ hk => hk.2)⟩, ⟨by repeat (first | (with_reducible first | exact HB.out | apply below_alloc | apply pw_below_drewN | apply below_drew1) | exact HB.out)⟩⟩
    ·rw [if_neg c20] at H
     have c20b0 : (t587 == t579) = false := beq_eq_false_iff_ne.mpr c20
     have c20b1 : (t587 != t579) = true := bne_iff_ne.mpr c20
     (first | rw [c20b0] | (simp only [i64_w, i32_w]; rw [c20b0]) | skip)
     have H' := Aside0.mk H
     clear H
     obtain ⟨Ao23, co23, eo23⟩ := Kd.R_slice HO590.out
     subst eo23
     obtain ⟨Ao24, co24, eo24⟩ := Kd.R_slice HO582.out
     subst eo24
     go_wp2_with (first | ((with_reducible refine gate_callee (f := 18) rfl ?_); refine goesL_ (some 51) rfl rfl Try.func18 (by kernel_rfl) rfl #[.slice Ao23 t586.length co23, .slice Ao24 t578.length co24] rfl (by (try simp only [List.map_toArray, List.map_cons, List.map_nil]); first | done | rfl | (simp only [List.length_drop, List.length_take]; rfl)) ?_; (with_reducible refine (laws_eqIntS.calls k _ _ t586 _ _ t578 true _ ?side1 ?side2 ?side3 ?side4 A18.out).mono ?_); (case side1 => repeat (first | exact (Kd.R_reads' HO590.out).2.2 | (with_reducible refine Kd.C_alloc ?_ _) | (with_reducible refine Kd.C_drewN ?_ _) | (with_reducible refine Kd.C_drew ?_))); (case side2 => exact (Kd.R_reads' HO590.out).2.1); (case side3 => repeat (first | exact (Kd.R_reads' HO582.out).2.2 | (with_reducible refine Kd.C_alloc ?_ _) | (with_reducible refine Kd.C_drewN ?_ _) | (with_reducible refine Kd.C_drew ?_))); (case side4 => exact (Kd.R_reads' HO582.out).2.1); rintro e w' ⟨rfl, ⟨nd, rfl⟩⟩; refine ⟨_, rfl, ?_⟩))
     go_meet
     case rel => exact ⟨_, (true), (by first | rfl | (simp; done) | (simp [*]; done)), H', ⟨by first | omega | exact Nat.le_refl _⟩, ⟨by (with_reducible repeat (first | apply Kd.R_alloc | apply Kd.R_drewN | apply Kd.R_drew)); exact Kd.R_mono HO582.out (fun _ hk => hk.2)⟩, ⟨by (with_reducible repeat (first | apply Kd.R_alloc | apply Kd.R_drewN | apply Kd.R_drew)); exact Kd.R_mono HO585.out (fun _ hk => trivial)⟩, ⟨by (with_reducible repeat (first | apply Kd.R_alloc | apply Kd.R_drewN | apply Kd.R_drew)); exact Kd.R_mono HO590.out (fun _ hk => hk.2)⟩, ⟨by repeat (first | (with_reducible first | exact HB.out | apply below_alloc | apply pw_below_drewN | apply below_drew1) | exact HB.out)⟩⟩
   ·replace c19 := Bool.eq_false_iff.mpr c19
    subst c19
    have H1 : (laws_FnExactWayTo.j0 k a0 l1 a2 a3 t578 t579 t580 t583 t586 t587 t588 true) = some r := by rw [if_neg (show ¬ (false = true) by decide)] at H; exact H
    clear H
    have H := H1
    clear H1
    have H' := Aside0.mk H
    clear H
    obtain ⟨Ao25, co25, eo25⟩ := Kd.R_slice HO590.out
    subst eo25
    obtain ⟨Ao26, co26, eo26⟩ := Kd.R_slice HO582.out
    subst eo26
    go_wp2_with (first | ((with_reducible refine gate_callee (f := 18) rfl ?_); refine goesL_ (some 51) rfl rfl Try.func18 (by kernel_rfl) rfl #[.slice Ao25 t586.length co25, .slice Ao26 t578.length co26] rfl (by (try simp only [List.map_toArray, List.map_cons, List.map_nil]); first | done | rfl | (simp only [List.length_drop, List.length_take]; rfl)) ?_; (with_reducible refine (laws_eqIntS.calls k _ _ t586 _ _ t578 false _ ?side1 ?side2 ?side3 ?side4 A18.out).mono ?_); (case side1 => repeat (first | exact (Kd.R_reads' HO590.out).2.2 | (with_reducible refine Kd.C_alloc ?_ _) | (with_reducible refine Kd.C_drewN ?_ _) | (with_reducible refine Kd.C_drew ?_))); (case side2 => exact (Kd.R_reads' HO590.out).2.1); (case side3 => repeat (first | exact (Kd.R_reads' HO582.out).2.2 | (with_reducible refine Kd.C_alloc ?_ _) | (with_reducible refine Kd.C_drewN ?_ _) | (with_reducible refine Kd.C_drew ?_))); (case side4 => exact (Kd.R_reads' HO582.out).2.1); rintro e w' ⟨rfl, ⟨nd, rfl⟩⟩; refine ⟨_, rfl, ?_⟩))
    go_meet
    case rel => exact ⟨_, (true), (by first | rfl | (simp; done) | (simp [*]; done)), H', ⟨by first | omega | exact Nat.le_refl _⟩, ⟨by (with_reducible repeat (first | apply Kd.R_alloc | apply Kd.R_drewN | apply Kd.R_drew)); exact Kd.R_mono HO582.out (fun _ hk => hk.2)⟩, ⟨by (with_reducible repeat (first | apply Kd.R_alloc | apply Kd.R_drewN | apply Kd.R_drew)); exact Kd.R_mono HO585.out (fun _ hk => trivial)⟩, ⟨by (with_reducible repeat (first | apply Kd.R_alloc | apply Kd.R_drewN | apply Kd.R_drew)); exact Kd.R_mono HO590.out (fun _ hk => hk.2)⟩, ⟨by repeat (first | (with_reducible first | exact HB.out | apply below_alloc | apply pw_below_drewN | apply below_drew1) | exact HB.out)⟩⟩
  case rest =>
   clear HC11
   try clear c1
   try clear c2
   try clear p2
   try clear c3
   try clear c6
   try clear c6b0
   try clear c9
   try clear c12
   try clear c14
   try clear c18
   try clear c19
   try clear c20
   try clear c20b0
   try clear c20b1
   obtain ⟨kq, x62_10, rfl, HA, HJ10, HO_10, HO_13, HO_14, HB⟩ := hcut
   cases kq with
   | zero => exact absurd HA.out (by simp [laws_FnExactWayTo.j0])
   | succ kj10 =>
    have H := HA.out
    clear HA
    simp only [laws_FnExactWayTo.j0] at H
    by_cases c27 : x62_10 = true
    ·subst c27
     have H1 : (some false) = some r := by rw [if_pos rfl] at H; exact H
     clear H
     have H := H1
     clear H1
     obtain rfl := Option.some.inj H
     go_wp2
     go_ret
     exact ⟨by first | rfl | (simp [errW_none, errW_some] <;> rfl) | (simp [*, errW_none, errW_some] <;> rfl), by repeat (first | (with_reducible first | exact HB.out | apply below_alloc | apply pw_below_drewN | apply below_drew1) | exact HB.out)⟩
    ·replace c27 := Bool.eq_false_iff.mpr c27
     subst c27
     have H1 : ((laws_toEdgeS.f kj10 l1).bind fun t592 => ((laws_eqEdgeS.f kj10 t583 t592).bind fun t595 => (if t595 = true then ((laws_markEdgeS.f kj10 t583 1).bind fun bt596 => (if bt596.1 < 0 then (laws_FnExactWayTo.j1 kj10 a0 l1 a2 a3 t578 t579 t580 t586 true) else ((laws_eqIntS.f kj10 t586 t578).bind fun t598 => (if t598 = true then (if t587 = t579 then (laws_FnExactWayTo.j1 kj10 a0 l1 a2 a3 t578 t579 t580 t586 (t588 != t580)) else (laws_FnExactWayTo.j1 kj10 a0 l1 a2 a3 t578 t579 t580 t586 true)) else (laws_FnExactWayTo.j1 kj10 a0 l1 a2 a3 t578 t579 t580 t586 true))))) else (some false)))) = some r := by rw [if_neg (show ¬ (false = true) by decide)] at H; exact H
     clear H
     have H := H1
     clear H1
     replace H := Option.bind_eq_some_iff.mp H
     obtain ⟨t592, A280, H⟩ := H
     replace H : ((laws_eqEdgeS.f kj10 t583 t592).bind fun t595 => (if t595 = true then ((laws_markEdgeS.f kj10 t583 1).bind fun bt596 => (if bt596.1 < 0 then (laws_FnExactWayTo.j1 kj10 a0 l1 a2 a3 t578 t579 t580 t586 true) else ((laws_eqIntS.f kj10 t586 t578).bind fun t598 => (if t598 = true then (if t587 = t579 then (laws_FnExactWayTo.j1 kj10 a0 l1 a2 a3 t578 t579 t580 t586 (t588 != t580)) else (laws_FnExactWayTo.j1 kj10 a0 l1 a2 a3 t578 t579 t580 t586 true)) else (laws_FnExactWayTo.j1 kj10 a0 l1 a2 a3 t578 t579 t580 t586 true))))) else (some false))) = some r := H
     have A28 := Aside0.mk A280
     clear A280
     replace H := Option.bind_eq_some_iff.mp H
     obtain ⟨t595, A290, H⟩ := H
     replace H : (if t595 = true then ((laws_markEdgeS.f kj10 t583 1).bind fun bt596 => (if bt596.1 < 0 then (laws_FnExactWayTo.j1 kj10 a0 l1 a2 a3 t578 t579 t580 t586 true) else ((laws_eqIntS.f kj10 t586 t578).bind fun t598 => (if t598 = true then (if t587 = t579 then (laws_FnExactWayTo.j1 kj10 a0 l1 a2 a3 t578 t579 t580 t586 (t588 != t580)) else (laws_FnExactWayTo.j1 kj10 a0 l1 a2 a3 t578 t579 t580 t586 true)) else (laws_FnExactWayTo.j1 kj10 a0 l1 a2 a3 t578 t579 t580 t586 true))))) else (some false)) = some r := H
     have A29 := Aside0.mk A290
     clear A290
     by_cases c30 : t595 = true
     ·subst c30
      have H1 : ((laws_markEdgeS.f kj10 t583 1).bind fun bt596 => (if bt596.1 < 0 then (laws_FnExactWayTo.j1 kj10 a0 l1 a2 a3 t578 t579 t580 t586 true) else ((laws_eqIntS.f kj10 t586 t578).bind fun t598 => (if t598 = true then (if t587 = t579 then (laws_FnExactWayTo.j1 kj10 a0 l1 a2 a3 t578 t579 t580 t586 (t588 != t580)) else (laws_FnExactWayTo.j1 kj10 a0 l1 a2 a3 t578 t579 t580 t586 true)) else (laws_FnExactWayTo.j1 kj10 a0 l1 a2 a3 t578 t579 t580 t586 true))))) = some r := by rw [if_pos rfl] at H; exact H
      clear H
      have H := H1
      clear H1
      replace H := Option.bind_eq_some_iff.mp H
      obtain ⟨⟨t596, t597⟩, A310, H⟩ := H
      replace H : (if t596 < 0 then (laws_FnExactWayTo.j1 kj10 a0 l1 a2 a3 t578 t579 t580 t586 true) else ((laws_eqIntS.f kj10 t586 t578).bind fun t598 => (if t598 = true then (if t587 = t579 then (laws_FnExactWayTo.j1 kj10 a0 l1 a2 a3 t578 t579 t580 t586 (t588 != t580)) else (laws_FnExactWayTo.j1 kj10 a0 l1 a2 a3 t578 t579 t580 t586 true)) else (laws_FnExactWayTo.j1 kj10 a0 l1 a2 a3 t578 t579 t580 t586 true)))) = some r := H
      have A31 := Aside0.mk A310
      clear A310
      have HC32 := Aside0.mk H
      clear H
      go_upto_region 14 with (first | ((with_reducible refine gate_callee (f := 14) rfl ?_); refine goesL_ (some 65) rfl rfl Try.func14 (by kernel_rfl) rfl #[.slice A1 l1.length c1] rfl (by (try simp only [List.map_toArray, List.map_cons, List.map_nil]); first | done | rfl | (simp only [List.length_drop, List.length_take]; rfl)) ?_; (with_reducible refine (laws_toEdgeS.calls kj10 _ _ l1 t592 _ ?side1 ?side2 A28.out).mono ?_); (case side1 => repeat (first | exact (Kd.C_below HR1.out HB.out) | (with_reducible refine Kd.C_alloc ?_ _) | (with_reducible refine Kd.C_drewN ?_ _) | (with_reducible refine Kd.C_drew ?_))); (case side2 => exact HC1.out); rintro e w33 ⟨v593, rfl, ho0, hb⟩; refine ⟨_, rfl, ?_⟩; have n0_ := Aside0.mk (Kd.R_below (by (with_reducible repeat (first | apply Kd.R_alloc | apply Kd.R_drewN | apply Kd.R_drew)); exact HO_10.out) hb); have n1_ := Aside0.mk (Kd.R_elder' (by (with_reducible repeat (first | apply Kd.R_alloc | apply Kd.R_drewN | apply Kd.R_drew)); exact HO_13.out) (Kd.R_base ho0) hb); have n2_ := Aside0.mk (Kd.R_below (by (with_reducible repeat (first | apply Kd.R_alloc | apply Kd.R_drewN | apply Kd.R_drew)); exact HO_14.out) hb); have n3_ := Aside0.mk (Kd.R_lower (Kd.R_new' ho0 (Kd.R_lt (by (with_reducible repeat (first | apply Kd.R_alloc | apply Kd.R_drewN | apply Kd.R_drew)); exact HO_13.out))) (below_size (by repeat (first | (with_reducible first | exact HB.out | apply below_alloc | apply pw_below_drewN | apply below_drew1) | exact HB.out)))); have n4_ := Aside0.mk (below_step (by repeat (first | (with_reducible first | exact HB.out | apply below_alloc | apply pw_below_drewN | apply below_drew1) | exact HB.out)) hb); clear HO_10; clear HO_13; clear HO_14; clear HB; have HO_10 := n0_; have HO_13 := n1_; have HO_14 := n2_; have HO594 := n3_; have HB := n4_; clear n0_ n1_ n2_ n3_ n4_; (try clear hb); (try clear hb2); (try clear hk); (try clear hi); (try clear ho0); obtain ⟨Ao34, co34, eo34⟩ := Kd.R_slice HO594.out; subst eo34) | ((with_reducible refine gate_callee (f := 17) rfl ?_); refine goesL_ (some 66) rfl rfl Try.func17 (by kernel_rfl) rfl #[.slice Ao16 t583.length co16, .slice Ao34 t592.length co34] rfl (by (try simp only [List.map_toArray, List.map_cons, List.map_nil]); first | done | rfl | (simp only [List.length_drop, List.length_take]; rfl)) ?_; (with_reducible refine (laws_eqEdgeS.calls kj10 _ _ t583 _ _ t592 true _ ?side1 ?side2 ?side3 ?side4 A29.out).mono ?_); (case side1 => repeat (first | exact (Kd.R_reads' HO_13.out).2.2 | (with_reducible refine Kd.C_alloc ?_ _) | (with_reducible refine Kd.C_drewN ?_ _) | (with_reducible refine Kd.C_drew ?_))); (case side2 => exact (Kd.R_reads' HO_13.out).2.1); (case side3 => repeat (first | exact (Kd.R_reads' HO594.out).2.2 | (with_reducible refine Kd.C_alloc ?_ _) | (with_reducible refine Kd.C_drewN ?_ _) | (with_reducible refine Kd.C_drew ?_))); (case side4 => exact (Kd.R_reads' HO594.out).2.1); rintro e w35 ⟨rfl, hb⟩; refine ⟨_, rfl, ?_⟩; have n0_ := Aside0.mk (Kd.R_below (by (with_reducible repeat (first | apply Kd.R_alloc | apply Kd.R_drewN | apply Kd.R_drew)); exact HO_10.out) hb); have n1_ := Aside0.mk (Kd.R_below (by (with_reducible repeat (first | apply Kd.R_alloc | apply Kd.R_drewN | apply Kd.R_drew)); exact HO_13.out) hb); have n2_ := Aside0.mk (Kd.R_below (by (with_reducible repeat (first | apply Kd.R_alloc | apply Kd.R_drewN | apply Kd.R_drew)); exact HO_14.out) hb); have n3_ := Aside0.mk (Kd.R_below (by (with_reducible repeat (first | apply Kd.R_alloc | apply Kd.R_drewN | apply Kd.R_drew)); exact HO594.out) hb); have n4_ := Aside0.mk (below_step (by repeat (first | (with_reducible first | exact HB.out | apply below_alloc | apply pw_below_drewN | apply below_drew1) | exact HB.out)) hb); clear HO_10; clear HO_13; clear HO_14; clear HO594; clear HB; have HO_10 := n0_; have HO_13 := n1_; have HO_14 := n2_; have HO594 := n3_; have HB := n4_; clear n0_ n1_ n2_ n3_ n4_; (try clear hb); (try clear hb2); (try clear hk); (try clear hi)) | ((with_reducible refine gate_callee (f := 23) rfl ?_); refine goesL_ (some 70) rfl rfl Try.func23 (by kernel_rfl) rfl #[.slice Ao16 t583.length co16, .int .i64 1] rfl (by (try simp only [List.map_toArray, List.map_cons, List.map_nil]); first | done | rfl | (simp only [List.length_drop, List.length_take]; rfl)) ?_; (with_reducible refine (laws_markEdgeS.calls kj10 (fun k_ => some k_ = (.slice Ao16 t583.length co16 : Value).ownBlock) (.slice Ao16 t583.length co16) t583 1 t596 t597 w _ ?side1 ?side2 A31.out).mono ?_); (case side1 => repeat (first | (with_reducible first | exact HB.out | apply below_alloc | apply pw_below_drewN | apply below_drew1) | exact HB.out)); (case side2 => exact Kd.R_tight rfl HO_13.out); rintro e w36 ⟨rfl, hy0, hb, hkp⟩; refine ⟨_, rfl, ?_⟩; have n0_ := Aside0.mk (Kd.R_mono (ok' := fun k_ => some k_ ≠ (v589 : Value).ownBlock) (Kd.R_keptB ((Kd.R_apart' HO_10.out (Kd.R_typed HO_13.out) (by decide))) hkp (fun k_ hk_ hs_ => (hk_.2) hs_)) (fun k_ hk_ => hk_.1.1)); have n1_ := Aside0.mk (Kd.R_reok rfl hy0 (fun k_ e_ => HO_13.out.1 k_ e_)); have n2_ := Aside0.mk (Kd.R_mono (ok' := fun k_ => some k_ ≠ (v581 : Value).ownBlock) (Kd.R_keptB ((Kd.R_apart' HO_14.out (Kd.R_typed HO_13.out) (by decide))) hkp (fun k_ hk_ hs_ => (hk_.2) hs_)) (fun k_ hk_ => hk_.1.1)); have n3_ := Aside0.mk (Kd.R_mono (ok' := fun k_ => some k_ ≠ (.slice Ao16 t583.length co16 : Value).ownBlock) (Kd.R_keptB (HO594.out) hkp (fun k_ hk_ hs_ => (hk_.2) hs_)) (fun k_ hk_ => hk_.1.2)); have n4_ := Aside0.mk (hb); clear HO_10; clear HO_13; clear HO_14; clear HO594; clear HB; have HO_10 := n0_; have HO_13 := n1_; have HO_14 := n2_; have HO594 := n3_; have HB := n4_; clear n0_ n1_ n2_ n3_ n4_; (try clear hb); (try clear hkp); (try clear hy0)))
      (try simp only [Act.put, List.setIfInBounds_toArray, List.set_cons_zero, List.set_cons_succ])
      go_cut [88] (fun v88 wc => ∃ (kq : Nat) (x88_31 : Bool), v88 = .bool x88_31 ∧ Aside0 (laws_FnExactWayTo.j1 kq a0 l1 a2 a3 t578 t579 t580 t586 x88_31 = some r) ∧ Aside0 (kq ≤ kj10) ∧ Aside0 (Kd.R (Kd.int .i64) 3 wc w.heap.size (fun k_ => some k_ ≠ (v589 : Value).ownBlock) v581 t578) ∧ Aside0 (Kd.R (Kd.int .i64) 3 wc w.heap.size (fun k_ => some k_ ≠ (v581 : Value).ownBlock) v589 t586) ∧ Aside0 (Below w.heap.size w wc))
      case first =>
       have H := HC32.out
       clear HC32
       by_cases c37 : t596 < 0
       ·rw [if_pos c37] at H
        have c37b0 : decide (t596 < 0) = true := decide_eq_true c37
        clear c37
        (first | rw [c37b0] | (simp only [i64_w, i32_w]; rw [c37b0]) | skip)
        have H' := Aside0.mk H
        clear H
        go_wp2
        go_meet
        case rel => exact ⟨_, (true), (by first | rfl | (simp; done) | (simp [*]; done)), H', ⟨by have := HJ10.out; first | omega | exact Nat.le_refl _⟩, ⟨by (with_reducible repeat (first | apply Kd.R_alloc | apply Kd.R_drewN | apply Kd.R_drew)); exact HO_10.out⟩, ⟨by (with_reducible repeat (first | apply Kd.R_alloc | apply Kd.R_drewN | apply Kd.R_drew)); exact HO_14.out⟩, ⟨by repeat (first | (with_reducible first | exact HB.out | apply below_alloc | apply pw_below_drewN | apply below_drew1) | exact HB.out)⟩⟩
       ·rw [if_neg c37] at H
        have c37b0 : decide (t596 < 0) = false := decide_eq_false c37
        clear c37
        (first | rw [c37b0] | (simp only [i64_w, i32_w]; rw [c37b0]) | skip)
        replace H := Option.bind_eq_some_iff.mp H
        obtain ⟨t598, A380, H⟩ := H
        replace H : (if t598 = true then (if t587 = t579 then (laws_FnExactWayTo.j1 kj10 a0 l1 a2 a3 t578 t579 t580 t586 (t588 != t580)) else (laws_FnExactWayTo.j1 kj10 a0 l1 a2 a3 t578 t579 t580 t586 true)) else (laws_FnExactWayTo.j1 kj10 a0 l1 a2 a3 t578 t579 t580 t586 true)) = some r := H
        have A38 := Aside0.mk A380
        clear A380
        by_cases c39 : t598 = true
        ·subst c39
         have H1 : (if t587 = t579 then (laws_FnExactWayTo.j1 kj10 a0 l1 a2 a3 t578 t579 t580 t586 (t588 != t580)) else (laws_FnExactWayTo.j1 kj10 a0 l1 a2 a3 t578 t579 t580 t586 true)) = some r := by rw [if_pos rfl] at H; exact H
         clear H
         have H := H1
         clear H1
         by_cases c40 : t587 = t579
         ·rw [if_pos c40] at H
          have c40b0 : (t587 == t579) = true := beq_iff_eq.mpr c40
          have c40b1 : (t587 != t579) = false := bne_eq_false_iff_eq.mpr c40
          clear c40
          have H' := Aside0.mk H
          clear H
          obtain ⟨Ao41, co41, eo41⟩ := Kd.R_slice HO_14.out
          subst eo41
          obtain ⟨Ao42, co42, eo42⟩ := Kd.R_slice HO_10.out
          subst eo42
          go_wp2_with (first | (go_at_call 18; (with_reducible refine (laws_eqIntS.calls kj10 _ _ t586 _ _ t578 true _ ?side1 ?side2 ?side3 ?side4 A38.out).mono ?_); (case side1 => repeat (first | exact (Kd.R_reads' HO_14.out).2.2 | (with_reducible refine Kd.C_alloc ?_ _) | (with_reducible refine Kd.C_drewN ?_ _) | (with_reducible refine Kd.C_drew ?_))); (case side2 => exact (Kd.R_reads' HO_14.out).2.1); (case side3 => repeat (first | exact (Kd.R_reads' HO_10.out).2.2 | (with_reducible refine Kd.C_alloc ?_ _) | (with_reducible refine Kd.C_drewN ?_ _) | (with_reducible refine Kd.C_drew ?_))); (case side4 => exact (Kd.R_reads' HO_10.out).2.1); rintro e w' ⟨rfl, ⟨nd, rfl⟩⟩))
          go_meet
          case rel => exact ⟨_, ((t588 != t580)), (by first | rfl | (simp; done) | (simp [*]; done)), H', ⟨by have := HJ10.out; first | omega | exact Nat.le_refl _⟩, ⟨by (with_reducible repeat (first | apply Kd.R_alloc | apply Kd.R_drewN | apply Kd.R_drew)); exact HO_10.out⟩, ⟨by (with_reducible repeat (first | apply Kd.R_alloc | apply Kd.R_drewN | apply Kd.R_drew)); exact HO_14.out⟩, ⟨by repeat (first | (with_reducible first | exact HB.out | apply below_alloc | apply pw_below_drewN | apply below_drew1) | exact HB.out)⟩⟩
         ·rw [if_neg c40] at H
          have c40b0 : (t587 == t579) = false := beq_eq_false_iff_ne.mpr c40
          have c40b1 : (t587 != t579) = true := bne_iff_ne.mpr c40
          have H' := Aside0.mk H
          clear H
          obtain ⟨Ao43, co43, eo43⟩ := Kd.R_slice HO_14.out
          subst eo43
          obtain ⟨Ao44, co44, eo44⟩ := Kd.R_slice HO_10.out
          subst eo44
          go_wp2_with (first | (go_at_call 18; (with_reducible refine (laws_eqIntS.calls kj10 _ _ t586 _ _ t578 true _ ?side1 ?side2 ?side3 ?side4 A38.out).mono ?_); (case side1 => repeat (first | exact (Kd.R_reads' HO_14.out).2.2 | (with_reducible refine Kd.C_alloc ?_ _) | (with_reducible refine Kd.C_drewN ?_ _) | (with_reducible refine Kd.C_drew ?_))); (case side2 => exact (Kd.R_reads' HO_14.out).2.1); (case side3 => repeat (first | exact (Kd.R_reads' HO_10.out).2.2 | (with_reducible refine Kd.C_alloc ?_ _) | (with_reducible refine Kd.C_drewN ?_ _) | (with_reducible refine Kd.C_drew ?_))); (case side4 => exact (Kd.R_reads' HO_10.out).2.1); rintro e w' ⟨rfl, ⟨nd, rfl⟩⟩))
          go_meet
          case rel => exact ⟨_, (true), (by first | rfl | (simp; done) | (simp [*]; done)), H', ⟨by have := HJ10.out; first | omega | exact Nat.le_refl _⟩, ⟨by (with_reducible repeat (first | apply Kd.R_alloc | apply Kd.R_drewN | apply Kd.R_drew)); exact HO_10.out⟩, ⟨by (with_reducible repeat (first | apply Kd.R_alloc | apply Kd.R_drewN | apply Kd.R_drew)); exact HO_14.out⟩, ⟨by repeat (first | (with_reducible first | exact HB.out | apply below_alloc | apply pw_below_drewN | apply below_drew1) | exact HB.out)⟩⟩
        ·replace c39 := Bool.eq_false_iff.mpr c39
         subst c39
         have H1 : (laws_FnExactWayTo.j1 kj10 a0 l1 a2 a3 t578 t579 t580 t586 true) = some r := by rw [if_neg (show ¬ (false = true) by decide)] at H; exact H
         clear H
         have H := H1
         clear H1
         have H' := Aside0.mk H
         clear H
         obtain ⟨Ao45, co45, eo45⟩ := Kd.R_slice HO_14.out
         subst eo45
         obtain ⟨Ao46, co46, eo46⟩ := Kd.R_slice HO_10.out
         subst eo46
         go_wp2_with (first | (go_at_call 18; (with_reducible refine (laws_eqIntS.calls kj10 _ _ t586 _ _ t578 false _ ?side1 ?side2 ?side3 ?side4 A38.out).mono ?_); (case side1 => repeat (first | exact (Kd.R_reads' HO_14.out).2.2 | (with_reducible refine Kd.C_alloc ?_ _) | (with_reducible refine Kd.C_drewN ?_ _) | (with_reducible refine Kd.C_drew ?_))); (case side2 => exact (Kd.R_reads' HO_14.out).2.1); (case side3 => repeat (first | exact (Kd.R_reads' HO_10.out).2.2 | (with_reducible refine Kd.C_alloc ?_ _) | (with_reducible refine Kd.C_drewN ?_ _) | (with_reducible refine Kd.C_drew ?_))); (case side4 => exact (Kd.R_reads' HO_10.out).2.1); rintro e w' ⟨rfl, ⟨nd, rfl⟩⟩))
         go_meet
         case rel => exact ⟨_, (true), (by first | rfl | (simp; done) | (simp [*]; done)), H', ⟨by have := HJ10.out; first | omega | exact Nat.le_refl _⟩, ⟨by (with_reducible repeat (first | apply Kd.R_alloc | apply Kd.R_drewN | apply Kd.R_drew)); exact HO_10.out⟩, ⟨by (with_reducible repeat (first | apply Kd.R_alloc | apply Kd.R_drewN | apply Kd.R_drew)); exact HO_14.out⟩, ⟨by repeat (first | (with_reducible first | exact HB.out | apply below_alloc | apply pw_below_drewN | apply below_drew1) | exact HB.out)⟩⟩
      case rest =>
       clear HC32
       try clear c1
       try clear c2
       try clear p2
       try clear c3
       try clear c4
       try clear c6
       try clear c6b0
       try clear c9
       try clear c12
       try clear c14
       try clear c17
       try clear c18
       try clear c19
       try clear c20
       try clear c20b0
       try clear c20b1
       try clear c23
       try clear c27
       try clear c30
       try clear c32
       try clear c33
       try clear c37
       try clear c37b0
       try clear c39
       try clear c40
       try clear c40b0
       try clear c40b1
       try clear p2
       obtain ⟨kq, x88_31, rfl, HA, HJ31, HO_10, HO_14, HB⟩ := hcut
       cases kq with
       | zero => exact absurd HA.out (by simp [laws_FnExactWayTo.j1])
       | succ kj31 =>
        have H := HA.out
        clear HA
        simp only [laws_FnExactWayTo.j1] at H
        by_cases c47 : x88_31 = true
        ·subst c47
         have H1 : (some false) = some r := by rw [if_pos rfl] at H; exact H
         clear H
         have H := H1
         clear H1
         obtain rfl := Option.some.inj H
         go_wp2
         go_ret
         exact ⟨by first | rfl | (simp [errW_none, errW_some] <;> rfl) | (simp [*, errW_none, errW_some] <;> rfl), by repeat (first | (with_reducible first | exact HB.out | apply below_alloc | apply pw_below_drewN | apply below_drew1) | exact HB.out)⟩
        ·replace c47 := Bool.eq_false_iff.mpr c47
         subst c47
         have H1 : ((laws_markIntS.f kj31 t586 1).bind fun bt599 => ((laws_heldIntS.f kj31 bt599.2 1).bind fun t601 => (if t601 < 0 then (some false) else (if t601 = bt599.1 then ((laws_toEdgeS.f kj31 l1).bind fun t602 => ((impl_WayTo.f kj31 a0 t602 a2 a3).bind fun bt605 => ((laws_eqIntS.f kj31 bt605.1 t578).bind fun t610 => (if t610 = true then (if bt605.2.1 = t579 then (laws_FnExactWayTo.j2 kj31 bt599.2 bt599.1 (bt605.2.2 != t580)) else (laws_FnExactWayTo.j2 kj31 bt599.2 bt599.1 true)) else (laws_FnExactWayTo.j2 kj31 bt599.2 bt599.1 true))))) else (some false))))) = some r := by rw [if_neg (show ¬ (false = true) by decide)] at H; exact H
         clear H
         have H := H1
         clear H1
         replace H := Option.bind_eq_some_iff.mp H
         obtain ⟨⟨t599, t600⟩, A480, H⟩ := H
         replace H : ((laws_heldIntS.f kj31 t600 1).bind fun t601 => (if t601 < 0 then (some false) else (if t601 = t599 then ((laws_toEdgeS.f kj31 l1).bind fun t602 => ((impl_WayTo.f kj31 a0 t602 a2 a3).bind fun bt605 => ((laws_eqIntS.f kj31 bt605.1 t578).bind fun t610 => (if t610 = true then (if bt605.2.1 = t579 then (laws_FnExactWayTo.j2 kj31 t600 t599 (bt605.2.2 != t580)) else (laws_FnExactWayTo.j2 kj31 t600 t599 true)) else (laws_FnExactWayTo.j2 kj31 t600 t599 true))))) else (some false)))) = some r := H
         have A48 := Aside0.mk A480
         clear A480
         replace H := Option.bind_eq_some_iff.mp H
         obtain ⟨t601, A490, H⟩ := H
         replace H : (if t601 < 0 then (some false) else (if t601 = t599 then ((laws_toEdgeS.f kj31 l1).bind fun t602 => ((impl_WayTo.f kj31 a0 t602 a2 a3).bind fun bt605 => ((laws_eqIntS.f kj31 bt605.1 t578).bind fun t610 => (if t610 = true then (if bt605.2.1 = t579 then (laws_FnExactWayTo.j2 kj31 t600 t599 (bt605.2.2 != t580)) else (laws_FnExactWayTo.j2 kj31 t600 t599 true)) else (laws_FnExactWayTo.j2 kj31 t600 t599 true))))) else (some false))) = some r := H
         have A49 := Aside0.mk A490
         clear A490
         by_cases c50 : t601 < 0
         ·rw [if_pos c50] at H
          have c50b0 : decide (t601 < 0) = true := decide_eq_true c50
          clear c50
          obtain rfl := Option.some.inj H
          obtain ⟨Ao51, co51, eo51⟩ := Kd.R_slice HO_14.out
          subst eo51
          go_wp2_with (first | ((with_reducible refine gate_callee (f := 24) rfl ?_); refine goesL_ (some 91) rfl rfl Try.func24 (by kernel_rfl) rfl #[.slice Ao51 t586.length co51, .int .i64 1] rfl (by (try simp only [List.map_toArray, List.map_cons, List.map_nil]); first | done | rfl | (simp only [List.length_drop, List.length_take]; rfl)) ?_; (with_reducible refine (laws_markIntS.calls kj31 (fun k_ => some k_ = (.slice Ao51 t586.length co51 : Value).ownBlock) (.slice Ao51 t586.length co51) t586 1 t599 t600 w _ ?side1 ?side2 A48.out).mono ?_); (case side1 => repeat (first | (with_reducible first | exact HB.out | apply below_alloc | apply pw_below_drewN | apply below_drew1) | exact HB.out)); (case side2 => exact Kd.R_tight rfl HO_14.out); rintro e w52 ⟨rfl, hy0, hb, hkp⟩; refine ⟨_, rfl, ?_⟩; have n0_ := Aside0.mk (Kd.R_mono (ok' := fun k_ => some k_ ≠ (.slice Ao51 t586.length co51 : Value).ownBlock) (Kd.R_keptB (HO_10.out) hkp (fun k_ hk_ hs_ => (hk_) hs_)) (fun k_ hk_ => hk_.1)); have n1_ := Aside0.mk (Kd.R_reok rfl hy0 (fun k_ e_ => HO_14.out.1 k_ e_)); have n2_ := Aside0.mk (hb); clear HO_10; clear HO_14; clear HB; have HO_10 := n0_; have HO_14 := n1_; have HB := n2_; clear n0_ n1_ n2_; (try clear hb); (try clear hkp); (try clear hy0)) | ((with_reducible refine gate_callee (f := 25) rfl ?_); refine goesL_ (some 94) rfl rfl Try.func25 (by kernel_rfl) rfl #[.slice Ao51 t600.length co51, .int .i64 1] rfl (by (try simp only [List.map_toArray, List.map_cons, List.map_nil]); first | done | (rw [show t600.length = t586.length from (Kd.R_reads' HO_14.out).1.symm] <;> rfl) | rfl | (simp only [List.length_drop, List.length_take]; rfl)) ?_; (with_reducible refine (laws_heldIntS.calls kj31 _ _ t600 1 t601 _ ?side1 ?side2 A49.out).mono ?_); (case side1 => repeat (first | exact (Kd.R_reads' HO_14.out).2.2 | (with_reducible refine Kd.C_alloc ?_ _) | (with_reducible refine Kd.C_drewN ?_ _) | (with_reducible refine Kd.C_drew ?_))); (case side2 => rw [show t600.length = t586.length from (Kd.R_reads' HO_14.out).1.symm]; exact (Kd.R_reads' HO_14.out).2.1); rintro e w' ⟨rfl, ⟨nd, rfl⟩⟩; refine ⟨_, rfl, ?_⟩))
          go_ret
          exact ⟨by first | rfl | (simp [errW_none, errW_some] <;> rfl) | (simp [*, errW_none, errW_some] <;> rfl), by repeat (first | (with_reducible first | exact HB.out | apply below_alloc | apply pw_below_drewN | apply below_drew1) | exact HB.out)⟩
         ·rw [if_neg c50] at H
          have c50b0 : decide (t601 < 0) = false := decide_eq_false c50
          clear c50
          by_cases c53 : t601 = t599
          ·rw [if_pos c53] at H
           have c53b0 : (t601 == t599) = true := beq_iff_eq.mpr c53
           have c53b1 : (t601 != t599) = false := bne_eq_false_iff_eq.mpr c53
           clear c53
           replace H := Option.bind_eq_some_iff.mp H
           obtain ⟨t602, A540, H⟩ := H
           replace H : ((impl_WayTo.f kj31 a0 t602 a2 a3).bind fun bt605 => ((laws_eqIntS.f kj31 bt605.1 t578).bind fun t610 => (if t610 = true then (if bt605.2.1 = t579 then (laws_FnExactWayTo.j2 kj31 t600 t599 (bt605.2.2 != t580)) else (laws_FnExactWayTo.j2 kj31 t600 t599 true)) else (laws_FnExactWayTo.j2 kj31 t600 t599 true)))) = some r := H
           have A54 := Aside0.mk A540
           clear A540
           replace H := Option.bind_eq_some_iff.mp H
           obtain ⟨⟨t605, t606, t607⟩, A550, H⟩ := H
           replace H : ((laws_eqIntS.f kj31 t605 t578).bind fun t610 => (if t610 = true then (if t606 = t579 then (laws_FnExactWayTo.j2 kj31 t600 t599 (t607 != t580)) else (laws_FnExactWayTo.j2 kj31 t600 t599 true)) else (laws_FnExactWayTo.j2 kj31 t600 t599 true))) = some r := H
           have A55 := Aside0.mk A550
           clear A550
           have HC56 := Aside0.mk H
           clear H
           obtain ⟨Ao57, co57, eo57⟩ := Kd.R_slice HO_14.out
           subst eo57
           go_upto_region 25 with (first | ((with_reducible refine gate_callee (f := 24) rfl ?_); refine goesL_ (some 91) rfl rfl Try.func24 (by kernel_rfl) rfl #[.slice Ao57 t586.length co57, .int .i64 1] rfl (by (try simp only [List.map_toArray, List.map_cons, List.map_nil]); first | done | rfl | (simp only [List.length_drop, List.length_take]; rfl)) ?_; (with_reducible refine (laws_markIntS.calls kj31 (fun k_ => some k_ = (.slice Ao57 t586.length co57 : Value).ownBlock) (.slice Ao57 t586.length co57) t586 1 t599 t600 w _ ?side1 ?side2 A48.out).mono ?_); (case side1 => repeat (first | (with_reducible first | exact HB.out | apply below_alloc | apply pw_below_drewN | apply below_drew1) | exact HB.out)); (case side2 => exact Kd.R_tight rfl HO_14.out); rintro e w58 ⟨rfl, hy0, hb, hkp⟩; refine ⟨_, rfl, ?_⟩; have n0_ := Aside0.mk (Kd.R_mono (ok' := fun k_ => some k_ ≠ (.slice Ao57 t586.length co57 : Value).ownBlock) (Kd.R_keptB (HO_10.out) hkp (fun k_ hk_ hs_ => (hk_) hs_)) (fun k_ hk_ => hk_.1)); have n1_ := Aside0.mk (Kd.R_reok rfl hy0 (fun k_ e_ => HO_14.out.1 k_ e_)); have n2_ := Aside0.mk (hb); clear HO_10; clear HO_14; clear HB; have HO_10 := n0_; have HO_14 := n1_; have HB := n2_; clear n0_ n1_ n2_; (try clear hb); (try clear hkp); (try clear hy0)) | ((with_reducible refine gate_callee (f := 25) rfl ?_); refine goesL_ (some 94) rfl rfl Try.func25 (by kernel_rfl) rfl #[.slice Ao57 t600.length co57, .int .i64 1] rfl (by (try simp only [List.map_toArray, List.map_cons, List.map_nil]); first | done | (rw [show t600.length = t586.length from (Kd.R_reads' HO_14.out).1.symm] <;> rfl) | rfl | (simp only [List.length_drop, List.length_take]; rfl)) ?_; (with_reducible refine (laws_heldIntS.calls kj31 _ _ t600 1 t601 _ ?side1 ?side2 A49.out).mono ?_); (case side1 => repeat (first | exact (Kd.R_reads' HO_14.out).2.2 | (with_reducible refine Kd.C_alloc ?_ _) | (with_reducible refine Kd.C_drewN ?_ _) | (with_reducible refine Kd.C_drew ?_))); (case side2 => rw [show t600.length = t586.length from (Kd.R_reads' HO_14.out).1.symm]; exact (Kd.R_reads' HO_14.out).2.1); rintro e w' ⟨rfl, ⟨nd, rfl⟩⟩; refine ⟨_, rfl, ?_⟩) | ((with_reducible refine gate_callee (f := 14) rfl ?_); refine goesL_ (some 103) rfl rfl Try.func14 (by kernel_rfl) rfl #[.slice A1 l1.length c1] rfl (by (try simp only [List.map_toArray, List.map_cons, List.map_nil]); first | done | rfl | (simp only [List.length_drop, List.length_take]; rfl)) ?_; (with_reducible refine (laws_toEdgeS.calls kj31 _ _ l1 t602 _ ?side1 ?side2 A54.out).mono ?_); (case side1 => repeat (first | exact (Kd.C_below HR1.out (by repeat (first | (with_reducible first | exact HB.out | apply below_alloc | apply pw_below_drewN | apply below_drew1) | exact HB.out))) | (with_reducible refine Kd.C_alloc ?_ _) | (with_reducible refine Kd.C_drewN ?_ _) | (with_reducible refine Kd.C_drew ?_))); (case side2 => exact HC1.out); rintro e w59 ⟨v603, rfl, ho0, hb⟩; refine ⟨_, rfl, ?_⟩; have n0_ := Aside0.mk (Kd.R_below (by (with_reducible repeat (first | apply Kd.R_alloc | apply Kd.R_drewN | apply Kd.R_drew)); exact HO_10.out) hb); have n1_ := Aside0.mk (Kd.R_below (by (with_reducible repeat (first | apply Kd.R_alloc | apply Kd.R_drewN | apply Kd.R_drew)); exact HO_14.out) hb); have n2_ := Aside0.mk (Kd.R_lower ho0 (below_size (by repeat (first | (with_reducible first | exact HB.out | apply below_alloc | apply pw_below_drewN | apply below_drew1) | exact HB.out)))); have n3_ := Aside0.mk (below_step (by repeat (first | (with_reducible first | exact HB.out | apply below_alloc | apply pw_below_drewN | apply below_drew1) | exact HB.out)) hb); clear HO_10; clear HO_14; clear HB; have HO_10 := n0_; have HO_14 := n1_; have HO604 := n2_; have HB := n3_; clear n0_ n1_ n2_ n3_; (try clear hb); (try clear hb2); (try clear hk); (try clear hi); (try clear ho0); obtain ⟨Ao60, co60, eo60⟩ := Kd.R_slice HO604.out; subst eo60) | ((with_reducible refine gate_callee (f := 33) rfl ?_); refine goesL_ (some 106) rfl rfl Try.func33 (by kernel_rfl) rfl #[.int .i64 a0, .slice Ao60 t602.length co60, .int .i64 a2, .int .i64 a3] rfl (by (try simp only [List.map_toArray, List.map_cons, List.map_nil]); first | done | rfl | (simp only [List.length_drop, List.length_take]; rfl)) ?_; (with_reducible refine (impl_WayTo.calls kj31 a0 _ _ t602 a2 a3 t605 t606 t607 _ ?side1 ?side2 A55.out).mono ?_); (case side1 => repeat (first | exact (Kd.R_reads' HO604.out).2.2 | (with_reducible refine Kd.C_alloc ?_ _) | (with_reducible refine Kd.C_drewN ?_ _) | (with_reducible refine Kd.C_drew ?_))); (case side2 => exact (Kd.R_reads' HO604.out).2.1); rintro e w61 ⟨v608, rfl, ho0, hb⟩; refine ⟨_, rfl, ?_⟩; have n0_ := Aside0.mk (Kd.R_elder' (by (with_reducible repeat (first | apply Kd.R_alloc | apply Kd.R_drewN | apply Kd.R_drew)); exact HO_10.out) (Kd.R_base ho0) hb); have n1_ := Aside0.mk (Kd.R_elder' (by (with_reducible repeat (first | apply Kd.R_alloc | apply Kd.R_drewN | apply Kd.R_drew)); exact HO_14.out) (Kd.R_base ho0) hb); have n2_ := Aside0.mk (Kd.R_below (by (with_reducible repeat (first | apply Kd.R_alloc | apply Kd.R_drewN | apply Kd.R_drew)); exact HO604.out) hb); have n3_ := Aside0.mk (Kd.R_lower (Kd.R_new' (Kd.R_new' ho0 (Kd.R_lt (by (with_reducible repeat (first | apply Kd.R_alloc | apply Kd.R_drewN | apply Kd.R_drew)); exact HO_10.out))) (Kd.R_lt (by (with_reducible repeat (first | apply Kd.R_alloc | apply Kd.R_drewN | apply Kd.R_drew)); exact HO_14.out))) (below_size (by repeat (first | (with_reducible first | exact HB.out | apply below_alloc | apply pw_below_drewN | apply below_drew1) | exact HB.out)))); have n4_ := Aside0.mk (below_step (by repeat (first | (with_reducible first | exact HB.out | apply below_alloc | apply pw_below_drewN | apply below_drew1) | exact HB.out)) hb); clear HO_10; clear HO_14; clear HO604; clear HB; have HO_10 := n0_; have HO_14 := n1_; have HO604 := n2_; have HO609 := n3_; have HB := n4_; clear n0_ n1_ n2_ n3_ n4_; (try clear hb); (try clear hb2); (try clear hk); (try clear hi); (try clear ho0)))
           (try simp only [Act.put, List.setIfInBounds_toArray, List.set_cons_zero, List.set_cons_succ])
           go_cut [123] (fun v123 wc => ∃ (kq : Nat) (x123_55 : Bool), v123 = .bool x123_55 ∧ Aside0 (laws_FnExactWayTo.j2 kq t600 t599 x123_55 = some r) ∧ Aside0 (kq ≤ kj31) ∧ Aside0 (Kd.R (Kd.int .i64) 3 wc w.heap.size (fun _ => True) (.slice Ao57 t586.length co57) t600) ∧ Aside0 (Below w.heap.size w wc))
           case first =>
            have H := HC56.out
            clear HC56
            replace H := Option.bind_eq_some_iff.mp H
            obtain ⟨t610, A620, H⟩ := H
            replace H : (if t610 = true then (if t606 = t579 then (laws_FnExactWayTo.j2 kj31 t600 t599 (t607 != t580)) else (laws_FnExactWayTo.j2 kj31 t600 t599 true)) else (laws_FnExactWayTo.j2 kj31 t600 t599 true)) = some r := H
            have A62 := Aside0.mk A620
            clear A620
            by_cases c63 : t610 = true
            ·subst c63
             have H1 : (if t606 = t579 then (laws_FnExactWayTo.j2 kj31 t600 t599 (t607 != t580)) else (laws_FnExactWayTo.j2 kj31 t600 t599 true)) = some r := by rw [if_pos rfl] at H; exact H
             clear H
             have H := H1
             clear H1
             by_cases c64 : t606 = t579
             ·rw [if_pos c64] at H
              have c64b0 : (t606 == t579) = true := beq_iff_eq.mpr c64
              have c64b1 : (t606 != t579) = false := bne_eq_false_iff_eq.mpr c64
              clear c64
              (first | rw [c64b0] | (simp only [i64_w, i32_w]; rw [c64b0]) | skip)
              have H' := Aside0.mk H
              clear H
              obtain ⟨Ao65, co65, eo65⟩ := Kd.R_slice HO609.out
              subst eo65
              obtain ⟨Ao66, co66, eo66⟩ := Kd.R_slice HO_10.out
              subst eo66
              go_wp2_with (first | ((with_reducible refine gate_callee (f := 18) rfl ?_); refine goesL_ (some 112) rfl rfl Try.func18 (by kernel_rfl) rfl #[.slice Ao65 t605.length co65, .slice Ao66 t578.length co66] rfl (by (try simp only [List.map_toArray, List.map_cons, List.map_nil]); first | done | rfl | (simp only [List.length_drop, List.length_take]; rfl)) ?_; (with_reducible refine (laws_eqIntS.calls kj31 _ _ t605 _ _ t578 true _ ?side1 ?side2 ?side3 ?side4 A62.out).mono ?_); (case side1 => repeat (first | exact (Kd.R_reads' HO609.out).2.2 | (with_reducible refine Kd.C_alloc ?_ _) | (with_reducible refine Kd.C_drewN ?_ _) | (with_reducible refine Kd.C_drew ?_))); (case side2 => exact (Kd.R_reads' HO609.out).2.1); (case side3 => repeat (first | exact (Kd.R_reads' HO_10.out).2.2 | (with_reducible refine Kd.C_alloc ?_ _) | (with_reducible refine Kd.C_drewN ?_ _) | (with_reducible refine Kd.C_drew ?_))); (case side4 => exact (Kd.R_reads' HO_10.out).2.1); rintro e w' ⟨rfl, ⟨nd, rfl⟩⟩; refine ⟨_, rfl, ?_⟩))
              go_meet
              case rel => exact ⟨_, ((t607 != t580)), (by first | rfl | (simp; done) | (simp [*]; done)), H', ⟨by have := HJ10.out; have := HJ31.out; first | omega | exact Nat.le_refl _⟩, ⟨by (with_reducible repeat (first | apply Kd.R_alloc | apply Kd.R_drewN | apply Kd.R_drew)); exact Kd.R_mono HO_14.out (fun _ hk => trivial)⟩, ⟨by repeat (first | (with_reducible first | exact HB.out | apply below_alloc | apply pw_below_drewN | apply below_drew1) | exact HB.out)⟩⟩
             ·rw [if_neg c64] at H
              have c64b0 : (t606 == t579) = false := beq_eq_false_iff_ne.mpr c64
              have c64b1 : (t606 != t579) = true := bne_iff_ne.mpr c64
              (first | rw [c64b0] | (simp only [i64_w, i32_w]; rw [c64b0]) | skip)
              have H' := Aside0.mk H
              clear H
              obtain ⟨Ao67, co67, eo67⟩ := Kd.R_slice HO609.out
              subst eo67
              obtain ⟨Ao68, co68, eo68⟩ := Kd.R_slice HO_10.out
              subst eo68
              go_wp2_with (first | ((with_reducible refine gate_callee (f := 18) rfl ?_); refine goesL_ (some 112) rfl rfl Try.func18 (by kernel_rfl) rfl #[.slice Ao67 t605.length co67, .slice Ao68 t578.length co68] rfl (by (try simp only [List.map_toArray, List.map_cons, List.map_nil]); first | done | rfl | (simp only [List.length_drop, List.length_take]; rfl)) ?_; (with_reducible refine (laws_eqIntS.calls kj31 _ _ t605 _ _ t578 true _ ?side1 ?side2 ?side3 ?side4 A62.out).mono ?_); (case side1 => repeat (first | exact (Kd.R_reads' HO609.out).2.2 | (with_reducible refine Kd.C_alloc ?_ _) | (with_reducible refine Kd.C_drewN ?_ _) | (with_reducible refine Kd.C_drew ?_))); (case side2 => exact (Kd.R_reads' HO609.out).2.1); (case side3 => repeat (first | exact (Kd.R_reads' HO_10.out).2.2 | (with_reducible refine Kd.C_alloc ?_ _) | (with_reducible refine Kd.C_drewN ?_ _) | (with_reducible refine Kd.C_drew ?_))); (case side4 => exact (Kd.R_reads' HO_10.out).2.1); rintro e w' ⟨rfl, ⟨nd, rfl⟩⟩; refine ⟨_, rfl, ?_⟩))
              go_meet
              case rel => exact ⟨_, (true), (by first | rfl | (simp; done) | (simp [*]; done)), H', ⟨by have := HJ10.out; have := HJ31.out; first | omega | exact Nat.le_refl _⟩, ⟨by (with_reducible repeat (first | apply Kd.R_alloc | apply Kd.R_drewN | apply Kd.R_drew)); exact Kd.R_mono HO_14.out (fun _ hk => trivial)⟩, ⟨by repeat (first | (with_reducible first | exact HB.out | apply below_alloc | apply pw_below_drewN | apply below_drew1) | exact HB.out)⟩⟩
            ·replace c63 := Bool.eq_false_iff.mpr c63
             subst c63
             have H1 : (laws_FnExactWayTo.j2 kj31 t600 t599 true) = some r := by rw [if_neg (show ¬ (false = true) by decide)] at H; exact H
             clear H
             have H := H1
             clear H1
             have H' := Aside0.mk H
             clear H
             obtain ⟨Ao69, co69, eo69⟩ := Kd.R_slice HO609.out
             subst eo69
             obtain ⟨Ao70, co70, eo70⟩ := Kd.R_slice HO_10.out
             subst eo70
             go_wp2_with (first | ((with_reducible refine gate_callee (f := 18) rfl ?_); refine goesL_ (some 112) rfl rfl Try.func18 (by kernel_rfl) rfl #[.slice Ao69 t605.length co69, .slice Ao70 t578.length co70] rfl (by (try simp only [List.map_toArray, List.map_cons, List.map_nil]); first | done | rfl | (simp only [List.length_drop, List.length_take]; rfl)) ?_; (with_reducible refine (laws_eqIntS.calls kj31 _ _ t605 _ _ t578 false _ ?side1 ?side2 ?side3 ?side4 A62.out).mono ?_); (case side1 => repeat (first | exact (Kd.R_reads' HO609.out).2.2 | (with_reducible refine Kd.C_alloc ?_ _) | (with_reducible refine Kd.C_drewN ?_ _) | (with_reducible refine Kd.C_drew ?_))); (case side2 => exact (Kd.R_reads' HO609.out).2.1); (case side3 => repeat (first | exact (Kd.R_reads' HO_10.out).2.2 | (with_reducible refine Kd.C_alloc ?_ _) | (with_reducible refine Kd.C_drewN ?_ _) | (with_reducible refine Kd.C_drew ?_))); (case side4 => exact (Kd.R_reads' HO_10.out).2.1); rintro e w' ⟨rfl, ⟨nd, rfl⟩⟩; refine ⟨_, rfl, ?_⟩))
             go_meet
             case rel => exact ⟨_, (true), (by first | rfl | (simp; done) | (simp [*]; done)), H', ⟨by have := HJ10.out; have := HJ31.out; first | omega | exact Nat.le_refl _⟩, ⟨by (with_reducible repeat (first | apply Kd.R_alloc | apply Kd.R_drewN | apply Kd.R_drew)); exact Kd.R_mono HO_14.out (fun _ hk => trivial)⟩, ⟨by repeat (first | (with_reducible first | exact HB.out | apply below_alloc | apply pw_below_drewN | apply below_drew1) | exact HB.out)⟩⟩
           case rest =>
            clear HC56
            try clear c1
            try clear c2
            try clear p2
            try clear c3
            try clear c4
            try clear c5
            try clear c6
            try clear c6b0
            try clear c9
            try clear c12
            try clear c14
            try clear c17
            try clear c18
            try clear c19
            try clear c20
            try clear c20b0
            try clear c20b1
            try clear c23
            try clear c24
            try clear c25
            try clear c27
            try clear c30
            try clear c32
            try clear c33
            try clear c37
            try clear c37b0
            try clear c39
            try clear c40
            try clear c40b0
            try clear c40b1
            try clear c47
            try clear c50
            try clear c50b0
            try clear c53
            try clear c53b0
            try clear c53b1
            try clear c63
            try clear c64
            try clear c64b0
            try clear c64b1
            try clear p2
            obtain ⟨kq, x123_55, rfl, HA, HJ55, HO_14, HB⟩ := hcut
            have hl14_55 := (Kd.R_reads' HO_14.out).1
            rw [hl14_55] at HO_14
            (try simp only [hl14_55])
            cases kq with
            | zero => exact absurd HA.out (by simp [laws_FnExactWayTo.j2])
            | succ kj55 =>
             have H := HA.out
             clear HA
             simp only [laws_FnExactWayTo.j2] at H
             by_cases c71 : x123_55 = true
             ·subst c71
              have H1 : (some false) = some r := by rw [if_pos rfl] at H; exact H
              clear H
              have H := H1
              clear H1
              obtain rfl := Option.some.inj H
              go_wp2
              go_ret
              exact ⟨by first | rfl | (simp [errW_none, errW_some] <;> rfl) | (simp [*, errW_none, errW_some] <;> rfl), by repeat (first | (with_reducible first | exact HB.out | apply below_alloc | apply pw_below_drewN | apply below_drew1) | exact HB.out)⟩
             ·replace c71 := Bool.eq_false_iff.mpr c71
              subst c71
              have H1 : ((laws_heldIntS.f kj55 t600 1).bind fun t611 => (if t611 < 0 then (some false) else (if t611 = t599 then (some true) else (some false)))) = some r := by rw [if_neg (show ¬ (false = true) by decide)] at H; exact H
              clear H
              have H := H1
              clear H1
              replace H := Option.bind_eq_some_iff.mp H
              obtain ⟨t611, A720, H⟩ := H
              replace H : (if t611 < 0 then (some false) else (if t611 = t599 then (some true) else (some false))) = some r := H
              have A72 := Aside0.mk A720
              clear A720
              by_cases c73 : t611 < 0
              ·rw [if_pos c73] at H
               have c73b0 : decide (t611 < 0) = true := decide_eq_true c73
               clear c73
               obtain rfl := Option.some.inj H
               go_wp2_with (first | ((with_reducible refine gate_callee (f := 25) rfl ?_); refine goesL_ (some 126) rfl rfl Try.func25 (by kernel_rfl) rfl #[.slice Ao57 t600.length co57, .int .i64 1] rfl (by (try simp only [List.map_toArray, List.map_cons, List.map_nil]); first | done | rfl | (simp only [List.length_drop, List.length_take]; rfl)) ?_; (with_reducible refine (laws_heldIntS.calls kj55 _ _ t600 1 t611 _ ?side1 ?side2 A72.out).mono ?_); (case side1 => repeat (first | exact (Kd.R_reads' HO_14.out).2.2 | (with_reducible refine Kd.C_alloc ?_ _) | (with_reducible refine Kd.C_drewN ?_ _) | (with_reducible refine Kd.C_drew ?_))); (case side2 => exact (Kd.R_reads' HO_14.out).2.1); rintro e w' ⟨rfl, ⟨nd, rfl⟩⟩; refine ⟨_, rfl, ?_⟩))
               go_ret
               exact ⟨by first | rfl | (simp [errW_none, errW_some] <;> rfl) | (simp [*, errW_none, errW_some] <;> rfl), by repeat (first | (with_reducible first | exact HB.out | apply below_alloc | apply pw_below_drewN | apply below_drew1) | exact HB.out)⟩
              ·rw [if_neg c73] at H
               have c73b0 : decide (t611 < 0) = false := decide_eq_false c73
               clear c73
               by_cases c74 : t611 = t599
               ·rw [if_pos c74] at H
                have c74b0 : (t611 == t599) = true := beq_iff_eq.mpr c74
                have c74b1 : (t611 != t599) = false := bne_eq_false_iff_eq.mpr c74
                clear c74
                obtain rfl := Option.some.inj H
                go_wp2_with (first | ((with_reducible refine gate_callee (f := 25) rfl ?_); refine goesL_ (some 126) rfl rfl Try.func25 (by kernel_rfl) rfl #[.slice Ao57 t600.length co57, .int .i64 1] rfl (by (try simp only [List.map_toArray, List.map_cons, List.map_nil]); first | done | rfl | (simp only [List.length_drop, List.length_take]; rfl)) ?_; (with_reducible refine (laws_heldIntS.calls kj55 _ _ t600 1 t611 _ ?side1 ?side2 A72.out).mono ?_); (case side1 => repeat (first | exact (Kd.R_reads' HO_14.out).2.2 | (with_reducible refine Kd.C_alloc ?_ _) | (with_reducible refine Kd.C_drewN ?_ _) | (with_reducible refine Kd.C_drew ?_))); (case side2 => exact (Kd.R_reads' HO_14.out).2.1); rintro e w' ⟨rfl, ⟨nd, rfl⟩⟩; refine ⟨_, rfl, ?_⟩))
                go_ret
                exact ⟨by first | rfl | (simp [errW_none, errW_some] <;> rfl) | (simp [*, errW_none, errW_some] <;> rfl), by repeat (first | (with_reducible first | exact HB.out | apply below_alloc | apply pw_below_drewN | apply below_drew1) | exact HB.out)⟩
               ·rw [if_neg c74] at H
                have c74b0 : (t611 == t599) = false := beq_eq_false_iff_ne.mpr c74
                have c74b1 : (t611 != t599) = true := bne_iff_ne.mpr c74
                obtain rfl := Option.some.inj H
                go_wp2_with (first | ((with_reducible refine gate_callee (f := 25) rfl ?_); refine goesL_ (some 126) rfl rfl Try.func25 (by kernel_rfl) rfl #[.slice Ao57 t600.length co57, .int .i64 1] rfl (by (try simp only [List.map_toArray, List.map_cons, List.map_nil]); first | done | rfl | (simp only [List.length_drop, List.length_take]; rfl)) ?_; (with_reducible refine (laws_heldIntS.calls kj55 _ _ t600 1 t611 _ ?side1 ?side2 A72.out).mono ?_); (case side1 => repeat (first | exact (Kd.R_reads' HO_14.out).2.2 | (with_reducible refine Kd.C_alloc ?_ _) | (with_reducible refine Kd.C_drewN ?_ _) | (with_reducible refine Kd.C_drew ?_))); (case side2 => exact (Kd.R_reads' HO_14.out).2.1); rintro e w' ⟨rfl, ⟨nd, rfl⟩⟩; refine ⟨_, rfl, ?_⟩))
                go_ret
                exact ⟨by first | rfl | (simp [errW_none, errW_some] <;> rfl) | (simp [*, errW_none, errW_some] <;> rfl), by repeat (first | (with_reducible first | exact HB.out | apply below_alloc | apply pw_below_drewN | apply below_drew1) | exact HB.out)⟩
          ·rw [if_neg c53] at H
           have c53b0 : (t601 == t599) = false := beq_eq_false_iff_ne.mpr c53
           have c53b1 : (t601 != t599) = true := bne_iff_ne.mpr c53
           obtain rfl := Option.some.inj H
           obtain ⟨Ao75, co75, eo75⟩ := Kd.R_slice HO_14.out
           subst eo75
           go_wp2_with (first | ((with_reducible refine gate_callee (f := 24) rfl ?_); refine goesL_ (some 91) rfl rfl Try.func24 (by kernel_rfl) rfl #[.slice Ao75 t586.length co75, .int .i64 1] rfl (by (try simp only [List.map_toArray, List.map_cons, List.map_nil]); first | done | rfl | (simp only [List.length_drop, List.length_take]; rfl)) ?_; (with_reducible refine (laws_markIntS.calls kj31 (fun k_ => some k_ = (.slice Ao75 t586.length co75 : Value).ownBlock) (.slice Ao75 t586.length co75) t586 1 t599 t600 w _ ?side1 ?side2 A48.out).mono ?_); (case side1 => repeat (first | (with_reducible first | exact HB.out | apply below_alloc | apply pw_below_drewN | apply below_drew1) | exact HB.out)); (case side2 => exact Kd.R_tight rfl HO_14.out); rintro e w76 ⟨rfl, hy0, hb, hkp⟩; refine ⟨_, rfl, ?_⟩; have n0_ := Aside0.mk (Kd.R_mono (ok' := fun k_ => some k_ ≠ (.slice Ao75 t586.length co75 : Value).ownBlock) (Kd.R_keptB (HO_10.out) hkp (fun k_ hk_ hs_ => (hk_) hs_)) (fun k_ hk_ => hk_.1)); have n1_ := Aside0.mk (Kd.R_reok rfl hy0 (fun k_ e_ => HO_14.out.1 k_ e_)); have n2_ := Aside0.mk (hb); clear HO_10; clear HO_14; clear HB; have HO_10 := n0_; have HO_14 := n1_; have HB := n2_; clear n0_ n1_ n2_; (try clear hb); (try clear hkp); (try clear hy0)) | ((with_reducible refine gate_callee (f := 25) rfl ?_); refine goesL_ (some 94) rfl rfl Try.func25 (by kernel_rfl) rfl #[.slice Ao75 t600.length co75, .int .i64 1] rfl (by (try simp only [List.map_toArray, List.map_cons, List.map_nil]); first | done | (rw [show t600.length = t586.length from (Kd.R_reads' HO_14.out).1.symm] <;> rfl) | rfl | (simp only [List.length_drop, List.length_take]; rfl)) ?_; (with_reducible refine (laws_heldIntS.calls kj31 _ _ t600 1 t601 _ ?side1 ?side2 A49.out).mono ?_); (case side1 => repeat (first | exact (Kd.R_reads' HO_14.out).2.2 | (with_reducible refine Kd.C_alloc ?_ _) | (with_reducible refine Kd.C_drewN ?_ _) | (with_reducible refine Kd.C_drew ?_))); (case side2 => rw [show t600.length = t586.length from (Kd.R_reads' HO_14.out).1.symm]; exact (Kd.R_reads' HO_14.out).2.1); rintro e w' ⟨rfl, ⟨nd, rfl⟩⟩; refine ⟨_, rfl, ?_⟩))
           go_ret
           exact ⟨by first | rfl | (simp [errW_none, errW_some] <;> rfl) | (simp [*, errW_none, errW_some] <;> rfl), by repeat (first | (with_reducible first | exact HB.out | apply below_alloc | apply pw_below_drewN | apply below_drew1) | exact HB.out)⟩
     ·replace c30 := Bool.eq_false_iff.mpr c30
      subst c30
      have H1 : (some false) = some r := by rw [if_neg (show ¬ (false = true) by decide)] at H; exact H
      clear H
      have H := H1
      clear H1
      obtain rfl := Option.some.inj H
      go_wp2_with (first | ((with_reducible refine gate_callee (f := 14) rfl ?_); refine goesL_ (some 65) rfl rfl Try.func14 (by kernel_rfl) rfl #[.slice A1 l1.length c1] rfl (by (try simp only [List.map_toArray, List.map_cons, List.map_nil]); first | done | rfl | (simp only [List.length_drop, List.length_take]; rfl)) ?_; (with_reducible refine (laws_toEdgeS.calls kj10 _ _ l1 t592 _ ?side1 ?side2 A28.out).mono ?_); (case side1 => repeat (first | exact (Kd.C_below HR1.out HB.out) | (with_reducible refine Kd.C_alloc ?_ _) | (with_reducible refine Kd.C_drewN ?_ _) | (with_reducible refine Kd.C_drew ?_))); (case side2 => exact HC1.out); rintro e w77 ⟨v593, rfl, ho0, hb⟩; refine ⟨_, rfl, ?_⟩; have n0_ := Aside0.mk (Kd.R_below (by (with_reducible repeat (first | apply Kd.R_alloc | apply Kd.R_drewN | apply Kd.R_drew)); exact HO_10.out) hb); have n1_ := Aside0.mk (Kd.R_elder' (by (with_reducible repeat (first | apply Kd.R_alloc | apply Kd.R_drewN | apply Kd.R_drew)); exact HO_13.out) (Kd.R_base ho0) hb); have n2_ := Aside0.mk (Kd.R_below (by (with_reducible repeat (first | apply Kd.R_alloc | apply Kd.R_drewN | apply Kd.R_drew)); exact HO_14.out) hb); have n3_ := Aside0.mk (Kd.R_lower (Kd.R_new' ho0 (Kd.R_lt (by (with_reducible repeat (first | apply Kd.R_alloc | apply Kd.R_drewN | apply Kd.R_drew)); exact HO_13.out))) (below_size (by repeat (first | (with_reducible first | exact HB.out | apply below_alloc | apply pw_below_drewN | apply below_drew1) | exact HB.out)))); have n4_ := Aside0.mk (below_step (by repeat (first | (with_reducible first | exact HB.out | apply below_alloc | apply pw_below_drewN | apply below_drew1) | exact HB.out)) hb); clear HO_10; clear HO_13; clear HO_14; clear HB; have HO_10 := n0_; have HO_13 := n1_; have HO_14 := n2_; have HO594 := n3_; have HB := n4_; clear n0_ n1_ n2_ n3_ n4_; (try clear hb); (try clear hb2); (try clear hk); (try clear hi); (try clear ho0); obtain ⟨Ao78, co78, eo78⟩ := Kd.R_slice HO594.out; subst eo78) | ((with_reducible refine gate_callee (f := 17) rfl ?_); refine goesL_ (some 66) rfl rfl Try.func17 (by kernel_rfl) rfl #[.slice Ao16 t583.length co16, .slice Ao78 t592.length co78] rfl (by (try simp only [List.map_toArray, List.map_cons, List.map_nil]); first | done | rfl | (simp only [List.length_drop, List.length_take]; rfl)) ?_; (with_reducible refine (laws_eqEdgeS.calls kj10 _ _ t583 _ _ t592 false _ ?side1 ?side2 ?side3 ?side4 A29.out).mono ?_); (case side1 => repeat (first | exact (Kd.R_reads' HO_13.out).2.2 | (with_reducible refine Kd.C_alloc ?_ _) | (with_reducible refine Kd.C_drewN ?_ _) | (with_reducible refine Kd.C_drew ?_))); (case side2 => exact (Kd.R_reads' HO_13.out).2.1); (case side3 => repeat (first | exact (Kd.R_reads' HO594.out).2.2 | (with_reducible refine Kd.C_alloc ?_ _) | (with_reducible refine Kd.C_drewN ?_ _) | (with_reducible refine Kd.C_drew ?_))); (case side4 => exact (Kd.R_reads' HO594.out).2.1); rintro e w79 ⟨rfl, hb⟩; refine ⟨_, rfl, ?_⟩; have n0_ := Aside0.mk (Kd.R_below (by (with_reducible repeat (first | apply Kd.R_alloc | apply Kd.R_drewN | apply Kd.R_drew)); exact HO_10.out) hb); have n1_ := Aside0.mk (Kd.R_below (by (with_reducible repeat (first | apply Kd.R_alloc | apply Kd.R_drewN | apply Kd.R_drew)); exact HO_13.out) hb); have n2_ := Aside0.mk (Kd.R_below (by (with_reducible repeat (first | apply Kd.R_alloc | apply Kd.R_drewN | apply Kd.R_drew)); exact HO_14.out) hb); have n3_ := Aside0.mk (Kd.R_below (by (with_reducible repeat (first | apply Kd.R_alloc | apply Kd.R_drewN | apply Kd.R_drew)); exact HO594.out) hb); have n4_ := Aside0.mk (below_step (by repeat (first | (with_reducible first | exact HB.out | apply below_alloc | apply pw_below_drewN | apply below_drew1) | exact HB.out)) hb); clear HO_10; clear HO_13; clear HO_14; clear HO594; clear HB; have HO_10 := n0_; have HO_13 := n1_; have HO_14 := n2_; have HO594 := n3_; have HB := n4_; clear n0_ n1_ n2_ n3_ n4_; (try clear hb); (try clear hb2); (try clear hk); (try clear hi)))
      go_ret
      exact ⟨by first | rfl | (simp [errW_none, errW_some] <;> rfl) | (simp [*, errW_none, errW_some] <;> rfl), by repeat (first | (with_reducible first | exact HB.out | apply below_alloc | apply pw_below_drewN | apply below_drew1) | exact HB.out)⟩
end Go.Proofs.Ytklecgkjoofipaa.P

namespace Go.Proofs.Ytklecgkjoofipaa.P
open Go.RowKit Go.Proofs.YtklecgkjoofipaaW.PrintWords Go.Proofs.YtklecgkjoofipaaW.PrintLast
def wfS69 (s : S69) : Prop := (fun n : Int => (Lit.int .i64 n).wf = true) s.f0 ∧ (fun n : Int => (Lit.int .i64 n).wf = true) s.f1 ∧ (fun n : Int => (Lit.int .i64 n).wf = true) s.f2
/-- The one pure statement of laws_FnExactWayTo. -/
def laws_FnExactWayTo.Pure : Prop := ∀ (a0 : Int) (l1 : List (S69)) (a2 : Int) (a3 : Int), (fun n : Int => (Lit.int .i64 n).wf = true) a0 → (fun l : List (S69) => l.length ≤ maxLen ∧ ∀ x ∈ l, wfS69 x) l1 → (fun n : Int => (Lit.int .i64 n).wf = true) a2 → (fun n : Int => (Lit.int .i64 n).wf = true) a3 → ∃ k, laws_FnExactWayTo.f k a0 l1 a2 a3 = some true
end Go.Proofs.Ytklecgkjoofipaa.P

namespace Go.Proofs.Ytklecgkjoofipaa.P
open Go.RowKit Go.Proofs.YtklecgkjoofipaaW.PrintWords
set_option linter.unusedVariables false
set_option linter.unusedSimpArgs false
theorem wrap_id {x : Int} (h0 : -9223372036854775808 ≤ x) (h1 : x ≤ 9223372036854775807) : wrap64 x = x := by unfold wrap64; omega
theorem Ev.succ {α : Type} {g : Nat → Option α} {r : α} (h : Ev (fun k => g (k + 1)) r) : Ev g r := Ev.step (fun _ => rfl) h
theorem Ev.some_ {α : Type} {r s : α} (h : r = s) : Ev (fun _ => some r) s := h ▸ Ev.now r
theorem getD_mid {α : Type} (d : α) (pre : List α) (x : α) (suf : List α) : (pre ++ x :: suf).getD ((pre.length : Int)).toNat d = x := by simp
theorem set_mid {α : Type} (pre : List α) (x y : α) (suf : List α) : (pre ++ x :: suf).set ((pre.length : Int)).toNat y = pre ++ y :: suf := by simp
theorem app_one {α : Type} (pre : List α) (x : α) (suf : List α) : pre ++ x :: suf = (pre ++ [x]) ++ suf := by simp
theorem len_mid {α : Type} (pre : List α) (x : α) (suf : List α) : ((pre ++ x :: suf).length : Int) = pre.length + suf.length + 1 := by simp; omega
theorem len_one {α : Type} (pre : List α) (x : α) : ((pre ++ [x]).length : Int) = pre.length + 1 := by simp
theorem nil_or_snoc {α : Type} (l : List α) : l = [] ∨ ∃ p y, l = p ++ [y] := by
 rcases List.eq_nil_or_concat l with rfl | ⟨p, y, rfl⟩
 ·exact .inl rfl
 ·exact .inr ⟨p, y, by simp⟩
end Go.Proofs.Ytklecgkjoofipaa.P

namespace Go.Proofs.Ytklecgkjoofipaa.P
open Go.RowKit Go.Proofs.YtklecgkjoofipaaW.PrintWords Go.Proofs.YtklecgkjoofipaaW.PrintLast
set_option linter.unusedVariables false
set_option linter.unusedSimpArgs false
theorem rdEdge_mid (pre : List S67) (x : S67) (suf : List S67) : rd_T67 (pre ++ x :: suf) (pre.length : Int) = x := getD_mid _ pre x suf
theorem rdLEdge_mid (pre : List S69) (x : S69) (suf : List S69) : rd_T69 (pre ++ x :: suf) (pre.length : Int) = x := getD_mid _ pre x suf
instance decEdge : DecidableEq S67 := fun a b => decidable_of_iff (a.f0 = b.f0 ∧ a.f1 = b.f1 ∧ a.f2 = b.f2) (by cases a; cases b; simp)
def cvEdge (x : S69) : S67 := ⟨x.f0, x.f1, x.f2⟩
theorem toEdgeS_l (suf : List S69) : ∀ (pre : List S69) (k : Nat), suf.length < k → (pre.length : Int) + suf.length ≤ 1099511627776 →
  laws_toEdgeS.l0 k (pre ++ suf) (pre.map cvEdge ++ List.replicate suf.length z67) (pre.length : Int) = some ((pre ++ suf).map cvEdge) := by
 induction suf with
 | nil =>
  intro pre k hk hb
  obtain ⟨k, rfl⟩ : ∃ m, k = m + 1 := ⟨k - 1, by omega⟩
  simp only [laws_toEdgeS.l0]
  rw [if_neg (by simp)]
  simp
 | cons x suf ih =>
  intro pre k hk hb
  simp only [List.length_cons] at hk hb
  obtain ⟨k, rfl⟩ : ∃ m, k = m + 1 := ⟨k - 1, by omega⟩
  have h := ih (pre ++ [x]) k (by omega) (by simp; omega)
  simp only [laws_toEdgeS.l0]
  rw [if_pos (by simp; omega), if_pos (by omega), rdLEdge_mid]
  simp only [laws_toEdge.f, Option.bind_some]
  rw [if_pos (by simp; omega), wrap_id (by omega) (by omega)]
  have e : (pre.map cvEdge ++ List.replicate (x :: suf).length z67).set ((pre.length : Int)).toNat (⟨x.f0, x.f1, x.f2⟩ : S67) = (pre ++ [x]).map cvEdge ++ List.replicate suf.length z67 := by
   simp [List.replicate_succ, cvEdge]
  rw [e]
  simpa using h
theorem toEdgeS_ev (l : List S69) (hl : l.length ≤ 1048576) : Ev (fun k => laws_toEdgeS.f k l) (l.map cvEdge) := by
 refine ⟨l.length + 1, fun k hk => ?_⟩
 have h := toEdgeS_l l [] k (by omega) (by simp; omega)
 show laws_toEdgeS.f k l = _
 unfold laws_toEdgeS.f
 rw [if_pos (by omega), if_pos (by simp; omega)]
 simpa using h
theorem eqEdge_is (a b : S67) : laws_eqEdge.f a.f0 a.f1 a.f2 b.f0 b.f1 b.f2 = some (decide (a = b)) := by
 cases a; cases b
 unfold laws_eqEdge.f
 simp only [S67.mk.injEq]
 split
 ·split
  ·split
   ·rename_i h1 h2 h3; simp [h1, h2, h3]
   ·rename_i h1 h2 h3; simp [h3]
  ·rename_i h1 h2; simp [h2]
 ·rename_i h1; simp [h1]
theorem eqEdgeS_l (s : List S67) : ∀ (t pre qre : List S67) (k : Nat), s.length < k → pre.length = qre.length → s.length = t.length → (pre.length : Int) + s.length ≤ 1099511627776 →
  laws_eqEdgeS.l0 k (pre ++ s) (qre ++ t) (pre.length : Int) = some (decide (s = t)) := by
 induction s with
 | nil =>
  intro t pre qre k hk hq hl hb
  obtain ⟨k, rfl⟩ : ∃ m, k = m + 1 := ⟨k - 1, by omega⟩
  obtain rfl : t = [] := List.eq_nil_of_length_eq_zero (by simpa using hl.symm)
  simp only [laws_eqEdgeS.l0]
  rw [if_neg (by simp)]
  simp
 | cons x s ih =>
  intro t pre qre k hk hq hl hb
  cases t with
  | nil => simp at hl
  | cons y t =>
   simp only [List.length_cons] at hk hl hb
   obtain ⟨k, rfl⟩ : ∃ m, k = m + 1 := ⟨k - 1, by omega⟩
   have h := ih t (pre ++ [x]) (qre ++ [y]) k (by omega) (by simp; omega) (by omega) (by simp; omega)
   have hy : rd_T67 (qre ++ y :: t) (pre.length : Int) = y := by rw [hq]; exact rdEdge_mid qre y t
   simp only [laws_eqEdgeS.l0]
   rw [if_pos (by simp; omega), if_pos (by omega), if_pos (by simp; omega), rdEdge_mid, hy, eqEdge_is, wrap_id (by omega) (by omega)]
   simp only [Option.bind_some]
   by_cases e : x = y
   ·subst e
    rw [if_pos (by simp)]
    simpa using h
   ·rw [if_neg (by simpa using e)]
    simp [e]
theorem eqEdgeS_ev (s t : List S67) (hs : s.length ≤ 1099511627776) : Ev (fun k => laws_eqEdgeS.f k s t) (decide (s = t)) := by
 refine ⟨s.length + 1, fun k hk => ?_⟩
 show laws_eqEdgeS.f k s t = _
 unfold laws_eqEdgeS.f
 by_cases hl : s.length = t.length
 ·rw [if_pos (by omega)]
  exact eqEdgeS_l s t [] [] k (by omega) rfl hl (by simp; omega)
 ·rw [if_neg (by omega)]
  have : s ≠ t := fun e => hl (by rw [e])
  simp [this]
theorem szEdgeS_is (l : List S69) (hl : l.length ≤ maxLen) (a : Int) (h0 : 0 ≤ a) (h1 : a ≤ 1048576) : laws_szEdgeS.f l a = some (if a - l.length < 0 then -1 else a - l.length) := by
 have hm : l.length ≤ 9223372036854775807 := by unfold maxLen at hl; exact hl
 unfold laws_szEdgeS.f
 rw [wrap_id (by omega) (by omega)]
 split <;> rfl
end Go.Proofs.Ytklecgkjoofipaa.P

namespace Go.Proofs.Ytklecgkjoofipaa.P
open Go.RowKit Go.Proofs.YtklecgkjoofipaaW.PrintWords Go.Proofs.YtklecgkjoofipaaW.PrintLast
set_option linter.unusedVariables false
set_option linter.unusedSimpArgs false
theorem rd_mid (pre : List Int) (x : Int) (suf : List Int) : rd (pre ++ x :: suf) (pre.length : Int) = x := getD_mid _ pre x suf
theorem eqIntS_l (s : List Int) : ∀ (t pre qre : List Int) (k : Nat), s.length < k → pre.length = qre.length → s.length = t.length → (pre.length : Int) + s.length ≤ 1099511627776 →
  laws_eqIntS.l0 k (pre ++ s) (qre ++ t) (pre.length : Int) = some (decide (s = t)) := by
 induction s with
 | nil =>
  intro t pre qre k hk hq hl hb
  obtain ⟨k, rfl⟩ : ∃ m, k = m + 1 := ⟨k - 1, by omega⟩
  obtain rfl : t = [] := List.eq_nil_of_length_eq_zero (by simpa using hl.symm)
  simp only [laws_eqIntS.l0]
  rw [if_neg (by simp)]
  simp
 | cons x s ih =>
  intro t pre qre k hk hq hl hb
  cases t with
  | nil => simp at hl
  | cons y t =>
   simp only [List.length_cons] at hk hl hb
   obtain ⟨k, rfl⟩ : ∃ m, k = m + 1 := ⟨k - 1, by omega⟩
   have h := ih t (pre ++ [x]) (qre ++ [y]) k (by omega) (by simp; omega) (by omega) (by simp; omega)
   have hy : rd (qre ++ y :: t) (pre.length : Int) = y := by rw [hq]; exact rd_mid qre y t
   simp only [laws_eqIntS.l0]
   rw [if_pos (by simp <;> omega), if_pos (by omega), if_pos (by simp <;> omega), rd_mid, hy, wrap_id (by omega) (by omega)]
   by_cases e : x = y
   ·subst e
    rw [if_pos rfl]
    simpa using h
   ·rw [if_neg e]
    simp [e]
theorem eqIntS_ev (s t : List Int) (hs : s.length ≤ 1099511627776) : Ev (fun k => laws_eqIntS.f k s t) (decide (s = t)) := by
 refine ⟨s.length + 1, fun k hk => ?_⟩
 show laws_eqIntS.f k s t = _
 unfold laws_eqIntS.f
 by_cases hl : s.length = t.length
 ·rw [if_pos (by omega)]
  exact eqIntS_l s t [] [] k (by omega) rfl hl (by simp; omega)
 ·rw [if_neg (by omega)]
  have : s ≠ t := fun e => hl (by rw [e])
  simp [this]
end Go.Proofs.Ytklecgkjoofipaa.P

namespace Go.Proofs.Ytklecgkjoofipaa.P
open Go.RowKit Go.Proofs.YtklecgkjoofipaaW.PrintWords Go.Proofs.YtklecgkjoofipaaW.PrintLast
set_option linter.unusedVariables false
set_option linter.unusedSimpArgs false
-- sweeps over a list of numbers, and a list taken over, both sides
theorem specIn (a b c : Int) : spec_l1In.f a b c = some (decide (b ≤ a ∧ a ≤ c)) := by
 unfold spec_l1In.f
 by_cases h : a ≥ b
 ·rw [if_pos h]
  congr 1
  by_cases h2 : a ≤ c
  ·rw [decide_eq_true h2, decide_eq_true ⟨h, h2⟩]
  ·rw [decide_eq_false h2, decide_eq_false (fun hc => h2 hc.2)]
 ·rw [if_neg h, decide_eq_false (fun hc => h hc.1)]
theorem implIn (a b c : Int) : impl_in.f a b c = some (decide (b ≤ a ∧ a ≤ c)) := specIn a b c
def allIn (a b : Int) (l : List Int) : Bool := l.all fun x => decide (a ≤ x ∧ x ≤ b)
theorem implAll_l (a b : Int) (suf : List Int) : ∀ (pre : List Int), ((pre ++ suf).length : Int) ≤ 1099511627776 → Ev (fun k => impl_allIn.l0 k a b (pre ++ suf) ((pre ++ suf).length : Int) pre.length) (allIn a b suf) := by
 induction suf with
 | nil =>
  intro pre h
  refine Ev.succ ?_
  simp only [impl_allIn.l0, List.append_nil, Int.lt_irrefl, if_false]
  exact Ev.now _
 | cons x suf ih =>
  intro pre h
  refine Ev.succ ?_
  rw [len_mid] at h ⊢
  simp only [impl_allIn.l0]
  simp only [if_pos (show ((pre.length : Int) < pre.length + suf.length + 1) by omega), if_pos (show (0 : Int) ≤ pre.length by omega), len_mid, rd_mid, implIn, Option.bind_some, wrap_id (show (-9223372036854775808 : Int) ≤ pre.length + 1 by omega) (show ((pre.length : Int) + 1 ≤ 9223372036854775807) by omega)]
  by_cases hx : a ≤ x ∧ x ≤ b
  ·have := ih (pre ++ [x]) (by rw [← app_one, len_mid]; exact h)
   rw [← app_one, len_mid, len_one] at this
   simp only [hx, and_self, decide_true, if_true]
   rw [show allIn a b (x :: suf) = allIn a b suf by simp [allIn, hx]]
   exact this
  ·simp only [decide_eq_true_eq, if_neg hx]
   rw [show allIn a b (x :: suf) = false by simp [allIn]; intro h1 h2; exact absurd ⟨h1, h2⟩ hx]
   exact Ev.now _
theorem implAll_ev (a b : Int) (l : List Int) (h : (l.length : Int) ≤ 1099511627776) : Ev (fun k => impl_allIn.f k l a b) (allIn a b l) := by
 have := implAll_l a b l [] h
 exact this
end Go.Proofs.Ytklecgkjoofipaa.P

namespace Go.Proofs.Ytklecgkjoofipaa.P
open Go.RowKit Go.Proofs.YtklecgkjoofipaaW.PrintWords Go.Proofs.YtklecgkjoofipaaW.PrintLast
set_option linter.unusedVariables false
set_option linter.unusedSimpArgs false
def isEdge (m : Int) (x : S67) : Bool := decide (0 ≤ x.f0 ∧ x.f0 ≤ m ∧ 0 ≤ x.f1 ∧ x.f1 ≤ m ∧ x.f0 < x.f1 ∧ 1 ≤ x.f2 ∧ x.f2 ≤ 100)
def edgeLt (y x : S67) : Bool := decide (y.f0 < x.f0 ∨ y.f0 = x.f0 ∧ y.f1 < x.f1)
def goodEF (m : Int) : Option S67 → List S67 → Bool
 | _, [] => true
 | none, x :: r => isEdge m x && goodEF m (some x) r
 | some y, x :: r => isEdge m x && (edgeLt y x && goodEF m (some x) r)
def goodE (n : Int) (l : List S67) : Bool := goodEF (wrap64 (n - 1)) none l && (decide (1 ≤ n ∧ n ≤ 12) && decide (l.length ≤ 40))
theorem isEdge_iff (m : Int) (x : S67) : isEdge m x = true ↔ (0 ≤ x.f0 ∧ x.f0 ≤ m ∧ 0 ≤ x.f1 ∧ x.f1 ≤ m ∧ x.f0 < x.f1 ∧ 1 ≤ x.f2 ∧ x.f2 ≤ 100) := by unfold isEdge; simp only [decide_eq_true_eq]
theorem specGoodE_l (n : Int) (suf : List S67) : ∀ (pre : List S67), (pre.length : Int) + suf.length ≤ 1099511627776 →
  Ev (fun k => spec_GoodEdges.l0 k n (pre ++ suf) (pre ++ suf) ((pre ++ suf).length : Int) (pre.length : Int)) (goodEF (wrap64 (n - 1)) pre.getLast? suf && (decide (1 ≤ n ∧ n ≤ 12) && decide ((pre ++ suf).length ≤ 40))) := by
 induction suf with
 | nil =>
  intro pre hb
  refine Ev.succ ?_
  simp only [spec_GoodEdges.l0]
  simp only [if_neg (show ¬ (pre.length : Int) < ((pre ++ ([] : List S67)).length : Int) by simp), specIn, Option.bind_some]
  have : goodEF (wrap64 (n - 1)) pre.getLast? [] = true := by cases pre.getLast? <;> rfl
  rw [this, Bool.true_and]
  by_cases h : 1 ≤ n ∧ n ≤ 12
  ·simp only [h, and_self, decide_true, if_true, Bool.true_and]
   refine Ev.some_ ?_
   congr 1
   simp only [eq_iff_iff]
   omega
  ·simp only [h, decide_false, Bool.false_eq_true, if_false, Bool.false_and]
   exact Ev.now _
 | cons x suf ih =>
  intro pre hb
  simp only [List.length_cons] at hb
  have c1 : (pre.length : Int) < ((pre ++ x :: suf).length : Int) := by simp <;> omega
  have c0 : (0 : Int) ≤ (pre.length : Int) := by omega
  have h := ih (pre ++ [x]) (by simp <;> omega)
  rw [← app_one, len_one, List.getLast?_concat] at h
  refine Ev.succ ?_
  simp only [spec_GoodEdges.l0]
  simp only [if_pos c1, if_pos c0, rdEdge_mid, specIn, Option.bind_some]
  generalize wrap64 (n - 1) = m at h ⊢
  generalize hfin : (decide (1 ≤ n ∧ n ≤ 12) && decide ((pre ++ x :: suf).length ≤ 40)) = fin at h ⊢
  have bad : ∀ (b : Bool), isEdge m x = false → b = true → Ev (fun k => spec_GoodEdges.j1 k n (pre ++ x :: suf) (pre.length : Int) (pre ++ x :: suf) ((pre ++ x :: suf).length : Int) (pre.length : Int) b x.f0 x.f1 x.f2) (goodEF m pre.getLast? (x :: suf) && fin) := by
   intro b he hb
   refine Ev.succ ?_
   simp only [spec_GoodEdges.j1, hb, if_true]
   refine Ev.some_ ?_
   cases pre.getLast? <;> simp [goodEF, he]
  by_cases h1 : 0 ≤ x.f0 ∧ x.f0 ≤ m
  ·simp only [h1, and_self, decide_true, if_true]
   by_cases h2 : 0 ≤ x.f1 ∧ x.f1 ≤ m
   ·simp only [h2, and_self, decide_true, if_true]
    by_cases h3 : x.f0 ≥ x.f1
    ·simp only [if_pos h3]
     refine bad true ?_ rfl
     unfold isEdge; simp only [decide_eq_false_iff_not]; omega
    ·simp only [if_neg h3]
     by_cases h4 : 1 ≤ x.f2 ∧ x.f2 ≤ 100
     ·have he : isEdge m x = true := by rw [isEdge_iff]; omega
      simp only [h4, and_self, decide_true, Bool.not_true]
      refine Ev.succ ?_
      simp only [spec_GoodEdges.j1, Bool.false_eq_true, if_false]
      rw [wrap_id (x := (pre.length : Int) + 1) (by omega) (by omega)]
      rcases nil_or_snoc pre with rfl | ⟨pre', y, rfl⟩
      ·simp only [if_neg (show ¬ (([] : List S67).length : Int) > 0 by simp)]
       have e : goodEF m ([] : List S67).getLast? (x :: suf) = goodEF m (some x) suf := by simp [goodEF, he]
       rw [e]
       exact h
      ·have hy : rd_T67 ((pre' ++ [y]) ++ x :: suf) (((pre' ++ [y]).length : Int) - 1) = y := by
        rw [show ((pre' ++ [y]) ++ x :: suf) = pre' ++ y :: (x :: suf) by simp, show (((pre' ++ [y]).length : Int) - 1) = (pre'.length : Int) by simp]
        exact rdEdge_mid _ _ _
       have q0 : (((pre' ++ [y]).length : Int)) > 0 := by simp <;> omega
       rw [wrap_id (x := ((pre' ++ [y]).length : Int) - 1) (by omega) (by omega)]
       simp only [if_pos q0, if_pos (show 0 ≤ ((pre' ++ [y]).length : Int) - 1 by omega), if_pos (show ((pre' ++ [y]).length : Int) - 1 < (((pre' ++ [y]) ++ x :: suf).length : Int) by omega), hy]
       have e : goodEF m (pre' ++ [y]).getLast? (x :: suf) = (edgeLt y x && goodEF m (some x) suf) := by simp [goodEF, he]
       rw [e]
       by_cases g1 : y.f0 > x.f0
       ·simp only [if_pos g1]
        refine Ev.some_ ?_
        have : edgeLt y x = false := by unfold edgeLt; simp only [decide_eq_false_iff_not]; omega
        rw [this]; rfl
       ·simp only [if_neg g1]
        by_cases g2 : y.f0 = x.f0
        ·simp only [if_pos g2]
         by_cases g3 : y.f1 ≥ x.f1
         ·simp only [if_pos g3]
          refine Ev.some_ ?_
          have : edgeLt y x = false := by unfold edgeLt; simp only [decide_eq_false_iff_not]; omega
          rw [this]; rfl
         ·simp only [if_neg g3]
          have : edgeLt y x = true := by unfold edgeLt; simp only [decide_eq_true_eq]; omega
          rw [this, Bool.true_and]
          exact h
        ·simp only [if_neg g2]
         have : edgeLt y x = true := by unfold edgeLt; simp only [decide_eq_true_eq]; omega
         rw [this, Bool.true_and]
         exact h
     ·simp only [h4, decide_false, Bool.not_false]
      refine bad true ?_ rfl
      unfold isEdge; simp only [decide_eq_false_iff_not]; omega
   ·simp only [h2, decide_false, Bool.false_eq_true, if_false]
    refine bad true ?_ rfl
    unfold isEdge; simp only [decide_eq_false_iff_not]; omega
  ·simp only [h1, decide_false, Bool.false_eq_true, if_false]
   refine bad true ?_ rfl
   unfold isEdge; simp only [decide_eq_false_iff_not]; omega
theorem specGoodE_ev (n : Int) (l : List S67) (hl : l.length ≤ 1048576) : Ev (fun k => spec_GoodEdges.f k n l) (goodE n l) := by
 unfold spec_GoodEdges.f
 exact specGoodE_l n l [] (by simp <;> omega)
theorem implGoodE_l (n : Int) (hm : wrap64 (n - 1) ≤ 9223372036854775807) (suf : List S67) : ∀ (pre : List S67), (pre.length : Int) + suf.length ≤ 1099511627776 → (∀ y, pre.getLast? = some y → isEdge (wrap64 (n - 1)) y = true) →
  Ev (fun k => impl_GoodEdges.l0 k n (pre ++ suf) (pre ++ suf) ((pre ++ suf).length : Int) (pre.length : Int)) (goodEF (wrap64 (n - 1)) pre.getLast? suf && (decide (1 ≤ n ∧ n ≤ 12) && decide ((pre ++ suf).length ≤ 40))) := by
 induction suf with
 | nil =>
  intro pre hb _
  refine Ev.succ ?_
  simp only [impl_GoodEdges.l0]
  simp only [if_neg (show ¬ (pre.length : Int) < ((pre ++ ([] : List S67)).length : Int) by simp), impl_isSpots.f, implIn, Option.bind_some]
  have : goodEF (wrap64 (n - 1)) pre.getLast? [] = true := by cases pre.getLast? <;> rfl
  rw [this, Bool.true_and]
  by_cases h : 1 ≤ n ∧ n ≤ 12
  ·simp only [h, and_self, decide_true, if_true, Bool.true_and]
   refine Ev.some_ ?_
   congr 1
   simp only [eq_iff_iff]
   omega
  ·simp only [h, decide_false, Bool.false_eq_true, if_false, Bool.false_and]
   exact Ev.now _
 | cons x suf ih =>
  intro pre hb hlast
  simp only [List.length_cons] at hb
  have c1 : (pre.length : Int) < ((pre ++ x :: suf).length : Int) := by simp <;> omega
  have c0 : (0 : Int) ≤ (pre.length : Int) := by omega
  have h := ih (pre ++ [x]) (by simp <;> omega)
  rw [← app_one, len_one, List.getLast?_concat] at h
  refine Ev.succ ?_
  simp only [impl_GoodEdges.l0]
  simp only [if_pos c1, if_pos c0, rdEdge_mid, implIn, Option.bind_some]
  generalize wrap64 (n - 1) = m at h hm hlast ⊢
  generalize hfin : (decide (1 ≤ n ∧ n ≤ 12) && decide ((pre ++ x :: suf).length ≤ 40)) = fin at h ⊢
  have bad : isEdge m x = false → Ev (fun k => some false) (goodEF m pre.getLast? (x :: suf) && fin) := by
   intro he
   refine Ev.some_ ?_
   cases pre.getLast? <;> simp [goodEF, he]
  by_cases h1 : 0 ≤ x.f0 ∧ x.f0 ≤ m
  ·simp only [h1, and_self, decide_true, if_true]
   by_cases h2 : 0 ≤ x.f1 ∧ x.f1 ≤ m
   ·simp only [h2, and_self, decide_true, if_true]
    by_cases h3 : x.f0 ≥ x.f1
    ·simp only [if_pos h3]
     refine bad ?_
     unfold isEdge; simp only [decide_eq_false_iff_not]; omega
    ·simp only [if_neg h3]
     by_cases h4 : 1 ≤ x.f2 ∧ x.f2 ≤ 100
     ·have he : isEdge m x = true := by rw [isEdge_iff]; omega
      have h := h (fun y hy => by cases hy; exact he)
      simp only [h4, and_self, decide_true, if_true]
      rw [wrap_id (x := (pre.length : Int) + 1) (by omega) (by omega)]
      rcases nil_or_snoc pre with rfl | ⟨pre', y, rfl⟩
      ·simp only [if_neg (show ¬ (([] : List S67).length : Int) > 0 by simp)]
       have e : goodEF m ([] : List S67).getLast? (x :: suf) = goodEF m (some x) suf := by simp [goodEF, he]
       rw [e]
       exact h
      ·have hy : rd_T67 ((pre' ++ [y]) ++ x :: suf) (((pre' ++ [y]).length : Int) - 1) = y := by
        rw [show ((pre' ++ [y]) ++ x :: suf) = pre' ++ y :: (x :: suf) by simp, show (((pre' ++ [y]).length : Int) - 1) = (pre'.length : Int) by simp]
        exact rdEdge_mid _ _ _
       have hye := (isEdge_iff m y).1 (hlast y (by simp))
       have hxe := (isEdge_iff m x).1 he
       have q0 : (((pre' ++ [y]).length : Int)) > 0 := by simp <;> omega
       rw [wrap_id (x := ((pre' ++ [y]).length : Int) - 1) (by omega) (by omega)]
       simp only [if_pos q0, if_pos (show 0 ≤ ((pre' ++ [y]).length : Int) - 1 by omega), if_pos (show ((pre' ++ [y]).length : Int) - 1 < (((pre' ++ [y]) ++ x :: suf).length : Int) by omega), hy]
       have e : goodEF m (pre' ++ [y]).getLast? (x :: suf) = (edgeLt y x && goodEF m (some x) suf) := by simp [goodEF, he]
       rw [e]
       have eb : impl_byEnds.f y.f0 y.f1 y.f2 x.f0 x.f1 x.f2 = some (if y.f0 = x.f0 then y.f1 - x.f1 else y.f0 - x.f0) := by
        unfold impl_byEnds.f
        split
        ·rw [wrap_id (by omega) (by omega)]
        ·rw [wrap_id (by omega) (by omega)]
       simp only [eb, Option.bind_some]
       by_cases g : edgeLt y x = true
       ·have g' : (y.f0 < x.f0 ∨ y.f0 = x.f0 ∧ y.f1 < x.f1) := by unfold edgeLt at g; simpa only [decide_eq_true_eq] using g
        rw [g, Bool.true_and]
        simp only [if_neg (show ¬ (if y.f0 = x.f0 then y.f1 - x.f1 else y.f0 - x.f0) ≥ 0 by split <;> omega)]
        exact h
       ·have g' : ¬ (y.f0 < x.f0 ∨ y.f0 = x.f0 ∧ y.f1 < x.f1) := by unfold edgeLt at g; simpa only [decide_eq_true_eq] using g
        simp only [if_pos (show (if y.f0 = x.f0 then y.f1 - x.f1 else y.f0 - x.f0) ≥ 0 by split <;> omega)]
        refine Ev.some_ ?_
        rw [Bool.not_eq_true] at g
        rw [g]; rfl
     ·simp only [h4, decide_false, Bool.false_eq_true, if_false]
      refine bad ?_
      unfold isEdge; simp only [decide_eq_false_iff_not]; omega
   ·simp only [h2, decide_false, Bool.false_eq_true, if_false]
    refine bad ?_
    unfold isEdge; simp only [decide_eq_false_iff_not]; omega
  ·simp only [h1, decide_false, Bool.false_eq_true, if_false]
   refine bad ?_
   unfold isEdge; simp only [decide_eq_false_iff_not]; omega
theorem wrap_top (x : Int) : -9223372036854775808 ≤ wrap64 x ∧ wrap64 x ≤ 9223372036854775807 := by unfold wrap64; omega
theorem implGoodE_ev (n : Int) (l : List S67) (hl : l.length ≤ 1048576) : Ev (fun k => impl_GoodEdges.f k n l) (goodE n l) := by
 unfold impl_GoodEdges.f
 exact implGoodE_l n (wrap_top _).2 l [] (by simp <;> omega) (fun y hy => by simp at hy)
/-- What good edges are. -/
theorem goodE_n {n : Int} {l : List S67} (h : goodE n l = true) : 1 ≤ n ∧ n ≤ 12 ∧ l.length ≤ 40 := by
 unfold goodE at h
 simp only [Bool.and_eq_true, decide_eq_true_eq] at h
 exact ⟨h.2.1.1, h.2.1.2, h.2.2⟩
theorem goodEF_all {m : Int} : ∀ (l : List S67) (o : Option S67), goodEF m o l = true → ∀ x ∈ l, isEdge m x = true
 | [], _, _, x, hx => by simp at hx
 | y :: r, o, h, x, hx => by
  have h2 : isEdge m y = true ∧ goodEF m (some y) r = true := by
   cases o with
   | none => simpa [goodEF] using h
   | some z =>
    simp only [goodEF, Bool.and_eq_true] at h
    exact ⟨h.1, h.2.2⟩
  rcases List.mem_cons.1 hx with rfl | hx
  ·exact h2.1
  ·exact goodEF_all r _ h2.2 x hx
theorem goodE_edge {n : Int} {l : List S67} (h : goodE n l = true) : ∀ x ∈ l, 0 ≤ x.f0 ∧ x.f0 < x.f1 ∧ x.f1 < n ∧ 1 ≤ x.f2 ∧ x.f2 ≤ 100 := by
 have hn := goodE_n h
 intro x hx
 unfold goodE at h
 simp only [Bool.and_eq_true] at h
 have := (isEdge_iff _ _).1 (goodEF_all l none h.1 x hx)
 rw [wrap_id (by omega) (by omega)] at this
 omega
theorem goodEF_rise {m : Int} : ∀ (l : List S67) (y : S67), goodEF m (some y) l = true → ∀ x ∈ l, (y.f0 < x.f0 ∨ y.f0 = x.f0 ∧ y.f1 < x.f1)
 | [], _, _, x, hx => by simp at hx
 | a :: r, y, h, x, hx => by
  simp only [goodEF, Bool.and_eq_true, edgeLt, decide_eq_true_eq] at h
  rcases List.mem_cons.1 hx with rfl | hx
  ·exact h.2.1
  ·have := goodEF_rise r a h.2.2 x hx
   omega
theorem goodEF_pair {m : Int} : ∀ (l : List S67) (o : Option S67), goodEF m o l = true → l.Pairwise (fun y x => y.f0 < x.f0 ∨ y.f0 = x.f0 ∧ y.f1 < x.f1)
 | [], _, _ => List.Pairwise.nil
 | y :: r, o, h => by
  have h2 : goodEF m (some y) r = true := by
   cases o with
   | none => simp only [goodEF, Bool.and_eq_true] at h; exact h.2
   | some z => simp only [goodEF, Bool.and_eq_true] at h; exact h.2.2
  exact List.Pairwise.cons (goodEF_rise r y h2) (goodEF_pair r _ h2)
theorem goodE_pair {n : Int} {l : List S67} (h : goodE n l = true) : l.Pairwise (fun y x => y.f0 < x.f0 ∨ y.f0 = x.f0 ∧ y.f1 < x.f1) := by
 unfold goodE at h
 simp only [Bool.and_eq_true] at h
 exact goodEF_pair l none h.1
end Go.Proofs.Ytklecgkjoofipaa.P

namespace Go.Proofs.Ytklecgkjoofipaa.P
open Go.RowKit Go.Proofs.YtklecgkjoofipaaW.PrintWords Go.Proofs.YtklecgkjoofipaaW.PrintLast
set_option linter.unusedVariables false
set_option linter.unusedSimpArgs false
/-- The spots' own numbers. -/
def own0 (n : Nat) : List Int := (List.range n).map fun (i : Nat) => (i : Int)
theorem own0_len (n : Nat) : (own0 n).length = n := by simp [own0]
end Go.Proofs.Ytklecgkjoofipaa.P

namespace Go.Proofs.Ytklecgkjoofipaa.P
open Go.RowKit Go.Proofs.YtklecgkjoofipaaW.PrintWords Go.Proofs.YtklecgkjoofipaaW.PrintLast
set_option linter.unusedVariables false
set_option linter.unusedSimpArgs false
-- sweeps over a list of numbers; the least of two
theorem least_is (a b : Int) : spec_l1Least.f a b = some (min a b) := by
 unfold spec_l1Least.f
 split
 ·rw [Int.min_eq_left (by omega)]
 ·rw [Int.min_eq_right (by omega)]
theorem mn_is (a b : Int) : mn a b = min a b := by
 unfold mn
 split
 ·rw [Int.min_eq_right (by omega)]
 ·rw [Int.min_eq_left (by omega)]
theorem own0_succ (n : Nat) : own0 (n + 1) = own0 n ++ [(n : Int)] := by
 unfold own0
 rw [List.range_succ, List.map_append]
 rfl
theorem mx_is (a b : Int) : mx a b = max a b := by
 unfold mx
 split <;> omega
theorem own0_mem (n : Nat) (x : Int) : x ∈ own0 n ↔ 0 ≤ x ∧ x < n := by
 unfold own0
 rw [List.mem_map]
 constructor
 ·rintro ⟨i, hi, rfl⟩
  have := List.mem_range.1 hi
  omega
 ·intro ⟨h0, h1⟩
  exact ⟨x.toNat, List.mem_range.2 (by omega), by omega⟩
theorem own0_sorted : ∀ (n : Nat), (own0 n).Pairwise (· < ·)
 | 0 => by simp [own0]
 | n + 1 => by
  rw [own0_succ]
  refine List.pairwise_append.2 ⟨own0_sorted n, by simp, fun a ha b hb => ?_⟩
  have := (own0_mem n a).1 ha
  simp only [List.mem_singleton] at hb
  omega
end Go.Proofs.Ytklecgkjoofipaa.P

namespace Go.Proofs.Ytklecgkjoofipaa.P
open Go.RowKit Go.Proofs.YtklecgkjoofipaaW.PrintWords Go.Proofs.YtklecgkjoofipaaW.PrintLast
set_option linter.unusedVariables false
set_option linter.unusedSimpArgs false
-- one round of shortening, both sides
def relStep (old out : List Int) (e : S67) : List Int := (out.set e.f0.toNat (min (rd out e.f0) (wrap64 (rd old e.f1 + e.f2)))).set e.f1.toNat (min (rd (out.set e.f0.toNat (min (rd out e.f0) (wrap64 (rd old e.f1 + e.f2)))) e.f1) (wrap64 (rd old e.f0 + e.f2)))
theorem relStep_len (old out : List Int) (e : S67) : (relStep old out e).length = out.length := by simp [relStep]
def relaxM (l : List S67) (old : List Int) : List Int := l.foldl (relStep old) old
theorem relFold_len (old : List Int) : ∀ (l : List S67) (out : List Int), (l.foldl (relStep old) out).length = out.length
 | [], _ => rfl
 | e :: l, out => by rw [List.foldl_cons, relFold_len old l, relStep_len]
theorem relaxM_len (l : List S67) (old : List Int) : (relaxM l old).length = old.length := relFold_len old l old
theorem specRelax_l (old : List Int) (suf : List S67) : ∀ (pre : List S67) (out : List Int), ((pre ++ suf).length : Int) ≤ 1099511627776 → out.length = old.length → (∀ x ∈ suf, 0 ≤ x.f0 ∧ x.f0 < x.f1 ∧ x.f1 < old.length) →
  Ev (fun k => spec_l9Relax.l0 k old out (pre ++ suf) ((pre ++ suf).length : Int) pre.length) (suf.foldl (relStep old) out) := by
 induction suf with
 | nil =>
  intro pre out h ho hx
  refine Ev.succ ?_
  simp only [spec_l9Relax.l0, List.append_nil, Int.lt_irrefl, if_false, List.foldl_nil]
  exact Ev.now _
 | cons e suf ih =>
  intro pre out h ho hx
  refine Ev.succ ?_
  rw [len_mid] at h ⊢
  have hs := relStep_len old out e
  have := ih (pre ++ [e]) (relStep old out e) (by rw [← app_one, len_mid]; exact h) (by omega) (fun x hm => hx x (List.mem_cons_of_mem _ hm))
  rw [← app_one, len_mid, len_one] at this
  have he := hx e (List.mem_cons_self ..)
  simp only [spec_l9Relax.l0, List.foldl_cons]
  simp only [if_pos (show ((pre.length : Int) < pre.length + suf.length + 1) by omega), if_pos (show (0 : Int) ≤ pre.length by omega), len_mid, rdEdge_mid, wrap_id (show (-9223372036854775808 : Int) ≤ pre.length + 1 by omega) (show ((pre.length : Int) + 1 ≤ 9223372036854775807) by omega), if_pos he.1, if_pos (show e.f0 < (out.length : Int) by omega), if_pos (show 0 ≤ e.f1 by omega), if_pos he.2.2, if_pos (show e.f1 < (out.length : Int) by omega), if_pos (show e.f0 < (old.length : Int) by omega), least_is, Option.bind_some]
  exact this
theorem implRelax_l (old : List Int) (suf : List S67) : ∀ (pre : List S67) (out : List Int), ((pre ++ suf).length : Int) ≤ 1099511627776 → out.length = old.length → (∀ x ∈ suf, 0 ≤ x.f0 ∧ x.f0 < x.f1 ∧ x.f1 < old.length) →
  Ev (fun k => impl_relaxed.l0 k old out (pre ++ suf) ((pre ++ suf).length : Int) pre.length) (suf.foldl (relStep old) out) := by
 induction suf with
 | nil =>
  intro pre out h ho hx
  refine Ev.succ ?_
  simp only [impl_relaxed.l0, List.append_nil, Int.lt_irrefl, if_false, List.foldl_nil]
  exact Ev.now _
 | cons e suf ih =>
  intro pre out h ho hx
  refine Ev.succ ?_
  rw [len_mid] at h ⊢
  have hs := relStep_len old out e
  have := ih (pre ++ [e]) (relStep old out e) (by rw [← app_one, len_mid]; exact h) (by omega) (fun x hm => hx x (List.mem_cons_of_mem _ hm))
  rw [← app_one, len_mid, len_one] at this
  have he := hx e (List.mem_cons_self ..)
  simp only [impl_relaxed.l0, List.foldl_cons]
  simp only [if_pos (show ((pre.length : Int) < pre.length + suf.length + 1) by omega), if_pos (show (0 : Int) ≤ pre.length by omega), len_mid, rdEdge_mid, wrap_id (show (-9223372036854775808 : Int) ≤ pre.length + 1 by omega) (show ((pre.length : Int) + 1 ≤ 9223372036854775807) by omega), if_pos he.1, if_pos (show e.f0 < (out.length : Int) by omega), if_pos (show 0 ≤ e.f1 by omega), if_pos he.2.2, if_pos (show e.f1 < (out.length : Int) by omega), if_pos (show e.f0 < (old.length : Int) by omega), mn_is, Option.bind_some]
  exact this
theorem specRelax_ev (l : List S67) (old : List Int) (hb : (l.length : Int) ≤ 1099511627776) (ho : old.length ≤ 1048576) (hx : ∀ x ∈ l, 0 ≤ x.f0 ∧ x.f0 < x.f1 ∧ x.f1 < old.length) : Ev (fun k => spec_l9Relax.f k l old) (relaxM l old) := by
 unfold spec_l9Relax.f
 simp only [Option.bind_some, List.length_nil, Nat.zero_add, List.nil_append, if_pos (show old.length < 17592186044416 by omega)]
 have := specRelax_l old l [] old hb rfl hx
 exact this
theorem implRelax_ev (l : List S67) (old : List Int) (hb : (l.length : Int) ≤ 1099511627776) (ho : old.length ≤ 1048576) (hx : ∀ x ∈ l, 0 ≤ x.f0 ∧ x.f0 < x.f1 ∧ x.f1 < old.length) : Ev (fun k => impl_relaxed.f k l old) (relaxM l old) := by
 unfold impl_relaxed.f
 simp only [Option.bind_some, List.length_nil, Nat.zero_add, List.nil_append, if_pos (show old.length < 17592186044416 by omega)]
 have := implRelax_l old l [] old hb rfl hx
 exact this
end Go.Proofs.Ytklecgkjoofipaa.P

namespace Go.Proofs.Ytklecgkjoofipaa.P
open Go.RowKit Go.Proofs.YtklecgkjoofipaaW.PrintWords Go.Proofs.YtklecgkjoofipaaW.PrintLast
set_option linter.unusedVariables false
set_option linter.unusedSimpArgs false
-- the neighbours of a node: the sorted puts and the sweep over costs give one list
def putI : List Int → Int → List Int
 | [], x => [x]
 | y :: r, x => if y < x then y :: putI r x else if y = x then y :: r else x :: y :: r
theorem putI_len : ∀ (l : List Int) (x : Int), (putI l x).length ≤ l.length + 1
 | [], x => by simp [putI]
 | y :: r, x => by
  have := putI_len r x
  unfold putI
  split
  ·simp; omega
  ·split <;> simp
theorem putI_mem : ∀ (l : List Int) (x z : Int), z ∈ putI l x ↔ z = x ∨ z ∈ l
 | [], x, z => by simp [putI]
 | y :: r, x, z => by
  have := putI_mem r x z
  unfold putI
  split
  ·simp only [List.mem_cons, this]
   constructor
   ·rintro (h | h | h) <;> simp [h]
   ·rintro (h | h | h) <;> simp [h]
  ·split
   ·rename_i h
    subst h
    simp
   ·simp
theorem putI_sorted : ∀ (l : List Int) (x : Int), l.Pairwise (· < ·) → (putI l x).Pairwise (· < ·)
 | [], x, _ => by simp [putI]
 | y :: r, x, h => by
  have h1 := List.pairwise_cons.1 h
  have := putI_sorted r x h1.2
  unfold putI
  split
  ·rename_i hyx
   refine List.pairwise_cons.2 ⟨fun z hz => ?_, this⟩
   rcases (putI_mem r x z).1 hz with h2 | h2
   ·omega
   ·exact h1.1 z h2
  ·split
   ·exact h
   ·refine List.pairwise_cons.2 ⟨fun z hz => ?_, h⟩
    rcases List.mem_cons.1 hz with h2 | h2
    ·omega
    ·have := h1.1 z h2
     omega
theorem sorted_ext : ∀ (a b : List Int), a.Pairwise (· < ·) → b.Pairwise (· < ·) → (∀ x, x ∈ a ↔ x ∈ b) → a = b
 | [], [], _, _, _ => rfl
 | [], y :: b, _, _, h => by have := (h y).2 (List.mem_cons_self ..); simp at this
 | x :: a, [], _, _, h => by have := (h x).1 (List.mem_cons_self ..); simp at this
 | x :: a, y :: b, ha, hb, h => by
  have ha1 := List.pairwise_cons.1 ha
  have hb1 := List.pairwise_cons.1 hb
  have hxy : x = y := by
   rcases List.mem_cons.1 ((h x).1 (List.mem_cons_self ..)) with h1 | h1
   ·exact h1
   ·rcases List.mem_cons.1 ((h y).2 (List.mem_cons_self ..)) with h2 | h2
    ·exact h2.symm
    ·have := ha1.1 y h2
     have := hb1.1 x h1
     omega
  subst hxy
  rw [sorted_ext a b ha1.2 hb1.2 fun z => ?_]
  constructor
  ·intro hz
   rcases List.mem_cons.1 ((h z).1 (List.mem_cons_of_mem _ hz)) with h1 | h1
   ·have := ha1.1 z hz
    omega
   ·exact h1
  ·intro hz
   rcases List.mem_cons.1 ((h z).2 (List.mem_cons_of_mem _ hz)) with h1 | h1
   ·have := hb1.1 z hz
    omega
   ·exact h1
theorem put_l (x : Int) (suf : List Int) : ∀ (pre : List Int), ((pre ++ suf).length : Int) ≤ 4398046511104 → Ev (fun k => spec_l1Put.l0 k (pre ++ suf) x pre.length) (pre ++ putI suf x) := by
 induction suf with
 | nil =>
  intro pre h
  refine Ev.succ ?_
  simp only [List.append_nil] at h ⊢
  have h0 : pre.length < 17592186044416 := by omega
  simp only [spec_l1Put.l0, Int.lt_irrefl, if_false, Option.bind_some, if_pos (show (0 : Int) ≤ pre.length by omega), if_pos (Int.le_refl (pre.length : Int)), Int.toNat_natCast, List.take_length, List.drop_length, List.nil_append, List.length_nil, Nat.zero_add, if_pos h0, List.length_append, List.length_cons, Nat.add_zero, List.append_nil, if_pos (show pre.length + (0 + 1) < 17592186044416 by omega), if_pos (show pre.length + 1 < 17592186044416 by omega), putI]
  exact Ev.now _
 | cons y suf ih =>
  intro pre h
  refine Ev.succ ?_
  have hl := len_mid pre y suf
  rw [hl] at h
  simp only [spec_l1Put.l0, hl, rd_mid, if_pos (show ((pre.length : Int) < pre.length + suf.length + 1) by omega), if_pos (show (0 : Int) ≤ pre.length by omega), wrap_id (show (-9223372036854775808 : Int) ≤ pre.length + 1 by omega) (show ((pre.length : Int) + 1 ≤ 9223372036854775807) by omega)]
  by_cases h1 : y < x
  ·have := ih (pre ++ [y]) (by rw [← app_one, hl]; exact h)
   rw [← app_one, len_one] at this
   simp only [if_pos h1, putI]
   rw [app_one] at this
   rw [app_one pre y (putI suf x)]
   rw [← app_one] at this
   exact this
  ·by_cases h2 : y = x
   ·simp only [if_neg h1, if_pos h2, putI]
    exact Ev.now _
   ·have h0 : pre.length < 17592186044416 := by omega
    simp only [if_neg h1, if_neg h2, putI, Option.bind_some, if_pos (show (pre.length : Int) ≤ pre.length + suf.length + 1 by omega), Int.toNat_natCast, List.take_left, List.drop_left, List.nil_append, List.length_nil, Nat.zero_add, if_pos h0, List.length_append, List.length_cons, if_pos (show pre.length + 1 + (suf.length + 1) < 17592186044416 by omega), if_pos (show pre.length + (0 + 1) + (suf.length + 1) < 17592186044416 by omega), List.append_assoc, List.cons_append]
    exact Ev.now _
theorem put_ev (l : List Int) (x : Int) (h : (l.length : Int) ≤ 4398046511104) : Ev (fun k => spec_l1Put.f k l x) (putI l x) := by
 have := put_l x l [] h
 exact this
def nearStep (v : Int) (out : List Int) (e : S67) : List Int := if e.f0 = v then (if e.f1 = v then putI (putI out e.f1) e.f0 else putI out e.f1) else (if e.f1 = v then putI out e.f0 else out)
theorem nearStep_len (v : Int) (out : List Int) (e : S67) : (nearStep v out e).length ≤ out.length + 2 := by
 unfold nearStep
 split
 ·split
  ·have := putI_len (putI out e.f1) e.f0
   have := putI_len out e.f1
   omega
  ·have := putI_len out e.f1
   omega
 ·split
  ·have := putI_len out e.f0
   omega
  ·omega
theorem specNear_l (v : Int) (suf : List S67) : ∀ (pre : List S67) (out : List Int), ((pre ++ suf).length : Int) ≤ 1099511627776 → (out.length : Int) ≤ 2 * pre.length →
  Ev (fun k => spec_l8Near.l0 k v out (pre ++ suf) ((pre ++ suf).length : Int) pre.length) (suf.foldl (nearStep v) out) := by
 induction suf with
 | nil =>
  intro pre out h ho
  refine Ev.succ ?_
  simp only [spec_l8Near.l0, List.append_nil, Int.lt_irrefl, if_false, List.foldl_nil]
  exact Ev.now _
 | cons e suf ih =>
  intro pre out h ho
  refine Ev.succ ?_
  rw [len_mid] at h ⊢
  have hs := nearStep_len v out e
  have := ih (pre ++ [e]) (nearStep v out e) (by rw [← app_one, len_mid]; exact h) (by rw [len_one]; omega)
  rw [← app_one, len_mid, len_one] at this
  simp only [spec_l8Near.l0, List.foldl_cons]
  simp only [if_pos (show ((pre.length : Int) < pre.length + suf.length + 1) by omega), if_pos (show (0 : Int) ≤ pre.length by omega), len_mid, rdEdge_mid, wrap_id (show (-9223372036854775808 : Int) ≤ pre.length + 1 by omega) (show ((pre.length : Int) + 1 ≤ 9223372036854775807) by omega)]
  have hp := putI_len out e.f1
  by_cases h1 : e.f0 = v
  ·by_cases h2 : e.f1 = v
   ·simp only [if_pos h1, if_pos h2]
    refine Ev.bind (put_ev _ _ (by omega)) ?_
    refine Ev.bind (put_ev _ _ (by omega)) ?_
    rw [show nearStep v out e = putI (putI out e.f1) e.f0 by simp [nearStep, h1, h2]] at this
    rw [show nearStep v out e = putI (putI out e.f1) e.f0 by simp [nearStep, h1, h2]]
    exact this
   ·simp only [if_pos h1, if_neg h2]
    refine Ev.bind (put_ev _ _ (by omega)) ?_
    rw [show nearStep v out e = putI out e.f1 by simp only [nearStep, if_pos h1, if_neg h2]] at this
    rw [show nearStep v out e = putI out e.f1 by simp only [nearStep, if_pos h1, if_neg h2]]
    exact this
  ·by_cases h2 : e.f1 = v
   ·simp only [if_neg h1, if_pos h2]
    refine Ev.bind (put_ev _ _ (by omega)) ?_
    rw [show nearStep v out e = putI out e.f0 by simp only [nearStep, if_neg h1, if_pos h2]] at this
    rw [show nearStep v out e = putI out e.f0 by simp only [nearStep, if_neg h1, if_pos h2]]
    exact this
   ·simp only [if_neg h1, if_neg h2]
    rw [show nearStep v out e = out by simp only [nearStep, if_neg h1, if_neg h2]] at this
    rw [show nearStep v out e = out by simp only [nearStep, if_neg h1, if_neg h2]]
    exact this
def nearS (l : List S67) (v : Int) : List Int := l.foldl (nearStep v) []
theorem specNear_ev (l : List S67) (v : Int) (h : (l.length : Int) ≤ 1099511627776) : Ev (fun k => spec_l8Near.f k l v) (nearS l v) := by
 have := specNear_l v l [] [] h (by simp)
 exact this
theorem foldNear (v : Int) : ∀ (l : List S67) (out : List Int), out.Pairwise (· < ·) → (l.foldl (nearStep v) out).Pairwise (· < ·) ∧ ∀ x, x ∈ l.foldl (nearStep v) out ↔ x ∈ out ∨ ∃ e ∈ l, (e.f0 = v ∧ e.f1 = x) ∨ (e.f1 = v ∧ e.f0 = x)
 | [], out, h => by simp [h]
 | e :: l, out, h => by
  have h1 : (nearStep v out e).Pairwise (· < ·) := by
   unfold nearStep
   split
   ·split
    ·exact putI_sorted _ _ (putI_sorted _ _ h)
    ·exact putI_sorted _ _ h
   ·split
    ·exact putI_sorted _ _ h
    ·exact h
  have h2 : ∀ x, x ∈ nearStep v out e ↔ x ∈ out ∨ (e.f0 = v ∧ e.f1 = x) ∨ (e.f1 = v ∧ e.f0 = x) := by
   intro x
   unfold nearStep
   split
   ·rename_i a
    split
    ·rename_i b
     rw [putI_mem, putI_mem]
     constructor
     ·rintro (c | c | c)
      ·exact .inr (.inr ⟨b, c.symm⟩)
      ·exact .inr (.inl ⟨a, c.symm⟩)
      ·exact .inl c
     ·rintro (c | c | c)
      ·exact .inr (.inr c)
      ·exact .inr (.inl c.2.symm)
      ·exact .inl c.2.symm
    ·rename_i b
     rw [putI_mem]
     constructor
     ·rintro (c | c)
      ·exact .inr (.inl ⟨a, c.symm⟩)
      ·exact .inl c
     ·rintro (c | c | c)
      ·exact .inr c
      ·exact .inl c.2.symm
      ·exact absurd c.1 b
   ·rename_i a
    split
    ·rename_i b
     rw [putI_mem]
     constructor
     ·rintro (c | c)
      ·exact .inr (.inr ⟨b, c.symm⟩)
      ·exact .inl c
     ·rintro (c | c | c)
      ·exact .inr c
      ·exact absurd c.1 a
      ·exact .inl c.2.symm
    ·rename_i b
     constructor
     ·exact .inl
     ·rintro (c | c | c)
      ·exact c
      ·exact absurd c.1 a
      ·exact absurd c.1 b
  have h3 := foldNear v l (nearStep v out e) h1
  refine ⟨h3.1, fun x => ?_⟩
  rw [List.foldl_cons, h3.2, h2]
  constructor
  ·rintro ((c | c) | ⟨y, c, d⟩)
   ·exact .inl c
   ·exact .inr ⟨e, List.mem_cons_self .., c⟩
   ·exact .inr ⟨y, List.mem_cons_of_mem _ c, d⟩
  ·rintro (c | ⟨y, c, d⟩)
   ·exact .inl (.inl c)
   ·rcases List.mem_cons.1 c with rfl | c
    ·exact .inl (.inr d)
    ·exact .inr ⟨y, c, d⟩
def isAt (a b : Int) (e : S67) : Bool := decide (e.f0 = min a b ∧ e.f1 = max a b)
def costM (l : List S67) (a b : Int) : Int := match l.find? (isAt a b) with
 | some e => e.f2
 | none => 0
theorem implCost_l (a b : Int) (suf : List S67) : ∀ (pre : List S67), ((pre ++ suf).length : Int) ≤ 1099511627776 →
  Ev (fun k => impl_cost.l0 k a b (pre ++ suf) ((pre ++ suf).length : Int) pre.length) (costM suf a b) := by
 induction suf with
 | nil =>
  intro pre h
  refine Ev.succ ?_
  simp only [impl_cost.l0, List.append_nil, Int.lt_irrefl, if_false]
  exact Ev.now _
 | cons e suf ih =>
  intro pre h
  refine Ev.succ ?_
  rw [len_mid] at h ⊢
  have := ih (pre ++ [e]) (by rw [← app_one, len_mid]; exact h)
  rw [← app_one, len_mid, len_one] at this
  simp only [impl_cost.l0]
  simp only [if_pos (show ((pre.length : Int) < pre.length + suf.length + 1) by omega), if_pos (show (0 : Int) ≤ pre.length by omega), len_mid, rdEdge_mid, wrap_id (show (-9223372036854775808 : Int) ≤ pre.length + 1 by omega) (show ((pre.length : Int) + 1 ≤ 9223372036854775807) by omega), mn_is, mx_is]
  by_cases h1 : e.f0 = min a b
  ·by_cases h2 : e.f1 = max a b
   ·simp only [if_pos h1, if_pos h2]
    rw [show costM (e :: suf) a b = e.f2 by unfold costM; rw [List.find?_cons_of_pos (by simp only [isAt, h1, h2, and_self, decide_true])]]
    exact Ev.now _
   ·simp only [if_pos h1, if_neg h2]
    rw [show costM (e :: suf) a b = costM suf a b by unfold costM; rw [List.find?_cons_of_neg (by simp only [isAt, h2, and_false, decide_false]; simp)]]
    exact this
  ·simp only [if_neg h1]
   rw [show costM (e :: suf) a b = costM suf a b by unfold costM; rw [List.find?_cons_of_neg (by simp only [isAt, h1, false_and, decide_false]; simp)]]
   exact this
theorem implCost_ev (l : List S67) (a b : Int) (h : (l.length : Int) ≤ 1099511627776) : Ev (fun k => impl_cost.f k l a b) (costM l a b) := by
 have := implCost_l a b l [] h
 exact this
def nearM (n : Nat) (l : List S67) (v : Int) : List Int := (own0 n).filter fun u => decide (costM l v u > 0)
theorem nearM_succ (n : Nat) (l : List S67) (v : Int) : nearM (n + 1) l v = if costM l v n > 0 then nearM n l v ++ [(n : Int)] else nearM n l v := by
 unfold nearM
 rw [own0_succ, List.filter_append]
 split
 ·rename_i h
  simp [h]
 ·rename_i h
  simp [h]
theorem nearM_len (n : Nat) (l : List S67) (v : Int) : (nearM n l v).length ≤ n := by
 have := List.length_filter_le (fun u => decide (costM l v u > 0)) (own0 n)
 rw [own0_len] at this
 exact this
theorem implNear_l (l : List S67) (v : Int) (hb : (l.length : Int) ≤ 1099511627776) (d : Nat) : ∀ (c : Nat), c + d ≤ 1000000 →
  Ev (fun k => impl_near.l0 k l v (nearM c l v) ((c + d : Nat) : Int) c) (nearM (c + d) l v) := by
 induction d with
 | zero =>
  intro c h
  refine Ev.succ ?_
  simp only [impl_near.l0, Nat.add_zero, Int.lt_irrefl, if_false]
  exact Ev.now _
 | succ d ih =>
  intro c h
  refine Ev.succ ?_
  have := ih (c + 1) (by omega)
  rw [show c + 1 + d = c + (d + 1) by omega] at this
  have hl := nearM_len c l v
  simp only [impl_near.l0, if_pos (show (c : Int) < ((c + (d + 1) : Nat) : Int) by omega), wrap_id (show (-9223372036854775808 : Int) ≤ c + 1 by omega) (show ((c : Int) + 1 ≤ 9223372036854775807) by omega)]
  refine Ev.bind (implCost_ev l v c hb) ?_
  rw [nearM_succ] at this
  by_cases h1 : costM l v c > 0
  ·simp only [if_pos h1, if_pos (show (nearM c l v).length < 17592186044416 by omega)] at this ⊢
   exact this
  ·simp only [if_neg h1] at this ⊢
   exact this
theorem implNear_ev (n : Int) (l : List S67) (v : Int) (h0 : 0 ≤ n) (hn : n ≤ 1000) (hb : (l.length : Int) ≤ 1099511627776) : Ev (fun k => impl_near.f k n l v) (nearM n.toNat l v) := by
 have := implNear_l l v hb n.toNat 0 (by omega)
 rw [Nat.zero_add, show ((n.toNat : Nat) : Int) = n by omega] at this
 exact this
theorem costM_pos {n : Int} {l : List S67} (hx : ∀ x ∈ l, 0 ≤ x.f0 ∧ x.f0 < x.f1 ∧ x.f1 < n ∧ 1 ≤ x.f2 ∧ x.f2 ≤ 100) (a b : Int) : costM l a b > 0 ↔ ∃ e ∈ l, (e.f0 = a ∧ e.f1 = b) ∨ (e.f1 = a ∧ e.f0 = b) := by
 unfold costM
 cases hf : l.find? (isAt a b) with
 | none =>
  simp only [gt_iff_lt, Int.lt_irrefl, false_iff]
  rintro ⟨e, he, hc⟩
  have := hx e he
  have h1 := List.find?_eq_none.1 hf e he
  simp only [isAt, decide_eq_true_eq] at h1
  omega
 | some e =>
  have he := List.mem_of_find?_eq_some hf
  have := hx e he
  have h1 := List.find?_some hf
  simp only [isAt, decide_eq_true_eq] at h1
  simp only [gt_iff_lt]
  refine ⟨fun _ => ⟨e, he, ?_⟩, fun _ => by omega⟩
  omega
theorem near_same {n : Int} {l : List S67} (hx : ∀ x ∈ l, 0 ≤ x.f0 ∧ x.f0 < x.f1 ∧ x.f1 < n ∧ 1 ≤ x.f2 ∧ x.f2 ≤ 100) (v : Int) : nearS l v = nearM n.toNat l v := by
 have h := foldNear v l [] (by simp)
 refine sorted_ext _ _ h.1 ?_ fun x => ?_
 ·exact (own0_sorted _).filter _
 ·unfold nearM
  rw [List.mem_filter, own0_mem, decide_eq_true_eq, costM_pos hx]
  have h2 := h.2 x
  simp only [List.not_mem_nil, false_or] at h2
  refine h2.trans ⟨fun hc => ⟨?_, hc⟩, fun hc => hc.2⟩
  obtain ⟨e, he, hc⟩ := hc
  have := hx e he
  omega
theorem goodAt_ev (n : Int) (l : List S67) (q : List Int) (hl : l.length ≤ 1048576) (hq : (q.length : Int) ≤ 1099511627776) : Ev (fun k => impl_goodAt.f k n l q) (goodE n l && allIn 0 (wrap64 (n - 1)) q) := by
 unfold impl_goodAt.f
 refine Ev.bind (implGoodE_ev n l hl) ?_
 by_cases h : goodE n l = true
 ·simp only [h, if_true, Bool.true_and]
  exact Ev.bind (implAll_ev _ _ q hq) (Ev.now _)
 ·simp only [h, Bool.false_and, Bool.false_eq_true, if_false]
  exact Ev.now _
end Go.Proofs.Ytklecgkjoofipaa.P

namespace Go.Proofs.Ytklecgkjoofipaa.P
open Go.RowKit Go.Proofs.YtklecgkjoofipaaW.PrintWords Go.Proofs.YtklecgkjoofipaaW.PrintLast
set_option linter.unusedVariables false
set_option linter.unusedSimpArgs false
-- all the shortest ways from a node, both sides
def farsIt (l : List S67) : Nat → List Int → List Int
 | 0, x => x
 | d + 1, x => farsIt l d (relaxM l x)
theorem farsIt_len (l : List S67) : ∀ (d : Nat) (x : List Int), (farsIt l d x).length = x.length
 | 0, _ => rfl
 | d + 1, x => by rw [farsIt, farsIt_len l d, relaxM_len]
def fars0 (n : Nat) (a : Int) : List Int := (List.replicate n (100000 : Int)).set a.toNat 0
theorem fars0_len (n : Nat) (a : Int) : (fars0 n a).length = n := by simp [fars0]
def farsM (n : Nat) (l : List S67) (a : Int) : List Int := farsIt l n (fars0 n a)
theorem farsM_len (n : Nat) (l : List S67) (a : Int) : (farsM n l a).length = n := by rw [farsM, farsIt_len, fars0_len]
theorem specFars_l1 (n : Nat) (hn : n ≤ 1000) (l : List S67) (hb : (l.length : Int) ≤ 1099511627776) (hx : ∀ x ∈ l, 0 ≤ x.f0 ∧ x.f0 < x.f1 ∧ x.f1 < n) (d : Nat) : ∀ (c : Nat) (x : List Int), c + d = n → x.length = n →
  Ev (fun k => spec_l9Fars.l1 k n l x c) (farsIt l d x) := by
 induction d with
 | zero =>
  intro c x h hl
  refine Ev.succ ?_
  simp only [spec_l9Fars.l1, if_neg (show ¬ (c : Int) < n by omega)]
  exact Ev.now _
 | succ d ih =>
  intro c x h hl
  refine Ev.succ ?_
  have := ih (c + 1) (relaxM l x) (by omega) (by rw [relaxM_len, hl])
  simp only [spec_l9Fars.l1, if_pos (show (c : Int) < n by omega), wrap_id (show (-9223372036854775808 : Int) ≤ c + 1 by omega) (show ((c : Int) + 1 ≤ 9223372036854775807) by omega)]
  refine Ev.bind (specRelax_ev l x hb (by omega) (by rw [hl]; exact hx)) ?_
  exact this
theorem implFars_l1 (n : Nat) (hn : n ≤ 1000) (l : List S67) (hb : (l.length : Int) ≤ 1099511627776) (hx : ∀ x ∈ l, 0 ≤ x.f0 ∧ x.f0 < x.f1 ∧ x.f1 < n) (d : Nat) : ∀ (c : Nat) (x : List Int), c + d = n → x.length = n →
  Ev (fun k => impl_fars.l1 k l x n c) (farsIt l d x) := by
 induction d with
 | zero =>
  intro c x h hl
  refine Ev.succ ?_
  simp only [impl_fars.l1, if_neg (show ¬ (c : Int) < n by omega)]
  exact Ev.now _
 | succ d ih =>
  intro c x h hl
  refine Ev.succ ?_
  have := ih (c + 1) (relaxM l x) (by omega) (by rw [relaxM_len, hl])
  simp only [impl_fars.l1, if_pos (show (c : Int) < n by omega), wrap_id (show (-9223372036854775808 : Int) ≤ c + 1 by omega) (show ((c : Int) + 1 ≤ 9223372036854775807) by omega)]
  refine Ev.bind (implRelax_ev l x hb (by omega) (by rw [hl]; exact hx)) ?_
  exact this
theorem rep_succ (c : Nat) (x : Int) : List.replicate c x ++ [x] = List.replicate (c + 1) x := by
 rw [List.replicate_succ']
theorem specFars_l0 (n : Nat) (hn : n ≤ 1000) (l : List S67) (a : Int) (R : List Int) (ha : 0 ≤ a) (ha1 : a < n) (hR : Ev (fun k => spec_l9Fars.l1 k n l (fars0 n a) 0) R) (d : Nat) : ∀ (c : Nat), c + d = n →
  Ev (fun k => spec_l9Fars.l0 k n l a (List.replicate c 100000) c) R := by
 induction d with
 | zero =>
  intro c h
  refine Ev.succ ?_
  have hc : c = n := by omega
  subst hc
  simp only [spec_l9Fars.l0, Int.lt_irrefl, if_false, if_pos ha, List.length_replicate, if_pos ha1]
  exact hR
 | succ d ih =>
  intro c h
  refine Ev.succ ?_
  have := ih (c + 1) (by omega)
  simp only [spec_l9Fars.l0, if_pos (show (c : Int) < n by omega), List.length_replicate, if_pos (show c < 17592186044416 by omega), wrap_id (show (-9223372036854775808 : Int) ≤ c + 1 by omega) (show ((c : Int) + 1 ≤ 9223372036854775807) by omega)]
  rw [rep_succ]
  exact this
theorem specFars_ev (n : Int) (l : List S67) (a : Int) (hn : n ≤ 1000) (hb : (l.length : Int) ≤ 1099511627776) (hx : ∀ x ∈ l, 0 ≤ x.f0 ∧ x.f0 < x.f1 ∧ x.f1 < n) (ha : 0 ≤ a) (ha1 : a < n) : Ev (fun k => spec_l9Fars.f k n l a) (farsM n.toNat l a) := by
 obtain ⟨m, rfl⟩ := Int.eq_ofNat_of_zero_le (show 0 ≤ n by omega)
 rw [Int.toNat_natCast]
 have := specFars_l0 m (by omega) l a _ ha ha1 (specFars_l1 m (by omega) l hb hx m 0 _ (by omega) (fars0_len m a)) m 0 (by omega)
 exact this
theorem implFars_l0 (n : Nat) (hn : n ≤ 1000) (l : List S67) (a : Int) (R : List Int) (ha : 0 ≤ a) (ha1 : a < n) (hR : Ev (fun k => impl_fars.l1 k l (fars0 n a) n 0) R) (d : Nat) : ∀ (c : Nat), c + d = n →
  Ev (fun k => impl_fars.l0 k n l a (List.replicate c 100000 ++ List.replicate d 0) n c) R := by
 induction d with
 | zero =>
  intro c h
  refine Ev.succ ?_
  have hc : c = n := by omega
  subst hc
  simp only [impl_fars.l0, Int.lt_irrefl, if_false, if_pos ha, List.replicate_zero, List.append_nil, List.length_replicate, if_pos ha1]
  exact hR
 | succ d ih =>
  intro c h
  refine Ev.succ ?_
  have := ih (c + 1) (by omega)
  have hl : ((List.replicate c (100000 : Int) ++ List.replicate (d + 1) (0 : Int)).length : Int) = n := by simp; omega
  simp only [impl_fars.l0, hl, if_pos (show (c : Int) < n by omega), if_pos (show (0 : Int) ≤ c by omega), wrap_id (show (-9223372036854775808 : Int) ≤ c + 1 by omega) (show ((c : Int) + 1 ≤ 9223372036854775807) by omega)]
  have hs := set_mid (List.replicate c (100000 : Int)) 0 100000 (List.replicate d 0)
  rw [List.length_replicate] at hs
  rw [List.replicate_succ, hs, app_one, rep_succ]
  exact this
theorem implFars_ev (n : Int) (l : List S67) (a : Int) (hn : n ≤ 1000) (hb : (l.length : Int) ≤ 1099511627776) (hx : ∀ x ∈ l, 0 ≤ x.f0 ∧ x.f0 < x.f1 ∧ x.f1 < n) (ha : 0 ≤ a) (ha1 : a < n) : Ev (fun k => impl_fars.f k n l a) (farsM n.toNat l a) := by
 obtain ⟨m, rfl⟩ := Int.eq_ofNat_of_zero_le (show 0 ≤ n by omega)
 rw [Int.toNat_natCast]
 unfold impl_fars.f
 simp only [Int.toNat_natCast, if_pos (show (0 : Int) ≤ (m : Int) by omega), if_pos (show m ≤ 35184372088832 by omega), Option.bind_some, List.length_replicate]
 have := implFars_l0 m (by omega) l a _ ha ha1 (implFars_l1 m (by omega) l hb hx m 0 _ (by omega) (fars0_len m a)) m 0 (by omega)
 exact this
theorem allIn2 (a b x y : Int) : allIn a b [x, y] = (decide (a ≤ x ∧ x ≤ b) && decide (a ≤ y ∧ y ≤ b)) := by rw [allIn, List.all_cons, List.all_cons, List.all_nil, Bool.and_true]
theorem edge3 {n : Int} {l : List S67} (h : goodE n l = true) : ∀ x ∈ l, 0 ≤ x.f0 ∧ x.f0 < x.f1 ∧ x.f1 < n := fun x hm => ⟨(goodE_edge h x hm).1, (goodE_edge h x hm).2.1, (goodE_edge h x hm).2.2.1⟩
theorem top_is {n : Int} (h0 : 1 ≤ n) (h1 : n ≤ 12) : wrap64 (n - 1) = n - 1 := wrap_id (by omega) (by omega)
end Go.Proofs.Ytklecgkjoofipaa.P

namespace Go.Proofs.Ytklecgkjoofipaa.P
open Go.RowKit Go.Proofs.YtklecgkjoofipaaW.PrintWords Go.Proofs.YtklecgkjoofipaaW.PrintLast
set_option linter.unusedVariables false
set_option linter.unusedSimpArgs false
-- the cost of a list of nodes, both sides
theorem specEdge_l (a b : Int) (suf : List S67) : ∀ (pre : List S67), ((pre ++ suf).length : Int) ≤ 1099511627776 → (∀ x ∈ suf, x.f0 < x.f1) →
  Ev (fun k => spec_l9Edge.l0 k a b (pre ++ suf) ((pre ++ suf).length : Int) pre.length) (costM suf a b) := by
 induction suf with
 | nil =>
  intro pre h hx
  refine Ev.succ ?_
  simp only [spec_l9Edge.l0, List.append_nil, Int.lt_irrefl, if_false]
  exact Ev.now _
 | cons e suf ih =>
  intro pre h hx
  refine Ev.succ ?_
  rw [len_mid] at h ⊢
  have := ih (pre ++ [e]) (by rw [← app_one, len_mid]; exact h) (fun x hm => hx x (List.mem_cons_of_mem _ hm))
  rw [← app_one, len_mid, len_one] at this
  have he := hx e (List.mem_cons_self ..)
  simp only [spec_l9Edge.l0]
  simp only [if_pos (show ((pre.length : Int) < pre.length + suf.length + 1) by omega), if_pos (show (0 : Int) ≤ pre.length by omega), len_mid, rdEdge_mid, wrap_id (show (-9223372036854775808 : Int) ≤ pre.length + 1 by omega) (show ((pre.length : Int) + 1 ≤ 9223372036854775807) by omega)]
  by_cases hc : e.f0 = min a b ∧ e.f1 = max a b
  ·rw [show costM (e :: suf) a b = e.f2 by unfold costM; rw [List.find?_cons_of_pos (by simp only [isAt, hc, and_self, decide_true])]]
   by_cases hab : a ≤ b
   ·simp only [if_pos (show e.f0 = a by omega), if_pos (show e.f1 = b by omega)]
    exact Ev.now _
   ·simp only [if_neg (show ¬ e.f0 = a by omega), if_pos (show e.f0 = b by omega), if_pos (show e.f1 = a by omega)]
    exact Ev.now _
  ·rw [show costM (e :: suf) a b = costM suf a b by unfold costM; rw [List.find?_cons_of_neg (by simp only [isAt, hc, decide_false]; simp)]]
   by_cases h1 : e.f0 = a
   ·simp only [if_pos h1, if_neg (show ¬ e.f1 = b by omega)]
    by_cases h2 : e.f0 = b
    ·simp only [if_pos h2, if_neg (show ¬ e.f1 = a by omega)]
     exact this
    ·simp only [if_neg h2]
     exact this
   ·simp only [if_neg h1]
    by_cases h2 : e.f0 = b
    ·simp only [if_pos h2, if_neg (show ¬ e.f1 = a by omega)]
     exact this
    ·simp only [if_neg h2]
     exact this
theorem specEdge_ev {n : Int} (l : List S67) (a b : Int) (h : (l.length : Int) ≤ 1099511627776) (hg : ∀ x ∈ l, 0 ≤ x.f0 ∧ x.f0 < x.f1 ∧ x.f1 < n) : Ev (fun k => spec_l9Edge.f k l a b) (costM l a b) := by
 have := specEdge_l a b l [] h (fun x hm => (hg x hm).2.1)
 exact this
end Go.Proofs.Ytklecgkjoofipaa.P

namespace Go.Proofs.Ytklecgkjoofipaa.P
open Go.RowKit Go.Proofs.YtklecgkjoofipaaW.PrintWords Go.Proofs.YtklecgkjoofipaaW.PrintLast
set_option linter.unusedVariables false
set_option linter.unusedSimpArgs false
-- the first steps of the shortest ways, one side
def hopsGo (l : List S67) (a : Int) (F : List Int) (q : List Int) : List Int := q.filter fun u => decide (rd F a < 100000 ∧ wrap64 (rd F u + costM l a u) = rd F a)
theorem hopsGo_pos (l : List S67) (a : Int) (F : List Int) (u : Int) (q : List Int) (h : rd F a < 100000 ∧ wrap64 (rd F u + costM l a u) = rd F a) : hopsGo l a F (u :: q) = u :: hopsGo l a F q := by
 unfold hopsGo
 exact List.filter_cons_of_pos (decide_eq_true h)
theorem hopsGo_neg (l : List S67) (a : Int) (F : List Int) (u : Int) (q : List Int) (h : ¬ (rd F a < 100000 ∧ wrap64 (rd F u + costM l a u) = rd F a)) : hopsGo l a F (u :: q) = hopsGo l a F q := by
 unfold hopsGo
 exact List.filter_cons_of_neg (by rw [decide_eq_true_eq]; exact h)
theorem implHops_l (n : Nat) (l : List S67) (hb : (l.length : Int) ≤ 1099511627776) (a : Int) (ha : 0 ≤ a) (ha1 : a < n) (F : List Int) (hF : F.length = n) (suf : List Int) : ∀ (pre out : List Int), ((pre ++ suf).length : Int) ≤ 1000000 → out.length ≤ pre.length → (∀ u ∈ suf, 0 ≤ u ∧ u < n) →
  Ev (fun k => impl_hops.l0 k l a F out (pre ++ suf) ((pre ++ suf).length : Int) pre.length) (out ++ hopsGo l a F suf) := by
 induction suf with
 | nil =>
  intro pre out h ho hu
  refine Ev.succ ?_
  simp only [impl_hops.l0, List.append_nil, Int.lt_irrefl, if_false, hopsGo, List.filter_nil]
  exact Ev.now _
 | cons u suf ih =>
  intro pre out h ho hu
  refine Ev.succ ?_
  rw [len_mid] at h ⊢
  have h0 := hu u (List.mem_cons_self ..)
  have := fun o ho => ih (pre ++ [u]) o (by rw [← app_one, len_mid]; exact h) ho (fun x hm => hu x (List.mem_cons_of_mem _ hm))
  rw [← app_one, len_mid, len_one] at this
  simp only [impl_hops.l0]
  simp only [if_pos (show ((pre.length : Int) < pre.length + suf.length + 1) by omega), if_pos (show (0 : Int) ≤ pre.length by omega), len_mid, rd_mid, wrap_id (show (-9223372036854775808 : Int) ≤ pre.length + 1 by omega) (show ((pre.length : Int) + 1 ≤ 9223372036854775807) by omega), if_pos ha, if_pos (show a < (F.length : Int) by omega), if_pos h0.1, if_pos (show u < (F.length : Int) by omega)]
  by_cases h1 : rd F a < 100000
  ·simp only [if_pos h1]
   refine Ev.bind (implCost_ev l a u hb) ?_
   by_cases h2 : wrap64 (rd F u + costM l a u) = rd F a
   ·simp only [if_pos h2, if_pos (show out.length < 17592186044416 by omega)]
    rw [hopsGo_pos l a F u suf ⟨h1, h2⟩, app_one out u (hopsGo l a F suf)]
    exact this (out ++ [u]) (by simp only [List.length_append, List.length_singleton]; omega)
   ·simp only [if_neg h2]
    rw [hopsGo_neg l a F u suf (fun hc => h2 hc.2)]
    exact this out (by rw [List.length_append]; omega)
  ·simp only [if_neg h1]
   rw [hopsGo_neg l a F u suf (fun hc => h1 hc.1)]
   exact this out (by rw [List.length_append]; omega)
def hopsM (n : Nat) (l : List S67) (a b : Int) : List Int := hopsGo l a (farsM n l b) (nearM n l a)
theorem nearM_in (n : Nat) (l : List S67) (a u : Int) (h : u ∈ nearM n l a) : 0 ≤ u ∧ u < n := (own0_mem n u).1 (List.mem_filter.1 h).1
theorem implHops_ev (n : Int) (l : List S67) (a b : Int) (hl : l.length ≤ 1048576) (h : goodE n l = true) (ha : 0 ≤ a) (ha1 : a < n) : Ev (fun k => impl_hops.f k n l a (farsM n.toNat l b)) (hopsM n.toNat l a b) := by
 have hn := goodE_n h
 unfold impl_hops.f
 refine Ev.bind (implNear_ev n l a (by omega) (by omega) (by omega)) ?_
 have hq := nearM_len n.toNat l a
 have := implHops_l n.toNat l (by omega) a ha (by omega) (farsM n.toNat l b) (farsM_len ..) (nearM n.toNat l a) [] [] (by rw [List.nil_append]; omega) (by simp) (fun u hu => nearM_in _ _ _ _ hu)
 exact this
end Go.Proofs.Ytklecgkjoofipaa.P

namespace Go.Proofs.Ytklecgkjoofipaa.P
open Go.RowKit Go.Proofs.YtklecgkjoofipaaW.PrintWords Go.Proofs.YtklecgkjoofipaaW.PrintLast
set_option linter.unusedVariables false
set_option linter.unusedSimpArgs false
-- the first steps of the shortest ways, both sides
theorem specHops_l (n : Nat) (l : List S67) (hb : (l.length : Int) ≤ 1099511627776) (hg : ∀ x ∈ l, 0 ≤ x.f0 ∧ x.f0 < x.f1 ∧ x.f1 < n) (a : Int) (ha : 0 ≤ a) (ha1 : a < n) (F : List Int) (hF : F.length = n) (suf : List Int) : ∀ (pre out : List Int), ((pre ++ suf).length : Int) ≤ 1000000 → out.length ≤ pre.length → (∀ u ∈ suf, 0 ≤ u ∧ u < n) →
  Ev (fun k => spec_l9Hops.l0 k l a F out (pre ++ suf) ((pre ++ suf).length : Int) pre.length) (out ++ hopsGo l a F suf) := by
 induction suf with
 | nil =>
  intro pre out h ho hu
  refine Ev.succ ?_
  simp only [spec_l9Hops.l0, List.append_nil, Int.lt_irrefl, if_false, hopsGo, List.filter_nil]
  exact Ev.now _
 | cons u suf ih =>
  intro pre out h ho hu
  refine Ev.succ ?_
  rw [len_mid] at h ⊢
  have h0 := hu u (List.mem_cons_self ..)
  have := fun o ho => ih (pre ++ [u]) o (by rw [← app_one, len_mid]; exact h) ho (fun x hm => hu x (List.mem_cons_of_mem _ hm))
  rw [← app_one, len_mid, len_one] at this
  simp only [spec_l9Hops.l0]
  simp only [if_pos (show ((pre.length : Int) < pre.length + suf.length + 1) by omega), if_pos (show (0 : Int) ≤ pre.length by omega), len_mid, rd_mid, wrap_id (show (-9223372036854775808 : Int) ≤ pre.length + 1 by omega) (show ((pre.length : Int) + 1 ≤ 9223372036854775807) by omega), if_pos ha, if_pos (show a < (F.length : Int) by omega), if_pos h0.1, if_pos (show u < (F.length : Int) by omega)]
  by_cases h1 : rd F a < 100000
  ·simp only [if_pos h1]
   refine Ev.bind (specEdge_ev l a u hb hg) ?_
   by_cases h2 : wrap64 (rd F u + costM l a u) = rd F a
   ·simp only [if_pos h2, if_pos (show out.length < 17592186044416 by omega)]
    rw [hopsGo_pos l a F u suf ⟨h1, h2⟩, app_one out u (hopsGo l a F suf)]
    exact this (out ++ [u]) (by simp only [List.length_append, List.length_singleton]; omega)
   ·simp only [if_neg h2]
    rw [hopsGo_neg l a F u suf (fun hc => h2 hc.2)]
    exact this out (by rw [List.length_append]; omega)
  ·simp only [if_neg h1]
   rw [hopsGo_neg l a F u suf (fun hc => h1 hc.1)]
   exact this out (by rw [List.length_append]; omega)
theorem specHops_ev (n : Int) (l : List S67) (a b : Int) (hl : l.length ≤ 1048576) (h : goodE n l = true) (ha : 0 ≤ a) (ha1 : a < n) (hb : 0 ≤ b) (hb1 : b < n) : Ev (fun k => spec_l9Hops.f k n l a b) (hopsM n.toNat l a b) := by
 have hn := goodE_n h
 unfold spec_l9Hops.f
 refine Ev.bind (specFars_ev n l b (by omega) (by omega) (edge3 h) hb hb1) ?_
 refine Ev.bind (specNear_ev l a (by omega)) ?_
 rw [near_same (goodE_edge h)]
 have hq := nearM_len n.toNat l a
 have := specHops_l n.toNat l (by omega) (by rw [show ((n.toNat : Nat) : Int) = n by omega]; exact edge3 h) a ha (by omega) (farsM n.toNat l b) (farsM_len ..) (nearM n.toNat l a) [] [] (by rw [List.nil_append]; omega) (by simp) (fun u hu => nearM_in _ _ _ _ hu)
 exact this
def two (n : Int) (l : List S67) (a b : Int) : Prop := goodE n l = true ∧ (0 ≤ a ∧ a ≤ wrap64 (n - 1)) ∧ (0 ≤ b ∧ b ≤ wrap64 (n - 1))
instance (n : Int) (l : List S67) (a b : Int) : Decidable (two n l a b) := by unfold two; infer_instance
theorem two_lt {n : Int} {l : List S67} {a b : Int} (h : two n l a b) : goodE n l = true ∧ 0 ≤ a ∧ a < n ∧ 0 ≤ b ∧ b < n := by
 obtain ⟨h0, h1, h2⟩ := h
 have hn := goodE_n h0
 rw [top_is hn.1 hn.2.1] at h1 h2
 exact ⟨h0, h1.1, by omega, h2.1, by omega⟩
theorem specTwo_ev (n : Int) (l : List S67) (a b : Int) (hl : l.length ≤ 1048576) : Ev (fun k => spec_l9Two.f k n l a b) (decide (two n l a b)) := by
 unfold spec_l9Two.f
 refine Ev.bind (specGoodE_ev n l hl) ?_
 by_cases h : goodE n l = true
 ·simp only [if_pos h, specIn, Option.bind_some, decide_eq_true_eq]
  by_cases h1 : 0 ≤ a ∧ a ≤ wrap64 (n - 1)
  ·simp only [if_pos h1]
   refine Ev.some_ ?_
   by_cases h2 : 0 ≤ b ∧ b ≤ wrap64 (n - 1)
   ·rw [decide_eq_true h2, decide_eq_true (show two n l a b from ⟨h, h1, h2⟩)]
   ·rw [decide_eq_false h2, decide_eq_false (fun hc : two n l a b => h2 hc.2.2)]
  ·simp only [if_neg h1]
   exact Ev.some_ (decide_eq_false (fun hc : two n l a b => h1 hc.2.1)).symm
 ·simp only [if_neg h]
  exact Ev.some_ (decide_eq_false (fun hc : two n l a b => h hc.1)).symm
theorem goodAt2_ev (n : Int) (l : List S67) (a b : Int) (hl : l.length ≤ 1048576) : Ev (fun k => impl_goodAt.f k n l [a, b]) (decide (two n l a b)) := by
 have hga := goodAt_ev n l [a, b] hl (by simp)
 rw [allIn2] at hga
 rw [show decide (two n l a b) = (goodE n l && (decide (0 ≤ a ∧ a ≤ wrap64 (n - 1)) && decide (0 ≤ b ∧ b ≤ wrap64 (n - 1)))) from ?_]
 ·exact hga
 ·rw [Bool.eq_iff_iff, decide_eq_true_eq, Bool.and_eq_true, Bool.and_eq_true, decide_eq_true_eq, decide_eq_true_eq]
  rfl
end Go.Proofs.Ytklecgkjoofipaa.P

namespace Go.Proofs.Ytklecgkjoofipaa.P
open Go.RowKit Go.Proofs.YtklecgkjoofipaaW.PrintWords Go.Proofs.YtklecgkjoofipaaW.PrintLast
set_option linter.unusedVariables false
set_option linter.unusedSimpArgs false
-- what one round of shortening does to one node
def sane (x : List Int) : Prop := ∀ v : Int, 0 ≤ rd x v ∧ rd x v ≤ 100000
def offer (old : List Int) (v m : Int) (e : S67) : Int := if e.f0 = v then min m (rd old e.f1 + e.f2) else if e.f1 = v then min m (rd old e.f0 + e.f2) else m
theorem rd_setI {x : List Int} {i v : Int} (hi : 0 ≤ i) (h1 : i < x.length) (hv : 0 ≤ v) (y : Int) : rd (x.set i.toNat y) v = if v = i then y else rd x v := by
 unfold rd
 rw [List.getD_eq_getElem?_getD, List.getD_eq_getElem?_getD, List.getElem?_set]
 by_cases h : v = i
 ·subst h
  rw [if_pos rfl, if_pos rfl, if_pos (by omega)]
  rfl
 ·rw [if_neg (by omega), if_neg h]
theorem relStep_at {old out : List Int} {e : S67} (hs : sane old) (he : 0 ≤ e.f0 ∧ e.f0 < e.f1 ∧ e.f1 < out.length ∧ 1 ≤ e.f2 ∧ e.f2 ≤ 100) (v : Int) (hv : 0 ≤ v) : rd (relStep old out e) v = offer old v (rd out v) e := by
 have a := hs e.f0
 have b := hs e.f1
 unfold relStep offer
 rw [rd_setI (by omega) (by rw [List.length_set]; omega) hv, rd_setI (by omega) (by omega) (by omega), rd_setI (by omega) (by omega) hv, wrap_id (by omega) (by omega), if_neg (show ¬ e.f1 = e.f0 by omega)]
 by_cases h0 : e.f0 = v
 ·rw [if_pos h0, if_neg (by omega), if_pos h0.symm, h0]
 ·rw [if_neg h0]
  by_cases h1 : e.f1 = v
  ·rw [if_pos h1, if_pos h1.symm, wrap_id (by omega) (by omega), h1]
  ·rw [if_neg h1, if_neg (fun c => h1 (Eq.symm c)), if_neg (fun c => h0 (Eq.symm c))]
theorem relFold_at {old : List Int} (hs : sane old) (v : Int) (hv : 0 ≤ v) : ∀ (l : List S67) (out : List Int), (∀ e ∈ l, 0 ≤ e.f0 ∧ e.f0 < e.f1 ∧ e.f1 < out.length ∧ 1 ≤ e.f2 ∧ e.f2 ≤ 100) → rd (l.foldl (relStep old) out) v = l.foldl (offer old v) (rd out v)
 | [], _, _ => rfl
 | e :: l, out, h => by
  rw [List.foldl_cons, List.foldl_cons, relFold_at hs v hv l (relStep old out e) (fun x hx => by rw [relStep_len]; exact h x (List.mem_cons_of_mem _ hx)), relStep_at hs (h e (List.mem_cons_self ..)) v hv]
theorem offer_le (old : List Int) (v m : Int) (e : S67) : offer old v m e ≤ m := by
 unfold offer
 split
 ·omega
 ·split <;> omega
theorem offers_le (old : List Int) (v : Int) : ∀ (l : List S67) (m : Int), l.foldl (offer old v) m ≤ m
 | [], m => Int.le_refl m
 | e :: l, m => by
  rw [List.foldl_cons]
  have := offers_le old v l (offer old v m e)
  have := offer_le old v m e
  omega
/-- the value is what stood there, or what an edge offers -/
theorem offers_is (old : List Int) (v : Int) : ∀ (l : List S67) (m : Int), l.foldl (offer old v) m = m ∨ ∃ e ∈ l, (e.f0 = v ∧ l.foldl (offer old v) m = rd old e.f1 + e.f2) ∨ (e.f1 = v ∧ l.foldl (offer old v) m = rd old e.f0 + e.f2)
 | [], m => .inl rfl
 | e :: l, m => by
  rw [List.foldl_cons]
  rcases offers_is old v l (offer old v m e) with h | ⟨x, hx, h⟩
  ·by_cases h0 : e.f0 = v
   ·rw [show offer old v m e = min m (rd old e.f1 + e.f2) by unfold offer; rw [if_pos h0]] at h ⊢
    by_cases c : m ≤ rd old e.f1 + e.f2
    ·exact .inl (by rw [h, Int.min_eq_left c])
    ·exact .inr ⟨e, List.mem_cons_self .., .inl ⟨h0, by rw [h, Int.min_eq_right (by omega)]⟩⟩
   ·by_cases h1 : e.f1 = v
    ·rw [show offer old v m e = min m (rd old e.f0 + e.f2) by unfold offer; rw [if_neg h0, if_pos h1]] at h ⊢
     by_cases c : m ≤ rd old e.f0 + e.f2
     ·exact .inl (by rw [h, Int.min_eq_left c])
     ·exact .inr ⟨e, List.mem_cons_self .., .inr ⟨h1, by rw [h, Int.min_eq_right (by omega)]⟩⟩
    ·rw [show offer old v m e = m by unfold offer; rw [if_neg h0, if_neg h1]] at h ⊢
     exact .inl h
  ·exact .inr ⟨x, List.mem_cons_of_mem _ hx, h⟩
/-- no edge offers less -/
theorem offers_min (old : List Int) (v : Int) : ∀ (l : List S67) (m : Int), (∀ x ∈ l, x.f0 < x.f1) → ∀ e ∈ l, (e.f0 = v → l.foldl (offer old v) m ≤ rd old e.f1 + e.f2) ∧ (e.f1 = v → l.foldl (offer old v) m ≤ rd old e.f0 + e.f2)
 | [], _, _, e, he => by simp at he
 | x :: l, m, hx, e, he => by
  rw [List.foldl_cons]
  rcases List.mem_cons.1 he with rfl | he
  ·have h := offers_le old v l (offer old v m e)
   have hlt := hx e (List.mem_cons_self ..)
   constructor
   ·intro h0
    have : offer old v m e = min m (rd old e.f1 + e.f2) := by unfold offer; rw [if_pos h0]
    omega
   ·intro h1
    have : offer old v m e = min m (rd old e.f0 + e.f2) := by unfold offer; rw [if_neg (by omega), if_pos h1]
    omega
  ·exact offers_min old v l _ (fun y hy => hx y (List.mem_cons_of_mem _ hy)) e he
end Go.Proofs.Ytklecgkjoofipaa.P

namespace Go.Proofs.Ytklecgkjoofipaa.P
open Go.RowKit Go.Proofs.YtklecgkjoofipaaW.PrintWords Go.Proofs.YtklecgkjoofipaaW.PrintLast
set_option linter.unusedVariables false
set_option linter.unusedSimpArgs false
theorem erase_len_le {α : Type} [DecidableEq α] {x : α} : ∀ {M : List α}, x ∈ M → (M.erase x).length + 1 = M.length := by
 intro M h
 have := List.length_erase_of_mem h
 have h2 : 0 < M.length := List.length_pos_of_mem h
 omega
theorem nodup_le {α : Type} [DecidableEq α] : ∀ (L M : List α), L.Nodup → (∀ x ∈ L, x ∈ M) → L.length ≤ M.length
 | [], _, _, _ => Nat.zero_le _
 | x :: L, M, hn, hs => by
  have hx : x ∈ M := hs x (by simp)
  rw [List.nodup_cons] at hn
  have h := nodup_le L (M.erase x) hn.2 (fun y hy => by
   have : y ≠ x := fun e => hn.1 (e ▸ hy)
   exact (List.mem_erase_of_ne this).2 (hs y (by simp [hy])))
  have := erase_len_le hx
  simp only [List.length_cons]
  omega
end Go.Proofs.Ytklecgkjoofipaa.P

namespace Go.Proofs.Ytklecgkjoofipaa.P
open Go.RowKit Go.Proofs.YtklecgkjoofipaaW.PrintWords Go.Proofs.YtklecgkjoofipaaW.PrintLast
set_option linter.unusedVariables false
set_option linter.unusedSimpArgs false
-- as many rounds as there are nodes are enough
def fr (n : Nat) (l : List S67) (a : Int) (k : Nat) : List Int := farsIt l k (fars0 n a)
theorem farsIt_succ (l : List S67) : ∀ (k : Nat) (x : List Int), farsIt l (k + 1) x = relaxM l (farsIt l k x)
 | 0, _ => rfl
 | k + 1, x => by rw [farsIt, farsIt_succ l k (relaxM l x), farsIt]
theorem fr_succ (n : Nat) (l : List S67) (a : Int) (k : Nat) : fr n l a (k + 1) = relaxM l (fr n l a k) := farsIt_succ l k _
theorem fr_len (n : Nat) (l : List S67) (a : Int) (k : Nat) : (fr n l a k).length = n := by unfold fr; rw [farsIt_len, fars0_len]
def okE (n : Nat) (l : List S67) : Prop := ∀ e ∈ l, 0 ≤ e.f0 ∧ e.f0 < e.f1 ∧ e.f1 < n ∧ 1 ≤ e.f2 ∧ e.f2 ≤ 100
theorem rd_out {x : List Int} {v : Int} (h : (x.length : Int) ≤ v) : rd x v = 0 := by
 unfold rd
 rw [List.getD_eq_getElem?_getD, List.getElem?_eq_none (by omega)]
 rfl
theorem fars0_at (n : Nat) (a v : Int) (ha : 0 ≤ a) (ha1 : a < n) (hv : 0 ≤ v) (hv1 : v < n) : rd (fars0 n a) v = if v = a then 0 else 100000 := by
 unfold fars0
 rw [rd_setI ha (by rw [List.length_replicate]; exact ha1) hv]
 by_cases h : v = a
 ·rw [if_pos h, if_pos h]
 ·rw [if_neg h, if_neg h]
  unfold rd
  rw [List.getD_eq_getElem?_getD, List.getElem?_replicate, if_pos (by omega)]
  rfl
theorem sane_of {x : List Int} (h : ∀ v : Int, 0 ≤ v → v < x.length → 0 ≤ rd x v ∧ rd x v ≤ 100000) : sane x := by
 intro v
 by_cases hv : 0 ≤ v
 ·by_cases h1 : v < x.length
  ·exact h v hv h1
  ·rw [rd_out (by omega)]
   omega
 ·have e : rd x v = rd x 0 := by
   unfold rd
   rw [show v.toNat = (0 : Int).toNat by omega]
  rw [e]
  by_cases h1 : (0 : Int) < x.length
  ·exact h 0 (by omega) h1
  ·rw [rd_out (by omega)]
   omega
theorem fr_at (n : Nat) (l : List S67) (a : Int) (hl : okE n l) (k : Nat) (hs : sane (fr n l a k)) (v : Int) (hv : 0 ≤ v) : rd (fr n l a (k + 1)) v = l.foldl (offer (fr n l a k) v) (rd (fr n l a k) v) := by
 rw [fr_succ, relaxM, relFold_at hs v hv l _ (fun e he => by rw [fr_len]; exact hl e he)]
theorem fr_sane (n : Nat) (l : List S67) (a : Int) (hl : okE n l) (ha : 0 ≤ a) (ha1 : a < n) : ∀ k, sane (fr n l a k)
 | 0 => sane_of fun v hv hv1 => by
  rw [fr_len] at hv1
  show 0 ≤ rd (fars0 n a) v ∧ rd (fars0 n a) v ≤ 100000
  rw [fars0_at n a v ha ha1 hv hv1]
  split <;> omega
 | k + 1 => sane_of fun v hv hv1 => by
  have hs := fr_sane n l a hl ha ha1 k
  rw [fr_at n l a hl k hs v hv]
  have h1 := offers_le (fr n l a k) v l (rd (fr n l a k) v)
  have h2 := hs v
  refine ⟨?_, by omega⟩
  rcases offers_is (fr n l a k) v l (rd (fr n l a k) v) with h | ⟨e, he, h⟩
  ·omega
  ·have := hl e he
   have := hs e.f0
   have := hs e.f1
   omega
/-- an edge between two nodes, with its cost -/
def adj (l : List S67) (v u c : Int) : Prop := ∃ e ∈ l, ((e.f0 = v ∧ e.f1 = u) ∨ (e.f1 = v ∧ e.f0 = u)) ∧ e.f2 = c
theorem adj_in {n : Nat} {l : List S67} (hl : okE n l) {v u c : Int} (h : adj l v u c) : 0 ≤ v ∧ v < n ∧ 0 ≤ u ∧ u < n ∧ v ≠ u ∧ 1 ≤ c ∧ c ≤ 100 := by
 obtain ⟨e, he, h, rfl⟩ := h
 have := hl e he
 omega
theorem fr_mono (n : Nat) (l : List S67) (a : Int) (hl : okE n l) (ha : 0 ≤ a) (ha1 : a < n) (k : Nat) (v : Int) (hv : 0 ≤ v) : rd (fr n l a (k + 1)) v ≤ rd (fr n l a k) v := by
 rw [fr_at n l a hl k (fr_sane n l a hl ha ha1 k) v hv]
 exact offers_le ..
theorem fr_mono2 (n : Nat) (l : List S67) (a : Int) (hl : okE n l) (ha : 0 ≤ a) (ha1 : a < n) (v : Int) (hv : 0 ≤ v) (j : Nat) : ∀ d, rd (fr n l a (j + d)) v ≤ rd (fr n l a j) v
 | 0 => Int.le_refl _
 | d + 1 => Int.le_trans (fr_mono n l a hl ha ha1 (j + d) v hv) (fr_mono2 n l a hl ha ha1 v hv j d)
theorem fr_min (n : Nat) (l : List S67) (a : Int) (hl : okE n l) (ha : 0 ≤ a) (ha1 : a < n) (k : Nat) {v u c : Int} (h : adj l v u c) : rd (fr n l a (k + 1)) v ≤ rd (fr n l a k) u + c := by
 have hin := adj_in hl h
 rw [fr_at n l a hl k (fr_sane n l a hl ha ha1 k) v hin.1]
 obtain ⟨e, he, h, rfl⟩ := h
 have := offers_min (fr n l a k) v l (rd (fr n l a k) v) (fun x hx => (hl x hx).2.1) e he
 rcases h with ⟨h0, rfl⟩ | ⟨h0, rfl⟩
 ·exact this.1 h0
 ·exact this.2 h0
theorem fr_is (n : Nat) (l : List S67) (a : Int) (hl : okE n l) (ha : 0 ≤ a) (ha1 : a < n) (k : Nat) (v : Int) (hv : 0 ≤ v) : rd (fr n l a (k + 1)) v = rd (fr n l a k) v ∨ ∃ u c, adj l v u c ∧ rd (fr n l a (k + 1)) v = rd (fr n l a k) u + c := by
 rw [fr_at n l a hl k (fr_sane n l a hl ha ha1 k) v hv]
 rcases offers_is (fr n l a k) v l (rd (fr n l a k) v) with h | ⟨e, he, h | h⟩
 ·exact .inl h
 ·exact .inr ⟨e.f1, e.f2, ⟨e, he, .inl ⟨h.1, rfl⟩, rfl⟩, h.2⟩
 ·exact .inr ⟨e.f0, e.f2, ⟨e, he, .inr ⟨h.1, rfl⟩, rfl⟩, h.2⟩
/-- a label that still falls has a chain of falling labels behind it -/
theorem chain (n : Nat) (l : List S67) (a : Int) (hl : okE n l) (ha : 0 ≤ a) (ha1 : a < n) : ∀ (k : Nat) (v : Int), 0 ≤ v → v < n → rd (fr n l a (k + 1)) v < rd (fr n l a k) v →
  ∃ L : List Int, (v :: L).Nodup ∧ L.length = k + 1 ∧ (∀ w ∈ L, 0 ≤ w ∧ w < n) ∧ ∀ w ∈ L, ∃ j, j ≤ k ∧ rd (fr n l a j) w < rd (fr n l a (k + 1)) v := by
 intro k
 have key : ∀ (k : Nat) (v u c : Int), adj l v u c → rd (fr n l a (k + 1)) v = rd (fr n l a k) u + c → rd (fr n l a (k + 1)) v < rd (fr n l a k) v → ∀ (L : List Int), (u :: L).Nodup → L.length = k → (∀ w ∈ L, 0 ≤ w ∧ w < n) → (∀ w ∈ L, ∃ j, j ≤ k ∧ rd (fr n l a j) w < rd (fr n l a k) u) →
   ∃ L : List Int, (v :: L).Nodup ∧ L.length = k + 1 ∧ (∀ w ∈ L, 0 ≤ w ∧ w < n) ∧ ∀ w ∈ L, ∃ j, j ≤ k ∧ rd (fr n l a j) w < rd (fr n l a (k + 1)) v := by
  intro k v u c hadj he hlt L hn hlen hin hw
  have ha' := adj_in hl hadj
  have all : ∀ w ∈ u :: L, ∃ j, j ≤ k ∧ rd (fr n l a j) w < rd (fr n l a (k + 1)) v := by
   intro w hm
   rcases List.mem_cons.1 hm with rfl | hm
   ·exact ⟨k, Nat.le_refl k, by omega⟩
   ·obtain ⟨j, hj, h⟩ := hw w hm
    exact ⟨j, hj, by omega⟩
  refine ⟨u :: L, List.nodup_cons.2 ⟨fun hv => ?_, hn⟩, by rw [List.length_cons, hlen], fun w hm => ?_, all⟩
  ·obtain ⟨j, hj, h⟩ := all v hv
   have := fr_mono2 n l a hl ha ha1 v ha'.1 j (k + 1 - j)
   rw [show j + (k + 1 - j) = k + 1 by omega] at this
   omega
  ·rcases List.mem_cons.1 hm with rfl | hm
   ·exact ⟨ha'.2.2.1, ha'.2.2.2.1⟩
   ·exact hin w hm
 induction k with
 | zero =>
  intro v hv hv1 hlt
  rcases fr_is n l a hl ha ha1 0 v hv with h | ⟨u, c, hadj, he⟩
  ·omega
  ·exact key 0 v u c hadj he hlt [] (by simp) rfl (fun w hw => by simp at hw) (fun w hw => by simp at hw)
 | succ k ih =>
  intro v hv hv1 hlt
  rcases fr_is n l a hl ha ha1 (k + 1) v hv with h | ⟨u, c, hadj, he⟩
  ·omega
  ·have ha' := adj_in hl hadj
   have hu : rd (fr n l a (k + 1)) u < rd (fr n l a k) u := by
    have := fr_min n l a hl ha ha1 k hadj
    omega
   obtain ⟨L, h1, h2, h3, h4⟩ := ih u ha'.2.2.1 ha'.2.2.2.1 hu
   exact key (k + 1) v u c hadj he hlt L h1 h2 h3 (fun w hm => by obtain ⟨j, hj, h⟩ := h4 w hm; exact ⟨j, by omega, h⟩)
theorem fr_still (n : Nat) (l : List S67) (a : Int) (hl : okE n l) (ha : 0 ≤ a) (ha1 : a < n) (k : Nat) (hk : n ≤ k + 1) (v : Int) (hv : 0 ≤ v) (hv1 : v < n) : rd (fr n l a (k + 1)) v = rd (fr n l a k) v := by
 have h1 := fr_mono n l a hl ha ha1 k v hv
 by_cases h : rd (fr n l a (k + 1)) v < rd (fr n l a k) v
 ·obtain ⟨L, hn, hlen, hin, _⟩ := chain n l a hl ha ha1 k v hv hv1 h
  have := nodup_le (v :: L) (own0 n) hn (fun x hx => by
   rw [own0_mem]
   rcases List.mem_cons.1 hx with rfl | hx
   ·exact ⟨hv, hv1⟩
   ·exact hin x hx)
  rw [own0_len, List.length_cons, hlen] at this
  omega
 ·omega
theorem farsM_fr (n : Nat) (l : List S67) (a : Int) : farsM n l a = fr n l a n := rfl
/-- no edge shortens what is settled -/
theorem fars_min {n : Nat} {l : List S67} {a : Int} (hl : okE n l) (ha : 0 ≤ a) (ha1 : a < n) {v u c : Int} (h : adj l v u c) : rd (farsM n l a) v ≤ rd (farsM n l a) u + c := by
 have hin := adj_in hl h
 rw [farsM_fr, ← fr_still n l a hl ha ha1 n (by omega) v hin.1 hin.2.1]
 exact fr_min n l a hl ha ha1 n h
theorem fars_self {n : Nat} {l : List S67} {a : Int} (hl : okE n l) (ha : 0 ≤ a) (ha1 : a < n) : rd (farsM n l a) a = 0 := by
 have h := fr_mono2 n l a hl ha ha1 a ha 0 n
 rw [Nat.zero_add] at h
 have h0 : rd (fr n l a 0) a = 0 := by
  show rd (fars0 n a) a = 0
  rw [fars0_at n a a ha ha1 ha ha1, if_pos rfl]
 have := (fr_sane n l a hl ha ha1 n a).1
 rw [farsM_fr]
 omega
/-- a node that is reached has a next hop -/
theorem fars_hop {n : Nat} {l : List S67} {a : Int} (hl : okE n l) (ha : 0 ≤ a) (ha1 : a < n) {v : Int} (hv : 0 ≤ v) (hv1 : v < n) (hne : v ≠ a) (hlt : rd (farsM n l a) v < 100000) : ∃ u c, adj l v u c ∧ rd (farsM n l a) v = rd (farsM n l a) u + c := by
 have gen : ∀ k, k ≤ n → rd (fr n l a k) v = rd (farsM n l a) v → ∃ u c, adj l v u c ∧ rd (farsM n l a) v = rd (farsM n l a) u + c := by
  intro k
  induction k with
  | zero =>
   intro _ he
   have : rd (fr n l a 0) v = 100000 := by
    show rd (fars0 n a) v = 100000
    rw [fars0_at n a v ha ha1 hv hv1, if_neg hne]
   omega
  | succ k ih =>
   intro hk he
   rcases fr_is n l a hl ha ha1 k v hv with h | ⟨u, c, hadj, h⟩
   ·exact ih (by omega) (by rw [← h]; exact he)
   ·refine ⟨u, c, hadj, ?_⟩
    have h1 := fars_min hl ha ha1 hadj
    have h2 := fr_mono2 n l a hl ha ha1 u (adj_in hl hadj).2.2.1 k (n - k)
    rw [show k + (n - k) = n by omega, ← farsM_fr] at h2
    omega
 exact gen n (Nat.le_refl n) rfl
end Go.Proofs.Ytklecgkjoofipaa.P

namespace Go.Proofs.Ytklecgkjoofipaa.P
open Go.RowKit Go.Proofs.YtklecgkjoofipaaW.PrintWords Go.Proofs.YtklecgkjoofipaaW.PrintLast
set_option linter.unusedVariables false
set_option linter.unusedSimpArgs false
-- the ways of least cost: what the settled labels say of them
theorem okE_of {n : Int} {l : List S67} (h : goodE n l = true) : okE n.toNat l := fun e he => by
 have := goodE_edge h e he
 have := goodE_n h
 omega
theorem pair_uniq {α β : Type} {R : α → α → Prop} (k : α → β) (hk : ∀ x y, R x y → k x ≠ k y) : ∀ (l : List α), l.Pairwise R → ∀ x ∈ l, ∀ y ∈ l, k x = k y → x = y
 | [], _, x, hx, _, _, _ => by simp at hx
 | a :: l, h, x, hx, y, hy, e => by
  obtain ⟨h1, h2⟩ := List.pairwise_cons.1 h
  rcases List.mem_cons.1 hx with e1 | hx2
  ·rcases List.mem_cons.1 hy with e2 | hy2
   ·rw [e1, e2]
   ·subst e1
    exact absurd e (hk _ _ (h1 y hy2))
  ·rcases List.mem_cons.1 hy with e2 | hy2
   ·subst e2
    exact absurd e.symm (hk _ _ (h1 x hx2))
   ·exact pair_uniq k hk l h2 x hx2 y hy2 e
theorem adj_cost {n : Int} {l : List S67} (h : goodE n l = true) {v u c : Int} (ha : adj l v u c) : costM l v u = c := by
 obtain ⟨e, he, hv, rfl⟩ := ha
 have h1 := goodE_edge h e he
 have hat : isAt v u e = true := by
  unfold isAt
  rw [decide_eq_true_eq]
  omega
 unfold costM
 cases hf : l.find? (isAt v u) with
 | none =>
  have := List.find?_eq_none.1 hf e he
  exact absurd hat this
 | some x =>
  have hx := List.mem_of_find?_eq_some hf
  have h2 := List.find?_some hf
  unfold isAt at h2 hat
  rw [decide_eq_true_eq] at h2 hat
  have := pair_uniq (fun x : S67 => (x.f0, x.f1)) (fun x y hR he => by
   simp only [Prod.mk.injEq] at he
   omega) l (goodE_pair h) x hx e he (by simp only [Prod.mk.injEq]; omega)
  rw [this]
theorem cost_adj {n : Int} {l : List S67} (h : goodE n l = true) {v u : Int} (hc : costM l v u > 0) : adj l v u (costM l v u) := by
 unfold costM at hc ⊢
 cases hf : l.find? (isAt v u) with
 | none => rw [hf] at hc; exact absurd hc (by simp)
 | some x =>
  have hx := List.mem_of_find?_eq_some hf
  have h2 := List.find?_some hf
  unfold isAt at h2
  rw [decide_eq_true_eq] at h2
  exact ⟨x, hx, by omega, rfl⟩
theorem hops_mem {n : Int} {l : List S67} (h : goodE n l = true) {a : Int} (ha : 0 ≤ a) (ha1 : a < n) {v u : Int} (hm : u ∈ hopsGo l v (farsM n.toNat l a) (nearM n.toNat l v)) :
  0 ≤ u ∧ u < n ∧ adj l v u (costM l v u) ∧ rd (farsM n.toNat l a) v < 100000 ∧ rd (farsM n.toNat l a) v = rd (farsM n.toNat l a) u + costM l v u := by
 unfold hopsGo at hm
 obtain ⟨h1, h2⟩ := List.mem_filter.1 hm
 rw [decide_eq_true_eq] at h2
 have hin := nearM_in _ _ _ _ h1
 unfold nearM at h1
 have hc := (List.mem_filter.1 h1).2
 rw [decide_eq_true_eq] at hc
 have had := cost_adj h hc
 have h3 := adj_in (okE_of h) had
 have hs := fr_sane n.toNat l a (okE_of h) ha (by omega) n.toNat u
 rw [← farsM_fr] at hs
 rw [wrap_id (by omega) (by omega)] at h2
 exact ⟨hin.1, by omega, had, h2.1, h2.2.symm⟩
theorem hops_some {n : Int} {l : List S67} (h : goodE n l = true) {a : Int} (ha : 0 ≤ a) (ha1 : a < n) {v : Int} (hv : 0 ≤ v) (hv1 : v < n) (hne : v ≠ a) (hlt : rd (farsM n.toNat l a) v < 100000) :
  ∃ u t, hopsGo l v (farsM n.toNat l a) (nearM n.toNat l v) = u :: t := by
 obtain ⟨u, c, had, he⟩ := fars_hop (okE_of h) ha (by omega) hv (by omega) hne hlt
 have h3 := adj_in (okE_of h) had
 have hc := adj_cost h had
 have hs := fr_sane n.toNat l a (okE_of h) ha (by omega) n.toNat u
 rw [← farsM_fr] at hs
 have hm : u ∈ hopsGo l v (farsM n.toNat l a) (nearM n.toNat l v) := by
  unfold hopsGo
  refine List.mem_filter.2 ⟨?_, ?_⟩
  ·unfold nearM
   refine List.mem_filter.2 ⟨(own0_mem _ _).2 ⟨h3.2.2.1, h3.2.2.2.1⟩, ?_⟩
   rw [decide_eq_true_eq, hc]
   omega
  ·rw [decide_eq_true_eq, hc, wrap_id (by omega) (by omega)]
   exact ⟨hlt, he.symm⟩
 cases hl : hopsGo l v (farsM n.toNat l a) (nearM n.toNat l v) with
 | nil => rw [hl] at hm; simp at hm
 | cons u t => exact ⟨u, t, rfl⟩
theorem hops_far {l : List S67} {v : Int} {F q : List Int} (h : ¬ rd F v < 100000) : hopsGo l v F q = [] := by
 unfold hopsGo
 refine List.filter_eq_nil_iff.2 fun u _ => ?_
 rw [decide_eq_true_eq]
 exact fun hc => h hc.1
/-- the way on from a node, with a bound on its steps -/
def wayGo (n : Nat) (l : List S67) (F : List Int) (b : Int) : Nat → Int → List Int
 | 0, _ => []
 | d + 1, v => if v = b then [] else rd (hopsGo l v F (nearM n l v)) 0 :: wayGo n l F b d (rd (hopsGo l v F (nearM n l v)) 0)
theorem way_step {n : Int} {l : List S67} (h : goodE n l = true) {b : Int} (hb : 0 ≤ b) (hb1 : b < n) {v : Int} (hv : 0 ≤ v) (hv1 : v < n) (hne : v ≠ b) (hlt : rd (farsM n.toNat l b) v < 100000) :
  ∃ u t, hopsGo l v (farsM n.toNat l b) (nearM n.toNat l v) = u :: t ∧ 0 ≤ u ∧ u < n ∧ rd (farsM n.toNat l b) u < rd (farsM n.toNat l b) v ∧ adj l v u (costM l v u) ∧ rd (farsM n.toNat l b) v = rd (farsM n.toNat l b) u + costM l v u ∧ 0 ≤ rd (farsM n.toNat l b) u := by
 obtain ⟨u, t, e⟩ := hops_some h hb hb1 hv hv1 hne hlt
 have hm : u ∈ hopsGo l v (farsM n.toNat l b) (nearM n.toNat l v) := by rw [e]; exact List.mem_cons_self ..
 obtain ⟨h0, h1, h2, h3, h4⟩ := hops_mem h hb hb1 hm
 have h5 := adj_in (okE_of h) h2
 have hs := fr_sane n.toNat l b (okE_of h) hb (by omega) n.toNat u
 rw [← farsM_fr] at hs
 exact ⟨u, t, e, h0, h1, by omega, h2, h4, hs.1⟩
theorem fars_sane {n : Int} {l : List S67} (h : goodE n l = true) {b : Int} (hb : 0 ≤ b) (hb1 : b < n) (v : Int) : 0 ≤ rd (farsM n.toNat l b) v ∧ rd (farsM n.toNat l b) v ≤ 100000 := by
 have hs := fr_sane n.toNat l b (okE_of h) hb (by omega) n.toNat v
 rw [← farsM_fr] at hs
 exact hs
end Go.Proofs.Ytklecgkjoofipaa.P

namespace Go.Proofs.Ytklecgkjoofipaa.P
open Go.RowKit Go.Proofs.YtklecgkjoofipaaW.PrintWords Go.Proofs.YtklecgkjoofipaaW.PrintLast
set_option linter.unusedVariables false
set_option linter.unusedSimpArgs false
-- the way that the first hops make
def wayCost (l : List S67) : Int → List Int → Int
 | _, [] => 0
 | v, u :: r => costM l v u + wayCost l u r
def wayPos (l : List S67) : Int → List Int → Prop
 | _, [] => True
 | v, u :: r => costM l v u > 0 ∧ wayPos l u r
theorem rd_head (u : Int) (t : List Int) : rd (u :: t) 0 = u := rfl
theorem wayGo_at {n : Nat} {l : List S67} {F : List Int} {b : Int} (d : Nat) : wayGo n l F b (d + 1) b = [] := by rw [wayGo, if_pos rfl]
theorem wayGo_cons {n : Nat} {l : List S67} {F : List Int} {b v u : Int} {t : List Int} (d : Nat) (hne : v ≠ b) (e : hopsGo l v F (nearM n l v) = u :: t) : wayGo n l F b (d + 1) v = u :: wayGo n l F b d u := by
 rw [wayGo, if_neg hne, e, rd_head]
structure WayOk (n : Int) (l : List S67) (F : List Int) (b v : Int) (W : List Int) : Prop where
 low : ∀ w ∈ W, 0 ≤ w ∧ w < n ∧ rd F w < rd F v
 nodup : (v :: W).Nodup
 last : (v :: W).getLast? = some b
 cost : wayCost l v W = rd F v
 pos : wayPos l v W
theorem wayGo_ok {n : Int} {l : List S67} (h : goodE n l = true) {b : Int} (hb : 0 ≤ b) (hb1 : b < n) : ∀ (d : Nat) (v : Int), 0 ≤ v → v < n → rd (farsM n.toNat l b) v < 100000 → rd (farsM n.toNat l b) v ≤ d → WayOk n l (farsM n.toNat l b) b v (wayGo n.toNat l (farsM n.toNat l b) b (d + 1) v) := by
 intro d
 induction d with
 | zero =>
  intro v hv hv1 hlt hd
  by_cases hne : v = b
  ·subst hne
   rw [wayGo_at]
   exact ⟨fun w hw => by simp at hw, by simp, rfl, (fars_self (okE_of h) hv (by omega)).symm, trivial⟩
  ·obtain ⟨u, t, _, _, _, h5, _, _, h6⟩ := way_step h hb hb1 hv hv1 hne hlt
   omega
 | succ d ih =>
  intro v hv hv1 hlt hd
  by_cases hne : v = b
  ·subst hne
   rw [wayGo_at]
   exact ⟨fun w hw => by simp at hw, by simp, rfl, (fars_self (okE_of h) hv (by omega)).symm, trivial⟩
  ·obtain ⟨u, t, e, h0, h1, h5, h6, h7, _⟩ := way_step h hb hb1 hv hv1 hne hlt
   rw [wayGo_cons (d + 1) hne e]
   have r := ih u h0 h1 (by omega) (by omega)
   generalize wayGo n.toNat l (farsM n.toNat l b) b (d + 1) u = W at r
   have hlow : ∀ w ∈ u :: W, 0 ≤ w ∧ w < n ∧ rd (farsM n.toNat l b) w < rd (farsM n.toNat l b) v := by
    intro w hw
    rcases List.mem_cons.1 hw with rfl | hw
    ·exact ⟨h0, h1, h5⟩
    ·have := r.low w hw
     exact ⟨this.1, this.2.1, by omega⟩
   refine ⟨hlow, List.nodup_cons.2 ⟨fun hm => ?_, r.nodup⟩, ?_, ?_, ?_, r.pos⟩
   ·have := hlow v hm
    omega
   ·rw [List.getLast?_cons_cons]
    exact r.last
   ·rw [wayCost, r.cost, h7, Int.add_comm]
   ·have := adj_in (okE_of h) h6
    show costM l v u > 0
    omega
theorem way_len {n : Int} {l : List S67} {F : List Int} {b v : Int} {W : List Int} (hv : 0 ≤ v) (hv1 : v < n) (h : WayOk n l F b v W) : W.length + 1 ≤ n.toNat := by
 have := nodup_le (v :: W) (own0 n.toNat) h.nodup (fun x hx => by
  rw [own0_mem]
  rcases List.mem_cons.1 hx with rfl | hx
  ·omega
  ·have := h.low x hx
   omega)
 rw [own0_len, List.length_cons] at this
 exact this
end Go.Proofs.Ytklecgkjoofipaa.P

namespace Go.Proofs.Ytklecgkjoofipaa.P
open Go.RowKit Go.Proofs.YtklecgkjoofipaaW.PrintWords Go.Proofs.YtklecgkjoofipaaW.PrintLast
set_option linter.unusedVariables false
set_option linter.unusedSimpArgs false
-- the way of least cost, both sides
theorem specWay_l {n : Int} {l : List S67} (hl : l.length ≤ 1048576) (h : goodE n l = true) {a b : Int} (ha : 0 ≤ a) (ha1 : a < n) (hb : 0 ≤ b) (hb1 : b < n) : ∀ (d : Nat) (v : Int) (out : List Int), 0 ≤ v → v < n → rd (farsM n.toNat l b) v < 100000 → rd (farsM n.toNat l b) v ≤ d → out.length + d ≤ 1000000 →
  Ev (fun k => spec_WayTo.l0 k n l a b out v) (out ++ wayGo n.toNat l (farsM n.toNat l b) b (d + 1) v, rd (farsM n.toNat l b) a, true) := by
 have hn := goodE_n h
 have hend : ∀ (d : Nat) (out : List Int), Ev (fun k => spec_WayTo.l0 k n l a b out b) (out ++ wayGo n.toNat l (farsM n.toNat l b) b (d + 1) b, rd (farsM n.toNat l b) a, true) := by
  intro d out
  refine Ev.succ ?_
  simp only [spec_WayTo.l0, if_true]
  refine Ev.bind (specFars_ev n l b (by omega) (by omega) (edge3 h) hb hb1) ?_
  simp only [if_pos ha, farsM_len, if_pos (show a < ((n.toNat : Nat) : Int) by omega), wayGo_at, List.append_nil]
  exact Ev.now _
 intro d
 induction d with
 | zero =>
  intro v out hv hv1 hlt hd ho
  by_cases hne : v = b
  ·subst hne
   exact hend 0 out
  ·obtain ⟨u, t, _, _, _, h5, _, _, h6⟩ := way_step h hb hb1 hv hv1 hne hlt
   omega
 | succ d ih =>
  intro v out hv hv1 hlt hd ho
  by_cases hne : v = b
  ·subst hne
   exact hend (d + 1) out
  ·obtain ⟨u, t, e, h0, h1, h5, _, _, _⟩ := way_step h hb hb1 hv hv1 hne hlt
   have := ih u (out ++ [u]) h0 h1 (by omega) (by omega) (by rw [List.length_append, List.length_singleton]; omega)
   rw [wayGo_cons (d + 1) hne e, app_one out u]
   refine Ev.succ ?_
   simp only [spec_WayTo.l0, if_neg hne]
   refine Ev.bind (specHops_ev n l v b hl h hv hv1 hb hb1) ?_
   rw [show hopsM n.toNat l v b = u :: t from e]
   simp only [List.length_cons, rd_head, if_neg (show ¬ (((t.length + 1 : Nat) : Int) = 0) by omega), if_pos (show (0 : Int) < ((t.length + 1 : Nat) : Int) by omega), if_pos (show out.length < 17592186044416 by omega)]
   exact this
theorem implWay_l {n : Int} {l : List S67} (hl : l.length ≤ 1048576) (h : goodE n l = true) {a b : Int} (ha : 0 ≤ a) (ha1 : a < n) (hb : 0 ≤ b) (hb1 : b < n) : ∀ (d : Nat) (v : Int) (out : List Int), 0 ≤ v → v < n → rd (farsM n.toNat l b) v < 100000 → rd (farsM n.toNat l b) v ≤ d → out.length + d ≤ 1000000 →
  Ev (fun k => impl_wayTo.l0 k n l a b (farsM n.toNat l b) out v) (out ++ wayGo n.toNat l (farsM n.toNat l b) b (d + 1) v, rd (farsM n.toNat l b) a, true) := by
 have hn := goodE_n h
 have hend : ∀ (d : Nat) (out : List Int), Ev (fun k => impl_wayTo.l0 k n l a b (farsM n.toNat l b) out b) (out ++ wayGo n.toNat l (farsM n.toNat l b) b (d + 1) b, rd (farsM n.toNat l b) a, true) := by
  intro d out
  refine Ev.succ ?_
  simp only [impl_wayTo.l0, if_true, if_pos ha, farsM_len, if_pos (show a < ((n.toNat : Nat) : Int) by omega), wayGo_at, List.append_nil]
  exact Ev.now _
 intro d
 induction d with
 | zero =>
  intro v out hv hv1 hlt hd ho
  by_cases hne : v = b
  ·subst hne
   exact hend 0 out
  ·obtain ⟨u, t, _, _, _, h5, _, _, h6⟩ := way_step h hb hb1 hv hv1 hne hlt
   omega
 | succ d ih =>
  intro v out hv hv1 hlt hd ho
  by_cases hne : v = b
  ·subst hne
   exact hend (d + 1) out
  ·obtain ⟨u, t, e, h0, h1, h5, _, _, _⟩ := way_step h hb hb1 hv hv1 hne hlt
   have := ih u (out ++ [u]) h0 h1 (by omega) (by omega) (by rw [List.length_append, List.length_singleton]; omega)
   rw [wayGo_cons (d + 1) hne e, app_one out u]
   refine Ev.succ ?_
   simp only [impl_wayTo.l0, if_neg hne]
   refine Ev.bind (implHops_ev n l v b hl h hv hv1) ?_
   rw [show hopsM n.toNat l v b = u :: t from e]
   simp only [List.length_cons, rd_head, if_pos (show (0 : Int) < ((t.length + 1 : Nat) : Int) by omega), if_pos (show out.length < 17592186044416 by omega)]
   exact this
def wayList (n : Int) (l : List S67) (a b : Int) : List Int := a :: wayGo n.toNat l (farsM n.toNat l b) b ((rd (farsM n.toNat l b) a).toNat + 1) a
def wayM (n : Int) (l : List S67) (a b : Int) : List Int × Int × Bool := if two n l a b then (if rd (farsM n.toNat l b) a = 100000 then ([], 0, false) else (wayList n l a b, rd (farsM n.toNat l b) a, true)) else ([], 0, false)
theorem wayList_ok {n : Int} {l : List S67} {a b : Int} (h : two n l a b) (hf : ¬ rd (farsM n.toNat l b) a = 100000) : WayOk n l (farsM n.toNat l b) b a (wayGo n.toNat l (farsM n.toNat l b) b ((rd (farsM n.toNat l b) a).toNat + 1) a) := by
 have h' := two_lt h
 have hs := fars_sane h.1 h'.2.2.2.1 h'.2.2.2.2 a
 exact wayGo_ok h.1 h'.2.2.2.1 h'.2.2.2.2 _ a h'.2.1 h'.2.2.1 (by omega) (by omega)
theorem wayM_len (n : Int) (l : List S67) (a b : Int) : (wayM n l a b).1.length ≤ 12 := by
 unfold wayM
 split
 ·rename_i h
  have h' := two_lt h
  have hn := goodE_n h.1
  split
  ·simp
  ·rename_i hf
   have := way_len h'.2.1 h'.2.2.1 (wayList_ok h hf)
   show (wayList n l a b).length ≤ 12
   unfold wayList
   rw [List.length_cons]
   omega
 ·simp
theorem specWayTo_ev (n : Int) (l : List S67) (a b : Int) (hl : l.length ≤ 1048576) : Ev (fun k => spec_WayTo.f k n l a b) (wayM n l a b) := by
 unfold spec_WayTo.f wayM
 refine Ev.bind (specTwo_ev n l a b hl) ?_
 by_cases h : two n l a b
 ·rw [if_pos h, decide_eq_true h]
  have h' := two_lt h
  have hs := fars_sane h.1 h'.2.2.2.1 h'.2.2.2.2 a
  simp only [if_true]
  by_cases hf : rd (farsM n.toNat l b) a = 100000
  ·rw [if_pos hf]
   have hne : a ≠ b := by
    intro e
    subst e
    rw [fars_self (okE_of h.1) h'.2.1 (by omega)] at hf
    omega
   refine Ev.succ ?_
   simp only [spec_WayTo.l0, if_neg hne]
   refine Ev.bind (specHops_ev n l a b hl h.1 h'.2.1 h'.2.2.1 h'.2.2.2.1 h'.2.2.2.2) ?_
   rw [show hopsM n.toNat l a b = [] from hops_far (by omega)]
   simp only [List.length_nil, Int.ofNat_zero, if_true]
   exact Ev.now _
  ·rw [if_neg hf]
   exact specWay_l hl h.1 h'.2.1 h'.2.2.1 h'.2.2.2.1 h'.2.2.2.2 (rd (farsM n.toNat l b) a).toNat a [a] h'.2.1 h'.2.2.1 (by omega) (by omega) (by rw [List.length_singleton]; omega)
 ·rw [if_neg h, decide_eq_false h]
  simp only [Bool.false_eq_true, if_false]
  exact Ev.now _
theorem implWayTo_ev (n : Int) (l : List S67) (a b : Int) (hl : l.length ≤ 1048576) : Ev (fun k => impl_WayTo.f k n l a b) (wayM n l a b) := by
 unfold impl_WayTo.f wayM
 refine Ev.bind (goodAt2_ev n l a b hl) ?_
 by_cases h : two n l a b
 ·rw [if_pos h, decide_eq_true h]
  have h' := two_lt h
  have hn := goodE_n h.1
  have hs := fars_sane h.1 h'.2.2.2.1 h'.2.2.2.2 a
  simp only [if_true]
  have key : Ev (fun k => impl_wayTo.f k n l a b) (if rd (farsM n.toNat l b) a = 100000 then ([], 0, false) else (wayList n l a b, rd (farsM n.toNat l b) a, true)) := by
   unfold impl_wayTo.f
   refine Ev.bind (implFars_ev n l b (by omega) (by omega) (edge3 h.1) h'.2.2.2.1 h'.2.2.2.2) ?_
   simp only [if_pos h'.2.1, farsM_len, if_pos (show a < ((n.toNat : Nat) : Int) by omega)]
   by_cases hf : rd (farsM n.toNat l b) a = 100000
   ·simp only [if_pos hf]
    exact Ev.now _
   ·simp only [if_neg hf]
    exact implWay_l hl h.1 h'.2.1 h'.2.2.1 h'.2.2.2.1 h'.2.2.2.2 (rd (farsM n.toNat l b) a).toNat a [a] h'.2.1 h'.2.2.1 (by omega) (by omega) (by rw [List.length_singleton]; omega)
  refine Ev.bind key ?_
  exact Ev.now _
 ·rw [if_neg h, decide_eq_false h]
  simp only [Bool.false_eq_true, if_false]
  exact Ev.now _
end Go.Proofs.Ytklecgkjoofipaa.P

namespace Go.Proofs.Ytklecgkjoofipaa.P
open Go.RowKit Go.Proofs.YtklecgkjoofipaaW.PrintWords Go.Proofs.YtklecgkjoofipaaW.PrintLast
set_option linter.unusedVariables false
set_option linter.unusedSimpArgs false
def marksI : Nat → Int → List Int
 | 0, _ => []
 | n + 1, q => q :: marksI n (q + 1)
theorem markIntS_l (suf : List Int) : ∀ (pre : List Int) (k : Nat) (q : Int), suf.length < k → (pre.length : Int) + suf.length ≤ 1099511627776 → 0 ≤ q → q + suf.length ≤ 4611686018427387904 →
  laws_markIntS.l0 k (pre ++ suf) q (pre.length : Int) = some (q + suf.length, pre ++ marksI suf.length q) := by
 induction suf with
 | nil =>
  intro pre k q hk hb h0 h1
  obtain ⟨k, rfl⟩ : ∃ m, k = m + 1 := ⟨k - 1, by omega⟩
  simp only [laws_markIntS.l0]
  rw [if_neg (by simp)]
  simp [marksI]
 | cons x suf ih =>
  intro pre k q hk hb h0 h1
  simp only [List.length_cons] at hk hb h1
  obtain ⟨k, rfl⟩ : ∃ m, k = m + 1 := ⟨k - 1, by omega⟩
  have h := ih (pre ++ [q]) k (q + 1) (by omega) (by simp <;> omega) (by omega) (by omega)
  simp only [laws_markIntS.l0]
  rw [if_pos (by simp <;> omega), if_pos (by omega), set_mid, wrap_id (x := q + 1) (by omega) (by omega), wrap_id (x := (pre.length : Int) + 1) (by omega) (by omega)]
  rw [len_one] at h
  rw [app_one, h]
  simp only [marksI, List.length_cons, List.append_assoc, List.cons_append, List.nil_append, Option.some.injEq, Prod.mk.injEq, and_true]
  omega
theorem markIntS_ev (l : List Int) (q : Int) (hl : l.length ≤ 1099511627776) (h0 : 0 ≤ q) (h1 : q ≤ 1099511627776) : Ev (fun k => laws_markIntS.f k l q) (q + l.length, marksI l.length q) := by
 refine ⟨l.length + 1, fun k hk => ?_⟩
 show laws_markIntS.f k l q = _
 unfold laws_markIntS.f
 simpa using markIntS_l l [] k q (by omega) (by simp <;> omega) h0 (by omega)
theorem heldIntS_l (n : Nat) : ∀ (pre : List Int) (k : Nat) (q : Int), n < k → (pre.length : Int) + n ≤ 1099511627776 → 0 ≤ q → q + n ≤ 4611686018427387904 →
  laws_heldIntS.l0 k (pre ++ marksI n q) q (pre.length : Int) = some (q + n) := by
 induction n with
 | zero =>
  intro pre k q hk hb h0 h1
  obtain ⟨k, rfl⟩ : ∃ m, k = m + 1 := ⟨k - 1, by omega⟩
  simp only [laws_heldIntS.l0]
  rw [show marksI 0 q = [] from rfl, if_neg (by simp)]
  simp
 | succ n ih =>
  intro pre k q hk hb h0 h1
  obtain ⟨k, rfl⟩ : ∃ m, k = m + 1 := ⟨k - 1, by omega⟩
  have h := ih (pre ++ [q]) k (q + 1) (by omega) (by simp <;> omega) (by omega) (by omega)
  simp only [laws_heldIntS.l0]
  rw [show marksI (n + 1) q = q :: marksI n (q + 1) from rfl]
  rw [if_pos (by simp <;> omega), if_pos (by omega), rd_mid, if_pos rfl, wrap_id (x := q + 1) (by omega) (by omega), wrap_id (x := (pre.length : Int) + 1) (by omega) (by omega)]
  rw [len_one] at h
  rw [app_one, h]
  simp only [Option.some.injEq]
  omega
theorem heldIntS_ev (n : Nat) (q : Int) (hl : n ≤ 1099511627776) (h0 : 0 ≤ q) (h1 : q ≤ 1099511627776) : Ev (fun k => laws_heldIntS.f k (marksI n q) q) (q + n) := by
 refine ⟨n + 1, fun k hk => ?_⟩
 show laws_heldIntS.f k (marksI n q) q = _
 unfold laws_heldIntS.f
 exact heldIntS_l n [] k q (by omega) (by simp <;> omega) h0 (by omega)
end Go.Proofs.Ytklecgkjoofipaa.P

namespace Go.Proofs.Ytklecgkjoofipaa.P
open Go.RowKit Go.Proofs.YtklecgkjoofipaaW.PrintWords Go.Proofs.YtklecgkjoofipaaW.PrintLast
set_option linter.unusedVariables false
set_option linter.unusedSimpArgs false
def marksEdge : Nat → Int → List S67
 | 0, _ => []
 | n + 1, q => ⟨q, q + 1, q + 2⟩ :: marksEdge n (q + 3)
theorem markEdgeS_l (suf : List S67) : ∀ (pre : List S67) (k : Nat) (q : Int), suf.length < k → (pre.length : Int) + suf.length ≤ 1099511627776 → 0 ≤ q → q + 3 * suf.length ≤ 4611686018427387904 →
  laws_markEdgeS.l0 k (pre ++ suf) q (pre.length : Int) = some (q + 3 * suf.length, pre ++ marksEdge suf.length q) := by
 induction suf with
 | nil =>
  intro pre k q hk hb h0 h1
  obtain ⟨k, rfl⟩ : ∃ m, k = m + 1 := ⟨k - 1, by omega⟩
  simp only [laws_markEdgeS.l0]
  rw [if_neg (by simp)]
  simp [marksEdge]
 | cons x suf ih =>
  intro pre k q hk hb h0 h1
  simp only [List.length_cons] at hk hb h1
  obtain ⟨k, rfl⟩ : ∃ m, k = m + 1 := ⟨k - 1, by omega⟩
  have h := ih (pre ++ [⟨q, q + 1, q + 2⟩]) k (q + 3) (by omega) (by simp <;> omega) (by omega) (by omega)
  simp only [laws_markEdgeS.l0]
  rw [if_pos (by simp <;> omega), if_pos (by omega)]
  simp only [Option.bind_some, set_mid, rdEdge_mid]
  rw [wrap_id (x := q + 1) (by omega) (by omega), wrap_id (x := q + 1 + 1) (by omega) (by omega), wrap_id (x := q + 1 + 1 + 1) (by omega) (by omega), wrap_id (x := (pre.length : Int) + 1) (by omega) (by omega)]
  rw [show q + 1 + 1 = q + 2 from by omega, show q + 2 + 1 = q + 3 from by omega]
  rw [show ((pre ++ [(⟨q, q + 1, q + 2⟩ : S67)]).length : Int) = (pre.length : Int) + 1 from by simp] at h
  rw [app_one, h]
  simp only [marksEdge, List.length_cons, List.append_assoc, List.cons_append, List.nil_append, Option.some.injEq, Prod.mk.injEq, and_true]
  omega
theorem markEdgeS_ev (l : List S67) (q : Int) (hl : l.length ≤ 1099511627776) (h0 : 0 ≤ q) (h1 : q ≤ 1099511627776) : Ev (fun k => laws_markEdgeS.f k l q) (q + 3 * l.length, marksEdge l.length q) := by
 refine ⟨l.length + 1, fun k hk => ?_⟩
 show laws_markEdgeS.f k l q = _
 unfold laws_markEdgeS.f
 simpa using markEdgeS_l l [] k q (by omega) (by simp <;> omega) h0 (by omega)
end Go.Proofs.Ytklecgkjoofipaa.P

namespace Go.Proofs.Ytklecgkjoofipaa.Pure
open Go.RowKit Go.Proofs.Ytklecgkjoofipaa.P Go.Proofs.YtklecgkjoofipaaW.PrintWords Go.Proofs.YtklecgkjoofipaaW.PrintLast
set_option linter.unusedVariables false
set_option linter.unusedSimpArgs false
theorem FnExactWayTo : laws_FnExactWayTo.Pure := by
 intro a0 l a2 a3 _ ⟨hm, _⟩ _ _
 refine Ev.rounds ?_
 unfold laws_FnExactWayTo.f
 rw [szEdgeS_is l hm 1048576 (by omega) (by omega)]
 simp only [Option.bind_some]
 by_cases h : (1048576 : Int) - l.length < 0
 ·simp only [if_pos h]
  exact Ev.now _
 ·have hl : l.length ≤ 1048576 := by omega
  have hl2 : (l.map cvEdge).length ≤ 1048576 := by simpa using hl
  have hr := wayM_len a0 (l.map cvEdge) a2 a3
  simp only [if_neg h]
  refine Ev.bind (toEdgeS_ev l hl) ?_
  refine Ev.bind (specWayTo_ev a0 _ a2 a3 hl2) ?_
  refine Ev.bind (toEdgeS_ev l hl) ?_
  refine Ev.bind (implWayTo_ev a0 _ a2 a3 hl2) ?_
  have hi := implWayTo_ev a0 _ a2 a3 hl2
  generalize wayM a0 (l.map cvEdge) a2 a3 = r at hr hi
  refine Ev.bind (eqIntS_ev _ _ (by omega)) ?_
  simp only [decide_true, if_true, bne_self_eq_false]
  refine Ev.succ ?_
  simp only [laws_FnExactWayTo.j0, Bool.false_eq_true, if_false]
  refine Ev.bind (toEdgeS_ev l hl) ?_
  refine Ev.bind (eqEdgeS_ev _ _ (by omega)) ?_
  simp only [decide_true, if_true]
  refine Ev.bind (markEdgeS_ev _ 1 (by omega) (by omega) (by omega)) ?_
  simp only [if_neg (show ¬ (1 + 3 * ((l.map cvEdge).length : Int)) < 0 by omega)]
  refine Ev.bind (eqIntS_ev _ _ (by omega)) ?_
  simp only [decide_true, if_true, bne_self_eq_false]
  refine Ev.succ ?_
  simp only [laws_FnExactWayTo.j1, Bool.false_eq_true, if_false]
  refine Ev.bind (markIntS_ev _ 1 (by omega) (by omega) (by omega)) ?_
  refine Ev.bind (heldIntS_ev _ 1 (by omega) (by omega) (by omega)) ?_
  simp only [if_neg (show ¬ (1 + (r.1.length : Int)) < 0 by omega), if_true]
  refine Ev.bind (toEdgeS_ev l hl) ?_
  refine Ev.bind hi ?_
  refine Ev.bind (eqIntS_ev _ _ (by omega)) ?_
  simp only [decide_true, if_true, bne_self_eq_false]
  refine Ev.succ ?_
  simp only [laws_FnExactWayTo.j2, Bool.false_eq_true, if_false]
  refine Ev.bind (heldIntS_ev _ 1 (by omega) (by omega) (by omega)) ?_
  simp only [if_neg (show ¬ (1 + (r.1.length : Int)) < 0 by omega), if_true]
  exact Ev.now _
end Go.Proofs.Ytklecgkjoofipaa.Pure
