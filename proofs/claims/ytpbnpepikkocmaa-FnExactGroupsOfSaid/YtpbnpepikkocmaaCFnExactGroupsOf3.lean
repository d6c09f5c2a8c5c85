/- Functions, walks and plain lemmas that the law FnExactGroupsOf reaches, part 3. -/
import Derived.Test.YtpbnpepikkocmaaCFnExactGroupsOf2
import Derived.WalkKit
import Derived.ProofKit
import Derived.OpenShut
import Derived.ChangeOld
import Derived.Below
import Derived.SizedLaws
import Derived.ChangeArms
import Derived.DataElems
import Derived.Deep.Draws
import Derived.Deep.AppendLies
import Derived.Maps.AppendAt
import Derived.OwnWalk
import Derived.Laws.BytesArg
import Derived.Laws.MakeOwn
import Derived.Laws.OwnMore
import Derived.Deep.OwnRows
import Derived.Tactics
import Derived.Lib.ConvBytes
import Derived.Laws.Slices
import Derived.KernelRfl
import Derived.RowKit3
import Derived.Deep.LoopGhost
import Derived.Deep.QuietTactic
import Derived.BigQuiet
import Derived.WideLaws
import Derived.Deep.DeepCutAuto
import Derived.Deep.CutBlock
import Derived.Deep.RegionHeld3
import Derived.Laws.Rows
import Derived.Lib.AppendStr
import Derived.ArgAppend
import Derived.Laws.IdiomCopy
import Derived.OrdersHeld
import Derived.Laws.BitsLemmas
import Derived.RowKit
import Derived.WalkSpells
import Derived.Lib.SliceRun
import Derived.Shelf.Abstract
import Derived.ShutString
import Derived.Test.YtpbnpepikkocmaaWWords
import Derived.Test.YtpbnpepikkocmaaWLast
import Derived.Test.YtpbnpepikkocmaaWTab
import Derived.Test.YtpbnpepikkocmaaWApart
import Derived.Test.YtpbnpepikkocmaaWKept
import Derived.Test.YtpbnpepikkocmaaWAt
import Derived.Test.YtpbnpepikkocmaaWRepsOne
import Derived.Test.YtpbnpepikkocmaaWGuard
import Derived.Test.YtpbnpepikkocmaaWMore
namespace Go.Proofs.Ytpbnpepikkocmaa.P
open Go.RowKit Go.Proofs.YtpbnpepikkocmaaW.PrintWords Go.Proofs.YtpbnpepikkocmaaW.PrintLast Go.Proofs.YtpbnpepikkocmaaW.PrintMore
attribute [local go_sem] max2_int min2_int max_two min_two max_three min_three max_four min_four   -- for this text's walks alone
set_option linter.unusedVariables false
set_option linter.unusedSimpArgs false
mutual
def laws_FnExactGroupsOf.j0 : Nat → Int → List (S65) → List Int → Bool → List (S52) → List Int → Bool → Bool → Option (Bool)
  | 0, _, _, _, _, _, _, _, _ => none
  | k + 1, x0, x1, x6, x7, x8, x9, x10, x44 => if x44 = true then (some false) else ((laws_toEdgeS.f k x1).bind fun t244 => ((laws_eqEdgeS.f k x8 t244).bind fun t247 => (if t247 = true then ((laws_markEdgeS.f k x8 1).bind fun bt248 => (if bt248.1 < 0 then (laws_FnExactGroupsOf.j1 k x0 x1 x6 x7 x9 true) else ((laws_eqIntS.f k x9 x6).bind fun t250 => (if t250 = true then (laws_FnExactGroupsOf.j1 k x0 x1 x6 x7 x9 (x10 != x7)) else (laws_FnExactGroupsOf.j1 k x0 x1 x6 x7 x9 true))))) else (some false))))
def laws_FnExactGroupsOf.j1 : Nat → Int → List (S65) → List Int → Bool → List Int → Bool → Option (Bool)
  | 0, _, _, _, _, _, _ => none
  | k + 1, x0, x1, x6, x7, x9, x65 => if x65 = true then (some false) else ((laws_markIntS.f k x9 1).bind fun bt251 => ((laws_heldIntS.f k bt251.2 1).bind fun t253 => (if t253 < 0 then (some false) else (if t253 = bt251.1 then ((laws_toEdgeS.f k x1).bind fun t254 => ((impl_GroupsOf.f k x0 t254).bind fun bt257 => ((laws_eqIntS.f k bt257.1 x6).bind fun t261 => (if t261 = true then (laws_FnExactGroupsOf.j2 k bt251.2 bt251.1 (bt257.2 != x7)) else (laws_FnExactGroupsOf.j2 k bt251.2 bt251.1 true))))) else (some false)))))
def laws_FnExactGroupsOf.j2 : Nat → List Int → Int → Bool → Option (Bool)
  | 0, _, _, _ => none
  | k + 1, x9, x12, x92 => if x92 = true then (some false) else ((laws_heldIntS.f k x9 1).bind fun t262 => (if t262 < 0 then (some false) else (if t262 = x12 then (some true) else (some false))))
end
def laws_FnExactGroupsOf.f (k : Nat) (a0 : Int) (l1 : List (S65)) : Option (Bool) := (laws_szEdgeS.f l1 1048576).bind fun t228 => (if t228 < 0 then (some true) else ((laws_toEdgeS.f k l1).bind fun t229 => ((spec_GroupsOf.f k a0 t229).bind fun bt232 => ((laws_toEdgeS.f k l1).bind fun t236 => ((impl_GroupsOf.f k a0 t236).bind fun bt239 => ((laws_eqIntS.f k bt239.1 bt232.1).bind fun t243 => (if t243 = true then (laws_FnExactGroupsOf.j0 k a0 l1 bt232.1 bt232.2 t236 bt239.1 bt239.2 (bt239.2 != bt232.2)) else (laws_FnExactGroupsOf.j0 k a0 l1 bt232.1 bt232.2 t236 bt239.1 bt239.2 true))))))))
set_option maxHeartbeats 8000000 in
set_option maxRecDepth 100000 in
theorem laws_FnExactGroupsOf.calls (k : Nat) (a0 : Int) (A1 : Option Addr) (c1 : Nat) (l1 : List (S65)) (r : Bool) (w : World) (hr1 : Kd.C k65 w A1 l1.length l1) (hc1 : l1.length ≤ c1) (h : laws_FnExactGroupsOf.f k a0 l1 = some r) :
    Calls Try.prog 4 #[.int .i64 a0, .slice A1 l1.length c1] w fun e w' => e = .returned (.bool r) ∧ Below w.heap.size w w' := by
  have HR1 := Aside0.mk hr1
  have HC1 := Aside0.mk hc1
  clear hr1 hc1
  have HB := Aside0.mk (Below.refl w.heap.size w)
  have H : ((laws_szEdgeS.f l1 1048576).bind fun t228 => (if t228 < 0 then (some true) else ((laws_toEdgeS.f k l1).bind fun t229 => ((spec_GroupsOf.f k a0 t229).bind fun bt232 => ((laws_toEdgeS.f k l1).bind fun t236 => ((impl_GroupsOf.f k a0 t236).bind fun bt239 => ((laws_eqIntS.f k bt239.1 bt232.1).bind fun t243 => (if t243 = true then (laws_FnExactGroupsOf.j0 k a0 l1 bt232.1 bt232.2 t236 bt239.1 bt239.2 (bt239.2 != bt232.2)) else (laws_FnExactGroupsOf.j0 k a0 l1 bt232.1 bt232.2 t236 bt239.1 bt239.2 true))))))))) = some r := h
  clear h
  replace H := Option.bind_eq_some_iff.mp H
  obtain ⟨t228, A30, H⟩ := H
  replace H : (if t228 < 0 then (some true) else ((laws_toEdgeS.f k l1).bind fun t229 => ((spec_GroupsOf.f k a0 t229).bind fun bt232 => ((laws_toEdgeS.f k l1).bind fun t236 => ((impl_GroupsOf.f k a0 t236).bind fun bt239 => ((laws_eqIntS.f k bt239.1 bt232.1).bind fun t243 => (if t243 = true then (laws_FnExactGroupsOf.j0 k a0 l1 bt232.1 bt232.2 t236 bt239.1 bt239.2 (bt239.2 != bt232.2)) else (laws_FnExactGroupsOf.j0 k a0 l1 bt232.1 bt232.2 t236 bt239.1 bt239.2 true)))))))) = some r := H
  have A3 := Aside0.mk A30
  clear A30
  by_cases c4 : t228 < 0
  · rw [if_pos c4] at H
    have c4b0 : decide (t228 < 0) = true := decide_eq_true c4
    clear c4
    obtain rfl := Option.some.inj H
    go_enter Try.func4, Try.ntmps4
    go_wp2_with (first | ((with_reducible refine gate_callee (f := 10) rfl ?_); refine goesL_ (some 18) rfl rfl Try.func10 (by kernel_rfl) rfl #[.slice A1 l1.length c1, .int .i64 1048576] rfl (by (try simp only [List.map_toArray, List.map_cons, List.map_nil]); first | done | rfl | (simp only [List.length_drop, List.length_take]; rfl)) ?_; (with_reducible refine (laws_szEdgeS.calls _ _ l1 1048576 t228 _ ?side1 ?side2 A3.out).mono ?_); (case side1 => repeat (first | exact HR1.out | (with_reducible refine Kd.C_alloc ?_ _) | (with_reducible refine Kd.C_drewN ?_ _) | (with_reducible refine Kd.C_drew ?_))); (case side2 => exact HC1.out); rintro e w' ⟨rfl, ⟨nd, rfl⟩⟩; refine ⟨_, rfl, ?_⟩))
    go_ret
    exact ⟨by first | rfl | (simp [errW_none, errW_some] <;> rfl) | (simp [*, errW_none, errW_some] <;> rfl), by repeat (first | (with_reducible first | exact HB.out | apply below_alloc | apply pw_below_drewN | apply below_drew1) | exact HB.out)⟩
  · rw [if_neg c4] at H
    have c4b0 : decide (t228 < 0) = false := decide_eq_false c4
    clear c4
    replace H := Option.bind_eq_some_iff.mp H
    obtain ⟨t229, A50, H⟩ := H
    replace H : ((spec_GroupsOf.f k a0 t229).bind fun bt232 => ((laws_toEdgeS.f k l1).bind fun t236 => ((impl_GroupsOf.f k a0 t236).bind fun bt239 => ((laws_eqIntS.f k bt239.1 bt232.1).bind fun t243 => (if t243 = true then (laws_FnExactGroupsOf.j0 k a0 l1 bt232.1 bt232.2 t236 bt239.1 bt239.2 (bt239.2 != bt232.2)) else (laws_FnExactGroupsOf.j0 k a0 l1 bt232.1 bt232.2 t236 bt239.1 bt239.2 true)))))) = some r := H
    have A5 := Aside0.mk A50
    clear A50
    replace H := Option.bind_eq_some_iff.mp H
    obtain ⟨⟨t232, t233⟩, A60, H⟩ := H
    replace H : ((laws_toEdgeS.f k l1).bind fun t236 => ((impl_GroupsOf.f k a0 t236).bind fun bt239 => ((laws_eqIntS.f k bt239.1 t232).bind fun t243 => (if t243 = true then (laws_FnExactGroupsOf.j0 k a0 l1 t232 t233 t236 bt239.1 bt239.2 (bt239.2 != t233)) else (laws_FnExactGroupsOf.j0 k a0 l1 t232 t233 t236 bt239.1 bt239.2 true))))) = some r := H
    have A6 := Aside0.mk A60
    clear A60
    replace H := Option.bind_eq_some_iff.mp H
    obtain ⟨t236, A70, H⟩ := H
    replace H : ((impl_GroupsOf.f k a0 t236).bind fun bt239 => ((laws_eqIntS.f k bt239.1 t232).bind fun t243 => (if t243 = true then (laws_FnExactGroupsOf.j0 k a0 l1 t232 t233 t236 bt239.1 bt239.2 (bt239.2 != t233)) else (laws_FnExactGroupsOf.j0 k a0 l1 t232 t233 t236 bt239.1 bt239.2 true)))) = some r := H
    have A7 := Aside0.mk A70
    clear A70
    replace H := Option.bind_eq_some_iff.mp H
    obtain ⟨⟨t239, t240⟩, A80, H⟩ := H
    replace H : ((laws_eqIntS.f k t239 t232).bind fun t243 => (if t243 = true then (laws_FnExactGroupsOf.j0 k a0 l1 t232 t233 t236 t239 t240 (t240 != t233)) else (laws_FnExactGroupsOf.j0 k a0 l1 t232 t233 t236 t239 t240 true))) = some r := H
    have A8 := Aside0.mk A80
    clear A80
    have HC9 := Aside0.mk H
    clear H
    go_enter Try.func4, Try.ntmps4
    go_upto_region 8 with (first | ((with_reducible refine gate_callee (f := 10) rfl ?_); refine goesL_ (some 18) rfl rfl Try.func10 (by kernel_rfl) rfl #[.slice A1 l1.length c1, .int .i64 1048576] rfl (by (try simp only [List.map_toArray, List.map_cons, List.map_nil]); first | done | rfl | (simp only [List.length_drop, List.length_take]; rfl)) ?_; (with_reducible refine (laws_szEdgeS.calls _ _ l1 1048576 t228 _ ?side1 ?side2 A3.out).mono ?_); (case side1 => repeat (first | exact HR1.out | (with_reducible refine Kd.C_alloc ?_ _) | (with_reducible refine Kd.C_drewN ?_ _) | (with_reducible refine Kd.C_drew ?_))); (case side2 => exact HC1.out); rintro e w' ⟨rfl, ⟨nd, rfl⟩⟩; refine ⟨_, rfl, ?_⟩) | ((with_reducible refine gate_callee (f := 12) rfl ?_); refine goesL_ (some 24) rfl rfl Try.func12 (by kernel_rfl) rfl #[.slice A1 l1.length c1] rfl (by (try simp only [List.map_toArray, List.map_cons, List.map_nil]); first | done | rfl | (simp only [List.length_drop, List.length_take]; rfl)) ?_; (with_reducible refine (laws_toEdgeS.calls k _ _ l1 t229 _ ?side1 ?side2 A5.out).mono ?_); (case side1 => repeat (first | exact HR1.out | (with_reducible refine Kd.C_alloc ?_ _) | (with_reducible refine Kd.C_drewN ?_ _) | (with_reducible refine Kd.C_drew ?_))); (case side2 => exact HC1.out); rintro e w10 ⟨v230, rfl, ho0, hb⟩; refine ⟨_, rfl, ?_⟩; have n0_ := Aside0.mk (Kd.R_lower ho0 (below_size (by repeat (first | (with_reducible first | exact HB.out | apply below_alloc | apply pw_below_drewN | apply below_drew1) | exact HB.out)))); have n1_ := Aside0.mk (below_step (by repeat (first | (with_reducible first | exact HB.out | apply below_alloc | apply pw_below_drewN | apply below_drew1) | exact HB.out)) hb); clear HB; have HO231 := n0_; have HB := n1_; clear n0_ n1_; (try clear hb); (try clear hb2); (try clear hk); (try clear hi); (try clear ho0); obtain ⟨Ao11, co11, eo11⟩ := Kd.R_slice HO231.out; subst eo11) | ((with_reducible refine gate_callee (f := 15) rfl ?_); refine goesL_ (some 25) rfl rfl Try.func15 (by kernel_rfl) rfl #[.int .i64 a0, .slice Ao11 t229.length co11] rfl (by (try simp only [List.map_toArray, List.map_cons, List.map_nil]); first | done | rfl | (simp only [List.length_drop, List.length_take]; rfl)) ?_; (with_reducible refine (spec_GroupsOf.calls k a0 _ _ t229 t232 t233 _ ?side1 ?side2 A6.out).mono ?_); (case side1 => repeat (first | exact (Kd.R_reads' HO231.out).2.2 | (with_reducible refine Kd.C_alloc ?_ _) | (with_reducible refine Kd.C_drewN ?_ _) | (with_reducible refine Kd.C_drew ?_))); (case side2 => exact (Kd.R_reads' HO231.out).2.1); rintro e w12 ⟨v234, rfl, ho0, hb⟩; refine ⟨_, rfl, ?_⟩; have n0_ := Aside0.mk (Kd.R_below (by (with_reducible repeat (first | apply Kd.R_alloc | apply Kd.R_drewN | apply Kd.R_drew)); exact HO231.out) hb); have n1_ := Aside0.mk (Kd.R_lower ho0 (below_size (by repeat (first | (with_reducible first | exact HB.out | apply below_alloc | apply pw_below_drewN | apply below_drew1) | exact HB.out)))); have n2_ := Aside0.mk (below_step (by repeat (first | (with_reducible first | exact HB.out | apply below_alloc | apply pw_below_drewN | apply below_drew1) | exact HB.out)) hb); clear HO231; clear HB; have HO231 := n0_; have HO235 := n1_; have HB := n2_; clear n0_ n1_ n2_; (try clear hb); (try clear hb2); (try clear hk); (try clear hi); (try clear ho0)) | ((with_reducible refine gate_callee (f := 12) rfl ?_); refine goesL_ (some 29) rfl rfl Try.func12 (by kernel_rfl) rfl #[.slice A1 l1.length c1] rfl (by (try simp only [List.map_toArray, List.map_cons, List.map_nil]); first | done | rfl | (simp only [List.length_drop, List.length_take]; rfl)) ?_; (with_reducible refine (laws_toEdgeS.calls k _ _ l1 t236 _ ?side1 ?side2 A7.out).mono ?_); (case side1 => repeat (first | exact (Kd.C_below HR1.out HB.out) | (with_reducible refine Kd.C_alloc ?_ _) | (with_reducible refine Kd.C_drewN ?_ _) | (with_reducible refine Kd.C_drew ?_))); (case side2 => exact HC1.out); rintro e w13 ⟨v237, rfl, ho0, hb⟩; refine ⟨_, rfl, ?_⟩; have n0_ := Aside0.mk (Kd.R_elder' (by (with_reducible repeat (first | apply Kd.R_alloc | apply Kd.R_drewN | apply Kd.R_drew)); exact HO231.out) (Kd.R_base ho0) hb); have n1_ := Aside0.mk (Kd.R_below (by (with_reducible repeat (first | apply Kd.R_alloc | apply Kd.R_drewN | apply Kd.R_drew)); exact HO235.out) hb); have n2_ := Aside0.mk (Kd.R_lower (Kd.R_new' ho0 (Kd.R_lt (by (with_reducible repeat (first | apply Kd.R_alloc | apply Kd.R_drewN | apply Kd.R_drew)); exact HO231.out))) (below_size (by repeat (first | (with_reducible first | exact HB.out | apply below_alloc | apply pw_below_drewN | apply below_drew1) | exact HB.out)))); have n3_ := Aside0.mk (below_step (by repeat (first | (with_reducible first | exact HB.out | apply below_alloc | apply pw_below_drewN | apply below_drew1) | exact HB.out)) hb); clear HO231; clear HO235; clear HB; have HO231 := n0_; have HO235 := n1_; have HO238 := n2_; have HB := n3_; clear n0_ n1_ n2_ n3_; (try clear hb); (try clear hb2); (try clear hk); (try clear hi); (try clear ho0); obtain ⟨Ao14, co14, eo14⟩ := Kd.R_slice HO238.out; subst eo14) | ((with_reducible refine gate_callee (f := 16) rfl ?_); refine goesL_ (some 33) rfl rfl Try.func16 (by kernel_rfl) rfl #[.int .i64 a0, .slice Ao14 t236.length co14] rfl (by (try simp only [List.map_toArray, List.map_cons, List.map_nil]); first | done | rfl | (simp only [List.length_drop, List.length_take]; rfl)) ?_; (with_reducible refine (impl_GroupsOf.calls k a0 _ _ t236 t239 t240 _ ?side1 ?side2 A8.out).mono ?_); (case side1 => repeat (first | exact (Kd.R_reads' HO238.out).2.2 | (with_reducible refine Kd.C_alloc ?_ _) | (with_reducible refine Kd.C_drewN ?_ _) | (with_reducible refine Kd.C_drew ?_))); (case side2 => exact (Kd.R_reads' HO238.out).2.1); rintro e w15 ⟨v241, rfl, ho0, hb⟩; refine ⟨_, rfl, ?_⟩; have n0_ := Aside0.mk (Kd.R_below (by (with_reducible repeat (first | apply Kd.R_alloc | apply Kd.R_drewN | apply Kd.R_drew)); exact HO231.out) hb); have n1_ := Aside0.mk (Kd.R_elder' (by (with_reducible repeat (first | apply Kd.R_alloc | apply Kd.R_drewN | apply Kd.R_drew)); exact HO235.out) (Kd.R_base ho0) hb); have n2_ := Aside0.mk (Kd.R_below (by (with_reducible repeat (first | apply Kd.R_alloc | apply Kd.R_drewN | apply Kd.R_drew)); exact HO238.out) hb); have n3_ := Aside0.mk (Kd.R_lower (Kd.R_new' ho0 (Kd.R_lt (by (with_reducible repeat (first | apply Kd.R_alloc | apply Kd.R_drewN | apply Kd.R_drew)); exact HO235.out))) (below_size (by repeat (first | (with_reducible first | exact HB.out | apply below_alloc | apply pw_below_drewN | apply below_drew1) | exact HB.out)))); have n4_ := Aside0.mk (below_step (by repeat (first | (with_reducible first | exact HB.out | apply below_alloc | apply pw_below_drewN | apply below_drew1) | exact HB.out)) hb); clear HO231; clear HO235; clear HO238; clear HB; have HO231 := n0_; have HO235 := n1_; have HO238 := n2_; have HO242 := n3_; have HB := n4_; clear n0_ n1_ n2_ n3_ n4_; (try clear hb); (try clear hb2); (try clear hk); (try clear hi); (try clear ho0)))
    (try simp only [Act.put, List.setIfInBounds_toArray, List.set_cons_zero, List.set_cons_succ])
    go_cut [44] (fun v44 wc => ∃ (kq : Nat) (x44_8 : Bool), v44 = .bool x44_8 ∧ Aside0 (laws_FnExactGroupsOf.j0 kq a0 l1 t232 t233 t236 t239 t240 x44_8 = some r) ∧ Aside0 (kq ≤ k) ∧ Aside0 (Kd.R (Kd.int .i64) 3 wc w.heap.size (fun k_ => some k_ ≠ (v241 : Value).ownBlock) v234 t232) ∧ Aside0 (Kd.R k52 52 wc w.heap.size (fun _ => True) (.slice Ao14 t236.length co14) t236) ∧ Aside0 (Kd.R (Kd.int .i64) 3 wc w.heap.size (fun k_ => some k_ ≠ (v234 : Value).ownBlock) v241 t239) ∧ Aside0 (Below w.heap.size w wc))
    case first =>
      have H := HC9.out
      clear HC9
      replace H := Option.bind_eq_some_iff.mp H
      obtain ⟨t243, A160, H⟩ := H
      replace H : (if t243 = true then (laws_FnExactGroupsOf.j0 k a0 l1 t232 t233 t236 t239 t240 (t240 != t233)) else (laws_FnExactGroupsOf.j0 k a0 l1 t232 t233 t236 t239 t240 true)) = some r := H
      have A16 := Aside0.mk A160
      clear A160
      by_cases c17 : t243 = true
      · subst c17
        have H1 : (laws_FnExactGroupsOf.j0 k a0 l1 t232 t233 t236 t239 t240 (t240 != t233)) = some r := by rw [if_pos rfl] at H; exact H
        clear H
        have H := H1
        clear H1
        have H' := Aside0.mk H
        clear H
        obtain ⟨Ao18, co18, eo18⟩ := Kd.R_slice HO242.out
        subst eo18
        obtain ⟨Ao19, co19, eo19⟩ := Kd.R_slice HO235.out
        subst eo19
        go_wp2_with (first | ((with_reducible refine gate_callee (f := 17) rfl ?_); refine goesL_ (some 38) rfl rfl Try.func17 (by kernel_rfl) rfl #[.slice Ao18 t239.length co18, .slice Ao19 t232.length co19] rfl (by (try simp only [List.map_toArray, List.map_cons, List.map_nil]); first | done | rfl | (simp only [List.length_drop, List.length_take]; rfl)) ?_; (with_reducible refine (laws_eqIntS.calls k _ _ t239 _ _ t232 true _ ?side1 ?side2 ?side3 ?side4 A16.out).mono ?_); (case side1 => repeat (first | exact (Kd.R_reads' HO242.out).2.2 | (with_reducible refine Kd.C_alloc ?_ _) | (with_reducible refine Kd.C_drewN ?_ _) | (with_reducible refine Kd.C_drew ?_))); (case side2 => exact (Kd.R_reads' HO242.out).2.1); (case side3 => repeat (first | exact (Kd.R_reads' HO235.out).2.2 | (with_reducible refine Kd.C_alloc ?_ _) | (with_reducible refine Kd.C_drewN ?_ _) | (with_reducible refine Kd.C_drew ?_))); (case side4 => exact (Kd.R_reads' HO235.out).2.1); rintro e w' ⟨rfl, ⟨nd, rfl⟩⟩; refine ⟨_, rfl, ?_⟩))
        go_meet
        case rel => exact ⟨_, ((t240 != t233)), (by first | rfl | (simp; done) | (simp [*]; done)), H', ⟨by first | omega | exact Nat.le_refl _⟩, ⟨by (with_reducible repeat (first | apply Kd.R_alloc | apply Kd.R_drewN | apply Kd.R_drew)); exact Kd.R_mono HO235.out (fun _ hk => hk.2)⟩, ⟨by (with_reducible repeat (first | apply Kd.R_alloc | apply Kd.R_drewN | apply Kd.R_drew)); exact Kd.R_mono HO238.out (fun _ hk => trivial)⟩, ⟨by (with_reducible repeat (first | apply Kd.R_alloc | apply Kd.R_drewN | apply Kd.R_drew)); exact Kd.R_mono HO242.out (fun _ hk => hk.2)⟩, ⟨by repeat (first | (with_reducible first | exact HB.out | apply below_alloc | apply pw_below_drewN | apply below_drew1) | exact HB.out)⟩⟩
      · replace c17 := Bool.eq_false_iff.mpr c17
        subst c17
        have H1 : (laws_FnExactGroupsOf.j0 k a0 l1 t232 t233 t236 t239 t240 true) = some r := by rw [if_neg (show ¬ (false = true) by decide)] at H; exact H
        clear H
        have H := H1
        clear H1
        have H' := Aside0.mk H
        clear H
        obtain ⟨Ao20, co20, eo20⟩ := Kd.R_slice HO242.out
        subst eo20
        obtain ⟨Ao21, co21, eo21⟩ := Kd.R_slice HO235.out
        subst eo21
        go_wp2_with (first | ((with_reducible refine gate_callee (f := 17) rfl ?_); refine goesL_ (some 38) rfl rfl Try.func17 (by kernel_rfl) rfl #[.slice Ao20 t239.length co20, .slice Ao21 t232.length co21] rfl (by (try simp only [List.map_toArray, List.map_cons, List.map_nil]); first | done | rfl | (simp only [List.length_drop, List.length_take]; rfl)) ?_; (with_reducible refine (laws_eqIntS.calls k _ _ t239 _ _ t232 false _ ?side1 ?side2 ?side3 ?side4 A16.out).mono ?_); (case side1 => repeat (first | exact (Kd.R_reads' HO242.out).2.2 | (with_reducible refine Kd.C_alloc ?_ _) | (with_reducible refine Kd.C_drewN ?_ _) | (with_reducible refine Kd.C_drew ?_))); (case side2 => exact (Kd.R_reads' HO242.out).2.1); (case side3 => repeat (first | exact (Kd.R_reads' HO235.out).2.2 | (with_reducible refine Kd.C_alloc ?_ _) | (with_reducible refine Kd.C_drewN ?_ _) | (with_reducible refine Kd.C_drew ?_))); (case side4 => exact (Kd.R_reads' HO235.out).2.1); rintro e w' ⟨rfl, ⟨nd, rfl⟩⟩; refine ⟨_, rfl, ?_⟩))
        go_meet
        case rel => exact ⟨_, (true), (by first | rfl | (simp; done) | (simp [*]; done)), H', ⟨by first | omega | exact Nat.le_refl _⟩, ⟨by (with_reducible repeat (first | apply Kd.R_alloc | apply Kd.R_drewN | apply Kd.R_drew)); exact Kd.R_mono HO235.out (fun _ hk => hk.2)⟩, ⟨by (with_reducible repeat (first | apply Kd.R_alloc | apply Kd.R_drewN | apply Kd.R_drew)); exact Kd.R_mono HO238.out (fun _ hk => trivial)⟩, ⟨by (with_reducible repeat (first | apply Kd.R_alloc | apply Kd.R_drewN | apply Kd.R_drew)); exact Kd.R_mono HO242.out (fun _ hk => hk.2)⟩, ⟨by repeat (first | (with_reducible first | exact HB.out | apply below_alloc | apply pw_below_drewN | apply below_drew1) | exact HB.out)⟩⟩
    case rest =>
      clear HC9
      try clear c1
      try clear p2
      try clear c4
      try clear c4b0
      try clear c10
      try clear c12
      try clear c15
      try clear c16
      try clear c17
      obtain ⟨kq, x44_8, rfl, HA, HJ8, HO_6, HO_8, HO_9, HB⟩ := hcut
      cases kq with
      | zero => exact absurd HA.out (by simp [laws_FnExactGroupsOf.j0])
      | succ kj8 =>
        have H := HA.out
        clear HA
        simp only [laws_FnExactGroupsOf.j0] at H
        by_cases c22 : x44_8 = true
        · subst c22
          have H1 : (some false) = some r := by rw [if_pos rfl] at H; exact H
          clear H
          have H := H1
          clear H1
          obtain rfl := Option.some.inj H
          go_wp2
          go_ret
          exact ⟨by first | rfl | (simp [errW_none, errW_some] <;> rfl) | (simp [*, errW_none, errW_some] <;> rfl), by repeat (first | (with_reducible first | exact HB.out | apply below_alloc | apply pw_below_drewN | apply below_drew1) | exact HB.out)⟩
        · replace c22 := Bool.eq_false_iff.mpr c22
          subst c22
          have H1 : ((laws_toEdgeS.f kj8 l1).bind fun t244 => ((laws_eqEdgeS.f kj8 t236 t244).bind fun t247 => (if t247 = true then ((laws_markEdgeS.f kj8 t236 1).bind fun bt248 => (if bt248.1 < 0 then (laws_FnExactGroupsOf.j1 kj8 a0 l1 t232 t233 t239 true) else ((laws_eqIntS.f kj8 t239 t232).bind fun t250 => (if t250 = true then (laws_FnExactGroupsOf.j1 kj8 a0 l1 t232 t233 t239 (t240 != t233)) else (laws_FnExactGroupsOf.j1 kj8 a0 l1 t232 t233 t239 true))))) else (some false)))) = some r := by rw [if_neg (show ¬ (false = true) by decide)] at H; exact H
          clear H
          have H := H1
          clear H1
          replace H := Option.bind_eq_some_iff.mp H
          obtain ⟨t244, A230, H⟩ := H
          replace H : ((laws_eqEdgeS.f kj8 t236 t244).bind fun t247 => (if t247 = true then ((laws_markEdgeS.f kj8 t236 1).bind fun bt248 => (if bt248.1 < 0 then (laws_FnExactGroupsOf.j1 kj8 a0 l1 t232 t233 t239 true) else ((laws_eqIntS.f kj8 t239 t232).bind fun t250 => (if t250 = true then (laws_FnExactGroupsOf.j1 kj8 a0 l1 t232 t233 t239 (t240 != t233)) else (laws_FnExactGroupsOf.j1 kj8 a0 l1 t232 t233 t239 true))))) else (some false))) = some r := H
          have A23 := Aside0.mk A230
          clear A230
          replace H := Option.bind_eq_some_iff.mp H
          obtain ⟨t247, A240, H⟩ := H
          replace H : (if t247 = true then ((laws_markEdgeS.f kj8 t236 1).bind fun bt248 => (if bt248.1 < 0 then (laws_FnExactGroupsOf.j1 kj8 a0 l1 t232 t233 t239 true) else ((laws_eqIntS.f kj8 t239 t232).bind fun t250 => (if t250 = true then (laws_FnExactGroupsOf.j1 kj8 a0 l1 t232 t233 t239 (t240 != t233)) else (laws_FnExactGroupsOf.j1 kj8 a0 l1 t232 t233 t239 true))))) else (some false)) = some r := H
          have A24 := Aside0.mk A240
          clear A240
          by_cases c25 : t247 = true
          · subst c25
            have H1 : ((laws_markEdgeS.f kj8 t236 1).bind fun bt248 => (if bt248.1 < 0 then (laws_FnExactGroupsOf.j1 kj8 a0 l1 t232 t233 t239 true) else ((laws_eqIntS.f kj8 t239 t232).bind fun t250 => (if t250 = true then (laws_FnExactGroupsOf.j1 kj8 a0 l1 t232 t233 t239 (t240 != t233)) else (laws_FnExactGroupsOf.j1 kj8 a0 l1 t232 t233 t239 true))))) = some r := by rw [if_pos rfl] at H; exact H
            clear H
            have H := H1
            clear H1
            replace H := Option.bind_eq_some_iff.mp H
            obtain ⟨⟨t248, t249⟩, A260, H⟩ := H
            replace H : (if t248 < 0 then (laws_FnExactGroupsOf.j1 kj8 a0 l1 t232 t233 t239 true) else ((laws_eqIntS.f kj8 t239 t232).bind fun t250 => (if t250 = true then (laws_FnExactGroupsOf.j1 kj8 a0 l1 t232 t233 t239 (t240 != t233)) else (laws_FnExactGroupsOf.j1 kj8 a0 l1 t232 t233 t239 true)))) = some r := H
            have A26 := Aside0.mk A260
            clear A260
            have HC27 := Aside0.mk H
            clear H
            go_upto_region 14 with (first | ((with_reducible refine gate_callee (f := 12) rfl ?_); refine goesL_ (some 47) rfl rfl Try.func12 (by kernel_rfl) rfl #[.slice A1 l1.length c1] rfl (by (try simp only [List.map_toArray, List.map_cons, List.map_nil]); first | done | rfl | (simp only [List.length_drop, List.length_take]; rfl)) ?_; (with_reducible refine (laws_toEdgeS.calls kj8 _ _ l1 t244 _ ?side1 ?side2 A23.out).mono ?_); (case side1 => repeat (first | exact (Kd.C_below HR1.out HB.out) | (with_reducible refine Kd.C_alloc ?_ _) | (with_reducible refine Kd.C_drewN ?_ _) | (with_reducible refine Kd.C_drew ?_))); (case side2 => exact HC1.out); rintro e w28 ⟨v245, rfl, ho0, hb⟩; refine ⟨_, rfl, ?_⟩; have n0_ := Aside0.mk (Kd.R_below (by (with_reducible repeat (first | apply Kd.R_alloc | apply Kd.R_drewN | apply Kd.R_drew)); exact HO_6.out) hb); have n1_ := Aside0.mk (Kd.R_elder' (by (with_reducible repeat (first | apply Kd.R_alloc | apply Kd.R_drewN | apply Kd.R_drew)); exact HO_8.out) (Kd.R_base ho0) hb); have n2_ := Aside0.mk (Kd.R_below (by (with_reducible repeat (first | apply Kd.R_alloc | apply Kd.R_drewN | apply Kd.R_drew)); exact HO_9.out) hb); have n3_ := Aside0.mk (Kd.R_lower (Kd.R_new' ho0 (Kd.R_lt (by (with_reducible repeat (first | apply Kd.R_alloc | apply Kd.R_drewN | apply Kd.R_drew)); exact HO_8.out))) (below_size (by repeat (first | (with_reducible first | exact HB.out | apply below_alloc | apply pw_below_drewN | apply below_drew1) | exact HB.out)))); have n4_ := Aside0.mk (below_step (by repeat (first | (with_reducible first | exact HB.out | apply below_alloc | apply pw_below_drewN | apply below_drew1) | exact HB.out)) hb); clear HO_6; clear HO_8; clear HO_9; clear HB; have HO_6 := n0_; have HO_8 := n1_; have HO_9 := n2_; have HO246 := n3_; have HB := n4_; clear n0_ n1_ n2_ n3_ n4_; (try clear hb); (try clear hb2); (try clear hk); (try clear hi); (try clear ho0); obtain ⟨Ao29, co29, eo29⟩ := Kd.R_slice HO246.out; subst eo29) | ((with_reducible refine gate_callee (f := 14) rfl ?_); refine goesL_ (some 48) rfl rfl Try.func14 (by kernel_rfl) rfl #[.slice Ao14 t236.length co14, .slice Ao29 t244.length co29] rfl (by (try simp only [List.map_toArray, List.map_cons, List.map_nil]); first | done | rfl | (simp only [List.length_drop, List.length_take]; rfl)) ?_; (with_reducible refine (laws_eqEdgeS.calls kj8 _ _ t236 _ _ t244 true _ ?side1 ?side2 ?side3 ?side4 A24.out).mono ?_); (case side1 => repeat (first | exact (Kd.R_reads' HO_8.out).2.2 | (with_reducible refine Kd.C_alloc ?_ _) | (with_reducible refine Kd.C_drewN ?_ _) | (with_reducible refine Kd.C_drew ?_))); (case side2 => exact (Kd.R_reads' HO_8.out).2.1); (case side3 => repeat (first | exact (Kd.R_reads' HO246.out).2.2 | (with_reducible refine Kd.C_alloc ?_ _) | (with_reducible refine Kd.C_drewN ?_ _) | (with_reducible refine Kd.C_drew ?_))); (case side4 => exact (Kd.R_reads' HO246.out).2.1); rintro e w30 ⟨rfl, hb⟩; refine ⟨_, rfl, ?_⟩; have n0_ := Aside0.mk (Kd.R_below (by (with_reducible repeat (first | apply Kd.R_alloc | apply Kd.R_drewN | apply Kd.R_drew)); exact HO_6.out) hb); have n1_ := Aside0.mk (Kd.R_below (by (with_reducible repeat (first | apply Kd.R_alloc | apply Kd.R_drewN | apply Kd.R_drew)); exact HO_8.out) hb); have n2_ := Aside0.mk (Kd.R_below (by (with_reducible repeat (first | apply Kd.R_alloc | apply Kd.R_drewN | apply Kd.R_drew)); exact HO_9.out) hb); have n3_ := Aside0.mk (Kd.R_below (by (with_reducible repeat (first | apply Kd.R_alloc | apply Kd.R_drewN | apply Kd.R_drew)); exact HO246.out) hb); have n4_ := Aside0.mk (below_step (by repeat (first | (with_reducible first | exact HB.out | apply below_alloc | apply pw_below_drewN | apply below_drew1) | exact HB.out)) hb); clear HO_6; clear HO_8; clear HO_9; clear HO246; clear HB; have HO_6 := n0_; have HO_8 := n1_; have HO_9 := n2_; have HO246 := n3_; have HB := n4_; clear n0_ n1_ n2_ n3_ n4_; (try clear hb); (try clear hb2); (try clear hk); (try clear hi)) | ((with_reducible refine gate_callee (f := 18) rfl ?_); refine goesL_ (some 52) rfl rfl Try.func18 (by kernel_rfl) rfl #[.slice Ao14 t236.length co14, .int .i64 1] rfl (by (try simp only [List.map_toArray, List.map_cons, List.map_nil]); first | done | rfl | (simp only [List.length_drop, List.length_take]; rfl)) ?_; (with_reducible refine (laws_markEdgeS.calls kj8 (fun k_ => some k_ = (.slice Ao14 t236.length co14 : Value).ownBlock) (.slice Ao14 t236.length co14) t236 1 t248 t249 w _ ?side1 ?side2 A26.out).mono ?_); (case side1 => repeat (first | (with_reducible first | exact HB.out | apply below_alloc | apply pw_below_drewN | apply below_drew1) | exact HB.out)); (case side2 => exact Kd.R_tight rfl HO_8.out); rintro e w31 ⟨rfl, hy0, hb, hkp⟩; refine ⟨_, rfl, ?_⟩; have n0_ := Aside0.mk (Kd.R_mono (ok' := fun k_ => some k_ ≠ (v241 : Value).ownBlock) (Kd.R_keptB ((Kd.R_apart' HO_6.out (Kd.R_typed HO_8.out) (by decide))) hkp (fun k_ hk_ hs_ => (hk_.2) hs_)) (fun k_ hk_ => hk_.1.1)); have n1_ := Aside0.mk (Kd.R_reok rfl hy0 (fun k_ e_ => HO_8.out.1 k_ e_)); have n2_ := Aside0.mk (Kd.R_mono (ok' := fun k_ => some k_ ≠ (v234 : Value).ownBlock) (Kd.R_keptB ((Kd.R_apart' HO_9.out (Kd.R_typed HO_8.out) (by decide))) hkp (fun k_ hk_ hs_ => (hk_.2) hs_)) (fun k_ hk_ => hk_.1.1)); have n3_ := Aside0.mk (Kd.R_mono (ok' := fun k_ => some k_ ≠ (.slice Ao14 t236.length co14 : Value).ownBlock) (Kd.R_keptB (HO246.out) hkp (fun k_ hk_ hs_ => (hk_.2) hs_)) (fun k_ hk_ => hk_.1.2)); have n4_ := Aside0.mk (hb); clear HO_6; clear HO_8; clear HO_9; clear HO246; clear HB; have HO_6 := n0_; have HO_8 := n1_; have HO_9 := n2_; have HO246 := n3_; have HB := n4_; clear n0_ n1_ n2_ n3_ n4_; (try clear hb); (try clear hkp); (try clear hy0)))
            (try simp only [Act.put, List.setIfInBounds_toArray, List.set_cons_zero, List.set_cons_succ])
            go_cut [65] (fun v65 wc => ∃ (kq : Nat) (x65_26 : Bool), v65 = .bool x65_26 ∧ Aside0 (laws_FnExactGroupsOf.j1 kq a0 l1 t232 t233 t239 x65_26 = some r) ∧ Aside0 (kq ≤ kj8) ∧ Aside0 (Kd.R (Kd.int .i64) 3 wc w.heap.size (fun k_ => some k_ ≠ (v241 : Value).ownBlock) v234 t232) ∧ Aside0 (Kd.R (Kd.int .i64) 3 wc w.heap.size (fun k_ => some k_ ≠ (v234 : Value).ownBlock) v241 t239) ∧ Aside0 (Below w.heap.size w wc))
            case first =>
              have H := HC27.out
              clear HC27
              by_cases c32 : t248 < 0
              · rw [if_pos c32] at H
                have c32b0 : decide (t248 < 0) = true := decide_eq_true c32
                clear c32
                (first | rw [c32b0] | (simp only [i64_w, i32_w]; rw [c32b0]) | skip)
                have H' := Aside0.mk H
                clear H
                go_wp2
                go_meet
                case rel => exact ⟨_, (true), (by first | rfl | (simp; done) | (simp [*]; done)), H', ⟨by have := HJ8.out; first | omega | exact Nat.le_refl _⟩, ⟨by (with_reducible repeat (first | apply Kd.R_alloc | apply Kd.R_drewN | apply Kd.R_drew)); exact HO_6.out⟩, ⟨by (with_reducible repeat (first | apply Kd.R_alloc | apply Kd.R_drewN | apply Kd.R_drew)); exact HO_9.out⟩, ⟨by repeat (first | (with_reducible first | exact HB.out | apply below_alloc | apply pw_below_drewN | apply below_drew1) | exact HB.out)⟩⟩
              · rw [if_neg c32] at H
                have c32b0 : decide (t248 < 0) = false := decide_eq_false c32
                clear c32
                (first | rw [c32b0] | (simp only [i64_w, i32_w]; rw [c32b0]) | skip)
                replace H := Option.bind_eq_some_iff.mp H
                obtain ⟨t250, A330, H⟩ := H
                replace H : (if t250 = true then (laws_FnExactGroupsOf.j1 kj8 a0 l1 t232 t233 t239 (t240 != t233)) else (laws_FnExactGroupsOf.j1 kj8 a0 l1 t232 t233 t239 true)) = some r := H
                have A33 := Aside0.mk A330
                clear A330
                by_cases c34 : t250 = true
                · subst c34
                  have H1 : (laws_FnExactGroupsOf.j1 kj8 a0 l1 t232 t233 t239 (t240 != t233)) = some r := by rw [if_pos rfl] at H; exact H
                  clear H
                  have H := H1
                  clear H1
                  have H' := Aside0.mk H
                  clear H
                  obtain ⟨Ao35, co35, eo35⟩ := Kd.R_slice HO_9.out
                  subst eo35
                  obtain ⟨Ao36, co36, eo36⟩ := Kd.R_slice HO_6.out
                  subst eo36
                  go_wp2_with (first | (go_at_call 17; (with_reducible refine (laws_eqIntS.calls kj8 _ _ t239 _ _ t232 true _ ?side1 ?side2 ?side3 ?side4 A33.out).mono ?_); (case side1 => repeat (first | exact (Kd.R_reads' HO_9.out).2.2 | (with_reducible refine Kd.C_alloc ?_ _) | (with_reducible refine Kd.C_drewN ?_ _) | (with_reducible refine Kd.C_drew ?_))); (case side2 => exact (Kd.R_reads' HO_9.out).2.1); (case side3 => repeat (first | exact (Kd.R_reads' HO_6.out).2.2 | (with_reducible refine Kd.C_alloc ?_ _) | (with_reducible refine Kd.C_drewN ?_ _) | (with_reducible refine Kd.C_drew ?_))); (case side4 => exact (Kd.R_reads' HO_6.out).2.1); rintro e w' ⟨rfl, ⟨nd, rfl⟩⟩))
                  go_meet
                  case rel => exact ⟨_, ((t240 != t233)), (by first | rfl | (simp; done) | (simp [*]; done)), H', ⟨by have := HJ8.out; first | omega | exact Nat.le_refl _⟩, ⟨by (with_reducible repeat (first | apply Kd.R_alloc | apply Kd.R_drewN | apply Kd.R_drew)); exact HO_6.out⟩, ⟨by (with_reducible repeat (first | apply Kd.R_alloc | apply Kd.R_drewN | apply Kd.R_drew)); exact HO_9.out⟩, ⟨by repeat (first | (with_reducible first | exact HB.out | apply below_alloc | apply pw_below_drewN | apply below_drew1) | exact HB.out)⟩⟩
                · replace c34 := Bool.eq_false_iff.mpr c34
                  subst c34
                  have H1 : (laws_FnExactGroupsOf.j1 kj8 a0 l1 t232 t233 t239 true) = some r := by rw [if_neg (show ¬ (false = true) by decide)] at H; exact H
                  clear H
                  have H := H1
                  clear H1
                  have H' := Aside0.mk H
                  clear H
                  obtain ⟨Ao37, co37, eo37⟩ := Kd.R_slice HO_9.out
                  subst eo37
                  obtain ⟨Ao38, co38, eo38⟩ := Kd.R_slice HO_6.out
                  subst eo38
                  go_wp2_with (first | (go_at_call 17; (with_reducible refine (laws_eqIntS.calls kj8 _ _ t239 _ _ t232 false _ ?side1 ?side2 ?side3 ?side4 A33.out).mono ?_); (case side1 => repeat (first | exact (Kd.R_reads' HO_9.out).2.2 | (with_reducible refine Kd.C_alloc ?_ _) | (with_reducible refine Kd.C_drewN ?_ _) | (with_reducible refine Kd.C_drew ?_))); (case side2 => exact (Kd.R_reads' HO_9.out).2.1); (case side3 => repeat (first | exact (Kd.R_reads' HO_6.out).2.2 | (with_reducible refine Kd.C_alloc ?_ _) | (with_reducible refine Kd.C_drewN ?_ _) | (with_reducible refine Kd.C_drew ?_))); (case side4 => exact (Kd.R_reads' HO_6.out).2.1); rintro e w' ⟨rfl, ⟨nd, rfl⟩⟩))
                  go_meet
                  case rel => exact ⟨_, (true), (by first | rfl | (simp; done) | (simp [*]; done)), H', ⟨by have := HJ8.out; first | omega | exact Nat.le_refl _⟩, ⟨by (with_reducible repeat (first | apply Kd.R_alloc | apply Kd.R_drewN | apply Kd.R_drew)); exact HO_6.out⟩, ⟨by (with_reducible repeat (first | apply Kd.R_alloc | apply Kd.R_drewN | apply Kd.R_drew)); exact HO_9.out⟩, ⟨by repeat (first | (with_reducible first | exact HB.out | apply below_alloc | apply pw_below_drewN | apply below_drew1) | exact HB.out)⟩⟩
            case rest =>
              clear HC27
              try clear c1
              try clear c2
              try clear p2
              try clear c3
              try clear c4
              try clear c4b0
              try clear c10
              try clear c12
              try clear c14
              try clear c15
              try clear c16
              try clear c17
              try clear c18
              try clear c22
              try clear c25
              try clear c32
              try clear c32b0
              try clear c34
              try clear p2
              obtain ⟨kq, x65_26, rfl, HA, HJ26, HO_6, HO_9, HB⟩ := hcut
              cases kq with
              | zero => exact absurd HA.out (by simp [laws_FnExactGroupsOf.j1])
              | succ kj26 =>
                have H := HA.out
                clear HA
                simp only [laws_FnExactGroupsOf.j1] at H
                by_cases c39 : x65_26 = true
                · subst c39
                  have H1 : (some false) = some r := by rw [if_pos rfl] at H; exact H
                  clear H
                  have H := H1
                  clear H1
                  obtain rfl := Option.some.inj H
                  go_wp2
                  go_ret
                  exact ⟨by first | rfl | (simp [errW_none, errW_some] <;> rfl) | (simp [*, errW_none, errW_some] <;> rfl), by repeat (first | (with_reducible first | exact HB.out | apply below_alloc | apply pw_below_drewN | apply below_drew1) | exact HB.out)⟩
                · replace c39 := Bool.eq_false_iff.mpr c39
                  subst c39
                  have H1 : ((laws_markIntS.f kj26 t239 1).bind fun bt251 => ((laws_heldIntS.f kj26 bt251.2 1).bind fun t253 => (if t253 < 0 then (some false) else (if t253 = bt251.1 then ((laws_toEdgeS.f kj26 l1).bind fun t254 => ((impl_GroupsOf.f kj26 a0 t254).bind fun bt257 => ((laws_eqIntS.f kj26 bt257.1 t232).bind fun t261 => (if t261 = true then (laws_FnExactGroupsOf.j2 kj26 bt251.2 bt251.1 (bt257.2 != t233)) else (laws_FnExactGroupsOf.j2 kj26 bt251.2 bt251.1 true))))) else (some false))))) = some r := by rw [if_neg (show ¬ (false = true) by decide)] at H; exact H
                  clear H
                  have H := H1
                  clear H1
                  replace H := Option.bind_eq_some_iff.mp H
                  obtain ⟨⟨t251, t252⟩, A400, H⟩ := H
                  replace H : ((laws_heldIntS.f kj26 t252 1).bind fun t253 => (if t253 < 0 then (some false) else (if t253 = t251 then ((laws_toEdgeS.f kj26 l1).bind fun t254 => ((impl_GroupsOf.f kj26 a0 t254).bind fun bt257 => ((laws_eqIntS.f kj26 bt257.1 t232).bind fun t261 => (if t261 = true then (laws_FnExactGroupsOf.j2 kj26 t252 t251 (bt257.2 != t233)) else (laws_FnExactGroupsOf.j2 kj26 t252 t251 true))))) else (some false)))) = some r := H
                  have A40 := Aside0.mk A400
                  clear A400
                  replace H := Option.bind_eq_some_iff.mp H
                  obtain ⟨t253, A410, H⟩ := H
                  replace H : (if t253 < 0 then (some false) else (if t253 = t251 then ((laws_toEdgeS.f kj26 l1).bind fun t254 => ((impl_GroupsOf.f kj26 a0 t254).bind fun bt257 => ((laws_eqIntS.f kj26 bt257.1 t232).bind fun t261 => (if t261 = true then (laws_FnExactGroupsOf.j2 kj26 t252 t251 (bt257.2 != t233)) else (laws_FnExactGroupsOf.j2 kj26 t252 t251 true))))) else (some false))) = some r := H
                  have A41 := Aside0.mk A410
                  clear A410
                  by_cases c42 : t253 < 0
                  · rw [if_pos c42] at H
                    have c42b0 : decide (t253 < 0) = true := decide_eq_true c42
                    clear c42
                    obtain rfl := Option.some.inj H
                    obtain ⟨Ao43, co43, eo43⟩ := Kd.R_slice HO_9.out
                    subst eo43
                    go_wp2_with (first | ((with_reducible refine gate_callee (f := 19) rfl ?_); refine goesL_ (some 68) rfl rfl Try.func19 (by kernel_rfl) rfl #[.slice Ao43 t239.length co43, .int .i64 1] rfl (by (try simp only [List.map_toArray, List.map_cons, List.map_nil]); first | done | rfl | (simp only [List.length_drop, List.length_take]; rfl)) ?_; (with_reducible refine (laws_markIntS.calls kj26 (fun k_ => some k_ = (.slice Ao43 t239.length co43 : Value).ownBlock) (.slice Ao43 t239.length co43) t239 1 t251 t252 w _ ?side1 ?side2 A40.out).mono ?_); (case side1 => repeat (first | (with_reducible first | exact HB.out | apply below_alloc | apply pw_below_drewN | apply below_drew1) | exact HB.out)); (case side2 => exact Kd.R_tight rfl HO_9.out); rintro e w44 ⟨rfl, hy0, hb, hkp⟩; refine ⟨_, rfl, ?_⟩; have n0_ := Aside0.mk (Kd.R_mono (ok' := fun k_ => some k_ ≠ (.slice Ao43 t239.length co43 : Value).ownBlock) (Kd.R_keptB (HO_6.out) hkp (fun k_ hk_ hs_ => (hk_) hs_)) (fun k_ hk_ => hk_.1)); have n1_ := Aside0.mk (Kd.R_reok rfl hy0 (fun k_ e_ => HO_9.out.1 k_ e_)); have n2_ := Aside0.mk (hb); clear HO_6; clear HO_9; clear HB; have HO_6 := n0_; have HO_9 := n1_; have HB := n2_; clear n0_ n1_ n2_; (try clear hb); (try clear hkp); (try clear hy0)) | ((with_reducible refine gate_callee (f := 20) rfl ?_); refine goesL_ (some 71) rfl rfl Try.func20 (by kernel_rfl) rfl #[.slice Ao43 t252.length co43, .int .i64 1] rfl (by (try simp only [List.map_toArray, List.map_cons, List.map_nil]); first | done | (rw [show t252.length = t239.length from (Kd.R_reads' HO_9.out).1.symm] <;> rfl) | rfl | (simp only [List.length_drop, List.length_take]; rfl)) ?_; (with_reducible refine (laws_heldIntS.calls kj26 _ _ t252 1 t253 _ ?side1 ?side2 A41.out).mono ?_); (case side1 => repeat (first | exact (Kd.R_reads' HO_9.out).2.2 | (with_reducible refine Kd.C_alloc ?_ _) | (with_reducible refine Kd.C_drewN ?_ _) | (with_reducible refine Kd.C_drew ?_))); (case side2 => rw [show t252.length = t239.length from (Kd.R_reads' HO_9.out).1.symm]; exact (Kd.R_reads' HO_9.out).2.1); rintro e w' ⟨rfl, ⟨nd, rfl⟩⟩; refine ⟨_, rfl, ?_⟩))
                    go_ret
                    exact ⟨by first | rfl | (simp [errW_none, errW_some] <;> rfl) | (simp [*, errW_none, errW_some] <;> rfl), by repeat (first | (with_reducible first | exact HB.out | apply below_alloc | apply pw_below_drewN | apply below_drew1) | exact HB.out)⟩
                  · rw [if_neg c42] at H
                    have c42b0 : decide (t253 < 0) = false := decide_eq_false c42
                    clear c42
                    by_cases c45 : t253 = t251
                    · rw [if_pos c45] at H
                      have c45b0 : (t253 == t251) = true := beq_iff_eq.mpr c45
                      have c45b1 : (t253 != t251) = false := bne_eq_false_iff_eq.mpr c45
                      clear c45
                      replace H := Option.bind_eq_some_iff.mp H
                      obtain ⟨t254, A460, H⟩ := H
                      replace H : ((impl_GroupsOf.f kj26 a0 t254).bind fun bt257 => ((laws_eqIntS.f kj26 bt257.1 t232).bind fun t261 => (if t261 = true then (laws_FnExactGroupsOf.j2 kj26 t252 t251 (bt257.2 != t233)) else (laws_FnExactGroupsOf.j2 kj26 t252 t251 true)))) = some r := H
                      have A46 := Aside0.mk A460
                      clear A460
                      replace H := Option.bind_eq_some_iff.mp H
                      obtain ⟨⟨t257, t258⟩, A470, H⟩ := H
                      replace H : ((laws_eqIntS.f kj26 t257 t232).bind fun t261 => (if t261 = true then (laws_FnExactGroupsOf.j2 kj26 t252 t251 (t258 != t233)) else (laws_FnExactGroupsOf.j2 kj26 t252 t251 true))) = some r := H
                      have A47 := Aside0.mk A470
                      clear A470
                      have HC48 := Aside0.mk H
                      clear H
                      obtain ⟨Ao49, co49, eo49⟩ := Kd.R_slice HO_9.out
                      subst eo49
                      go_upto_region 25 with (first | ((with_reducible refine gate_callee (f := 19) rfl ?_); refine goesL_ (some 68) rfl rfl Try.func19 (by kernel_rfl) rfl #[.slice Ao49 t239.length co49, .int .i64 1] rfl (by (try simp only [List.map_toArray, List.map_cons, List.map_nil]); first | done | rfl | (simp only [List.length_drop, List.length_take]; rfl)) ?_; (with_reducible refine (laws_markIntS.calls kj26 (fun k_ => some k_ = (.slice Ao49 t239.length co49 : Value).ownBlock) (.slice Ao49 t239.length co49) t239 1 t251 t252 w _ ?side1 ?side2 A40.out).mono ?_); (case side1 => repeat (first | (with_reducible first | exact HB.out | apply below_alloc | apply pw_below_drewN | apply below_drew1) | exact HB.out)); (case side2 => exact Kd.R_tight rfl HO_9.out); rintro e w50 ⟨rfl, hy0, hb, hkp⟩; refine ⟨_, rfl, ?_⟩; have n0_ := Aside0.mk (Kd.R_mono (ok' := fun k_ => some k_ ≠ (.slice Ao49 t239.length co49 : Value).ownBlock) (Kd.R_keptB (HO_6.out) hkp (fun k_ hk_ hs_ => (hk_) hs_)) (fun k_ hk_ => hk_.1)); have n1_ := Aside0.mk (Kd.R_reok rfl hy0 (fun k_ e_ => HO_9.out.1 k_ e_)); have n2_ := Aside0.mk (hb); clear HO_6; clear HO_9; clear HB; have HO_6 := n0_; have HO_9 := n1_; have HB := n2_; clear n0_ n1_ n2_; (try clear hb); (try clear hkp); (try clear hy0)) | ((with_reducible refine gate_callee (f := 20) rfl ?_); refine goesL_ (some 71) rfl rfl Try.func20 (by kernel_rfl) rfl #[.slice Ao49 t252.length co49, .int .i64 1] rfl (by (try simp only [List.map_toArray, List.map_cons, List.map_nil]); first | done | (rw [show t252.length = t239.length from (Kd.R_reads' HO_9.out).1.symm] <;> rfl) | rfl | (simp only [List.length_drop, List.length_take]; rfl)) ?_; (with_reducible refine (laws_heldIntS.calls kj26 _ _ t252 1 t253 _ ?side1 ?side2 A41.out).mono ?_); (case side1 => repeat (first | exact (Kd.R_reads' HO_9.out).2.2 | (with_reducible refine Kd.C_alloc ?_ _) | (with_reducible refine Kd.C_drewN ?_ _) | (with_reducible refine Kd.C_drew ?_))); (case side2 => rw [show t252.length = t239.length from (Kd.R_reads' HO_9.out).1.symm]; exact (Kd.R_reads' HO_9.out).2.1); rintro e w' ⟨rfl, ⟨nd, rfl⟩⟩; refine ⟨_, rfl, ?_⟩) | ((with_reducible refine gate_callee (f := 12) rfl ?_); refine goesL_ (some 80) rfl rfl Try.func12 (by kernel_rfl) rfl #[.slice A1 l1.length c1] rfl (by (try simp only [List.map_toArray, List.map_cons, List.map_nil]); first | done | rfl | (simp only [List.length_drop, List.length_take]; rfl)) ?_; (with_reducible refine (laws_toEdgeS.calls kj26 _ _ l1 t254 _ ?side1 ?side2 A46.out).mono ?_); (case side1 => repeat (first | exact (Kd.C_below HR1.out (by repeat (first | (with_reducible first | exact HB.out | apply below_alloc | apply pw_below_drewN | apply below_drew1) | exact HB.out))) | (with_reducible refine Kd.C_alloc ?_ _) | (with_reducible refine Kd.C_drewN ?_ _) | (with_reducible refine Kd.C_drew ?_))); (case side2 => exact HC1.out); rintro e w51 ⟨v255, rfl, ho0, hb⟩; refine ⟨_, rfl, ?_⟩; have n0_ := Aside0.mk (Kd.R_below (by (with_reducible repeat (first | apply Kd.R_alloc | apply Kd.R_drewN | apply Kd.R_drew)); exact HO_6.out) hb); have n1_ := Aside0.mk (Kd.R_below (by (with_reducible repeat (first | apply Kd.R_alloc | apply Kd.R_drewN | apply Kd.R_drew)); exact HO_9.out) hb); have n2_ := Aside0.mk (Kd.R_lower ho0 (below_size (by repeat (first | (with_reducible first | exact HB.out | apply below_alloc | apply pw_below_drewN | apply below_drew1) | exact HB.out)))); have n3_ := Aside0.mk (below_step (by repeat (first | (with_reducible first | exact HB.out | apply below_alloc | apply pw_below_drewN | apply below_drew1) | exact HB.out)) hb); clear HO_6; clear HO_9; clear HB; have HO_6 := n0_; have HO_9 := n1_; have HO256 := n2_; have HB := n3_; clear n0_ n1_ n2_ n3_; (try clear hb); (try clear hb2); (try clear hk); (try clear hi); (try clear ho0); obtain ⟨Ao52, co52, eo52⟩ := Kd.R_slice HO256.out; subst eo52) | ((with_reducible refine gate_callee (f := 16) rfl ?_); refine goesL_ (some 81) rfl rfl Try.func16 (by kernel_rfl) rfl #[.int .i64 a0, .slice Ao52 t254.length co52] rfl (by (try simp only [List.map_toArray, List.map_cons, List.map_nil]); first | done | rfl | (simp only [List.length_drop, List.length_take]; rfl)) ?_; (with_reducible refine (impl_GroupsOf.calls kj26 a0 _ _ t254 t257 t258 _ ?side1 ?side2 A47.out).mono ?_); (case side1 => repeat (first | exact (Kd.R_reads' HO256.out).2.2 | (with_reducible refine Kd.C_alloc ?_ _) | (with_reducible refine Kd.C_drewN ?_ _) | (with_reducible refine Kd.C_drew ?_))); (case side2 => exact (Kd.R_reads' HO256.out).2.1); rintro e w53 ⟨v259, rfl, ho0, hb⟩; refine ⟨_, rfl, ?_⟩; have n0_ := Aside0.mk (Kd.R_elder' (by (with_reducible repeat (first | apply Kd.R_alloc | apply Kd.R_drewN | apply Kd.R_drew)); exact HO_6.out) (Kd.R_base ho0) hb); have n1_ := Aside0.mk (Kd.R_elder' (by (with_reducible repeat (first | apply Kd.R_alloc | apply Kd.R_drewN | apply Kd.R_drew)); exact HO_9.out) (Kd.R_base ho0) hb); have n2_ := Aside0.mk (Kd.R_below (by (with_reducible repeat (first | apply Kd.R_alloc | apply Kd.R_drewN | apply Kd.R_drew)); exact HO256.out) hb); have n3_ := Aside0.mk (Kd.R_lower (Kd.R_new' (Kd.R_new' ho0 (Kd.R_lt (by (with_reducible repeat (first | apply Kd.R_alloc | apply Kd.R_drewN | apply Kd.R_drew)); exact HO_6.out))) (Kd.R_lt (by (with_reducible repeat (first | apply Kd.R_alloc | apply Kd.R_drewN | apply Kd.R_drew)); exact HO_9.out))) (below_size (by repeat (first | (with_reducible first | exact HB.out | apply below_alloc | apply pw_below_drewN | apply below_drew1) | exact HB.out)))); have n4_ := Aside0.mk (below_step (by repeat (first | (with_reducible first | exact HB.out | apply below_alloc | apply pw_below_drewN | apply below_drew1) | exact HB.out)) hb); clear HO_6; clear HO_9; clear HO256; clear HB; have HO_6 := n0_; have HO_9 := n1_; have HO256 := n2_; have HO260 := n3_; have HB := n4_; clear n0_ n1_ n2_ n3_ n4_; (try clear hb); (try clear hb2); (try clear hk); (try clear hi); (try clear ho0)))
                      (try simp only [Act.put, List.setIfInBounds_toArray, List.set_cons_zero, List.set_cons_succ])
                      go_cut [92] (fun v92 wc => ∃ (kq : Nat) (x92_47 : Bool), v92 = .bool x92_47 ∧ Aside0 (laws_FnExactGroupsOf.j2 kq t252 t251 x92_47 = some r) ∧ Aside0 (kq ≤ kj26) ∧ Aside0 (Kd.R (Kd.int .i64) 3 wc w.heap.size (fun _ => True) (.slice Ao49 t239.length co49) t252) ∧ Aside0 (Below w.heap.size w wc))
                      case first =>
                        have H := HC48.out
                        clear HC48
                        replace H := Option.bind_eq_some_iff.mp H
                        obtain ⟨t261, A540, H⟩ := H
                        replace H : (if t261 = true then (laws_FnExactGroupsOf.j2 kj26 t252 t251 (t258 != t233)) else (laws_FnExactGroupsOf.j2 kj26 t252 t251 true)) = some r := H
                        have A54 := Aside0.mk A540
                        clear A540
                        by_cases c55 : t261 = true
                        · subst c55
                          have H1 : (laws_FnExactGroupsOf.j2 kj26 t252 t251 (t258 != t233)) = some r := by rw [if_pos rfl] at H; exact H
                          clear H
                          have H := H1
                          clear H1
                          have H' := Aside0.mk H
                          clear H
                          obtain ⟨Ao56, co56, eo56⟩ := Kd.R_slice HO260.out
                          subst eo56
                          obtain ⟨Ao57, co57, eo57⟩ := Kd.R_slice HO_6.out
                          subst eo57
                          go_wp2_with (first | ((with_reducible refine gate_callee (f := 17) rfl ?_); refine goesL_ (some 86) rfl rfl Try.func17 (by kernel_rfl) rfl #[.slice Ao56 t257.length co56, .slice Ao57 t232.length co57] rfl (by (try simp only [List.map_toArray, List.map_cons, List.map_nil]); first | done | rfl | (simp only [List.length_drop, List.length_take]; rfl)) ?_; (with_reducible refine (laws_eqIntS.calls kj26 _ _ t257 _ _ t232 true _ ?side1 ?side2 ?side3 ?side4 A54.out).mono ?_); (case side1 => repeat (first | exact (Kd.R_reads' HO260.out).2.2 | (with_reducible refine Kd.C_alloc ?_ _) | (with_reducible refine Kd.C_drewN ?_ _) | (with_reducible refine Kd.C_drew ?_))); (case side2 => exact (Kd.R_reads' HO260.out).2.1); (case side3 => repeat (first | exact (Kd.R_reads' HO_6.out).2.2 | (with_reducible refine Kd.C_alloc ?_ _) | (with_reducible refine Kd.C_drewN ?_ _) | (with_reducible refine Kd.C_drew ?_))); (case side4 => exact (Kd.R_reads' HO_6.out).2.1); rintro e w' ⟨rfl, ⟨nd, rfl⟩⟩; refine ⟨_, rfl, ?_⟩))
                          go_meet
                          case rel => exact ⟨_, ((t258 != t233)), (by first | rfl | (simp; done) | (simp [*]; done)), H', ⟨by have := HJ8.out; have := HJ26.out; first | omega | exact Nat.le_refl _⟩, ⟨by (with_reducible repeat (first | apply Kd.R_alloc | apply Kd.R_drewN | apply Kd.R_drew)); exact Kd.R_mono HO_9.out (fun _ hk => trivial)⟩, ⟨by repeat (first | (with_reducible first | exact HB.out | apply below_alloc | apply pw_below_drewN | apply below_drew1) | exact HB.out)⟩⟩
                        · replace c55 := Bool.eq_false_iff.mpr c55
                          subst c55
                          have H1 : (laws_FnExactGroupsOf.j2 kj26 t252 t251 true) = some r := by rw [if_neg (show ¬ (false = true) by decide)] at H; exact H
                          clear H
                          have H := H1
                          clear H1
                          have H' := Aside0.mk H
                          clear H
                          obtain ⟨Ao58, co58, eo58⟩ := Kd.R_slice HO260.out
                          subst eo58
                          obtain ⟨Ao59, co59, eo59⟩ := Kd.R_slice HO_6.out
                          subst eo59
                          go_wp2_with (first | ((with_reducible refine gate_callee (f := 17) rfl ?_); refine goesL_ (some 86) rfl rfl Try.func17 (by kernel_rfl) rfl #[.slice Ao58 t257.length co58, .slice Ao59 t232.length co59] rfl (by (try simp only [List.map_toArray, List.map_cons, List.map_nil]); first | done | rfl | (simp only [List.length_drop, List.length_take]; rfl)) ?_; (with_reducible refine (laws_eqIntS.calls kj26 _ _ t257 _ _ t232 false _ ?side1 ?side2 ?side3 ?side4 A54.out).mono ?_); (case side1 => repeat (first | exact (Kd.R_reads' HO260.out).2.2 | (with_reducible refine Kd.C_alloc ?_ _) | (with_reducible refine Kd.C_drewN ?_ _) | (with_reducible refine Kd.C_drew ?_))); (case side2 => exact (Kd.R_reads' HO260.out).2.1); (case side3 => repeat (first | exact (Kd.R_reads' HO_6.out).2.2 | (with_reducible refine Kd.C_alloc ?_ _) | (with_reducible refine Kd.C_drewN ?_ _) | (with_reducible refine Kd.C_drew ?_))); (case side4 => exact (Kd.R_reads' HO_6.out).2.1); rintro e w' ⟨rfl, ⟨nd, rfl⟩⟩; refine ⟨_, rfl, ?_⟩))
                          go_meet
                          case rel => exact ⟨_, (true), (by first | rfl | (simp; done) | (simp [*]; done)), H', ⟨by have := HJ8.out; have := HJ26.out; first | omega | exact Nat.le_refl _⟩, ⟨by (with_reducible repeat (first | apply Kd.R_alloc | apply Kd.R_drewN | apply Kd.R_drew)); exact Kd.R_mono HO_9.out (fun _ hk => trivial)⟩, ⟨by repeat (first | (with_reducible first | exact HB.out | apply below_alloc | apply pw_below_drewN | apply below_drew1) | exact HB.out)⟩⟩
                      case rest =>
                        clear HC48
                        try clear c1
                        try clear c2
                        try clear p2
                        try clear c3
                        try clear c4
                        try clear c4b0
                        try clear c5
                        try clear c10
                        try clear c12
                        try clear c14
                        try clear c15
                        try clear c16
                        try clear c17
                        try clear c18
                        try clear c19
                        try clear c20
                        try clear c22
                        try clear c25
                        try clear c32
                        try clear c32b0
                        try clear c34
                        try clear c39
                        try clear c42
                        try clear c42b0
                        try clear c45
                        try clear c45b0
                        try clear c45b1
                        try clear c55
                        try clear p2
                        obtain ⟨kq, x92_47, rfl, HA, HJ47, HO_9, HB⟩ := hcut
                        have hl9_47 := (Kd.R_reads' HO_9.out).1
                        rw [hl9_47] at HO_9
                        (try simp only [hl9_47])
                        cases kq with
                        | zero => exact absurd HA.out (by simp [laws_FnExactGroupsOf.j2])
                        | succ kj47 =>
                          have H := HA.out
                          clear HA
                          simp only [laws_FnExactGroupsOf.j2] at H
                          by_cases c60 : x92_47 = true
                          · subst c60
                            have H1 : (some false) = some r := by rw [if_pos rfl] at H; exact H
                            clear H
                            have H := H1
                            clear H1
                            obtain rfl := Option.some.inj H
                            go_wp2
                            go_ret
                            exact ⟨by first | rfl | (simp [errW_none, errW_some] <;> rfl) | (simp [*, errW_none, errW_some] <;> rfl), by repeat (first | (with_reducible first | exact HB.out | apply below_alloc | apply pw_below_drewN | apply below_drew1) | exact HB.out)⟩
                          · replace c60 := Bool.eq_false_iff.mpr c60
                            subst c60
                            have H1 : ((laws_heldIntS.f kj47 t252 1).bind fun t262 => (if t262 < 0 then (some false) else (if t262 = t251 then (some true) else (some false)))) = some r := by rw [if_neg (show ¬ (false = true) by decide)] at H; exact H
                            clear H
                            have H := H1
                            clear H1
                            replace H := Option.bind_eq_some_iff.mp H
                            obtain ⟨t262, A610, H⟩ := H
                            replace H : (if t262 < 0 then (some false) else (if t262 = t251 then (some true) else (some false))) = some r := H
                            have A61 := Aside0.mk A610
                            clear A610
                            by_cases c62 : t262 < 0
                            · rw [if_pos c62] at H
                              have c62b0 : decide (t262 < 0) = true := decide_eq_true c62
                              clear c62
                              obtain rfl := Option.some.inj H
                              go_wp2_with (first | ((with_reducible refine gate_callee (f := 20) rfl ?_); refine goesL_ (some 95) rfl rfl Try.func20 (by kernel_rfl) rfl #[.slice Ao49 t252.length co49, .int .i64 1] rfl (by (try simp only [List.map_toArray, List.map_cons, List.map_nil]); first | done | rfl | (simp only [List.length_drop, List.length_take]; rfl)) ?_; (with_reducible refine (laws_heldIntS.calls kj47 _ _ t252 1 t262 _ ?side1 ?side2 A61.out).mono ?_); (case side1 => repeat (first | exact (Kd.R_reads' HO_9.out).2.2 | (with_reducible refine Kd.C_alloc ?_ _) | (with_reducible refine Kd.C_drewN ?_ _) | (with_reducible refine Kd.C_drew ?_))); (case side2 => exact (Kd.R_reads' HO_9.out).2.1); rintro e w' ⟨rfl, ⟨nd, rfl⟩⟩; refine ⟨_, rfl, ?_⟩))
                              go_ret
                              exact ⟨by first | rfl | (simp [errW_none, errW_some] <;> rfl) | (simp [*, errW_none, errW_some] <;> rfl), by repeat (first | (with_reducible first | exact HB.out | apply below_alloc | apply pw_below_drewN | apply below_drew1) | exact HB.out)⟩
                            · rw [if_neg c62] at H
                              have c62b0 : decide (t262 < 0) = false := decide_eq_false c62
                              clear c62
                              by_cases c63 : t262 = t251
                              · rw [if_pos c63] at H
                                have c63b0 : (t262 == t251) = true := beq_iff_eq.mpr c63
                                have c63b1 : (t262 != t251) = false := bne_eq_false_iff_eq.mpr c63
                                clear c63
                                obtain rfl := Option.some.inj H
                                go_wp2_with (first | ((with_reducible refine gate_callee (f := 20) rfl ?_); refine goesL_ (some 95) rfl rfl Try.func20 (by kernel_rfl) rfl #[.slice Ao49 t252.length co49, .int .i64 1] rfl (by (try simp only [List.map_toArray, List.map_cons, List.map_nil]); first | done | rfl | (simp only [List.length_drop, List.length_take]; rfl)) ?_; (with_reducible refine (laws_heldIntS.calls kj47 _ _ t252 1 t262 _ ?side1 ?side2 A61.out).mono ?_); (case side1 => repeat (first | exact (Kd.R_reads' HO_9.out).2.2 | (with_reducible refine Kd.C_alloc ?_ _) | (with_reducible refine Kd.C_drewN ?_ _) | (with_reducible refine Kd.C_drew ?_))); (case side2 => exact (Kd.R_reads' HO_9.out).2.1); rintro e w' ⟨rfl, ⟨nd, rfl⟩⟩; refine ⟨_, rfl, ?_⟩))
                                go_ret
                                exact ⟨by first | rfl | (simp [errW_none, errW_some] <;> rfl) | (simp [*, errW_none, errW_some] <;> rfl), by repeat (first | (with_reducible first | exact HB.out | apply below_alloc | apply pw_below_drewN | apply below_drew1) | exact HB.out)⟩
                              · rw [if_neg c63] at H
                                have c63b0 : (t262 == t251) = false := beq_eq_false_iff_ne.mpr c63
                                have c63b1 : (t262 != t251) = true := bne_iff_ne.mpr c63
                                obtain rfl := Option.some.inj H
                                go_wp2_with (first | ((with_reducible refine gate_callee (f := 20) rfl ?_); refine goesL_ (some 95) rfl rfl Try.func20 (by kernel_rfl) rfl #[.slice Ao49 t252.length co49, .int .i64 1] rfl (by (try simp only [List.map_toArray, List.map_cons, List.map_nil]); first | done | rfl | (simp only [List.length_drop, List.length_take]; rfl)) ?_; (with_reducible refine (laws_heldIntS.calls kj47 _ _ t252 1 t262 _ ?side1 ?side2 A61.out).mono ?_); (case side1 => repeat (first | exact (Kd.R_reads' HO_9.out).2.2 | (with_reducible refine Kd.C_alloc ?_ _) | (with_reducible refine Kd.C_drewN ?_ _) | (with_reducible refine Kd.C_drew ?_))); (case side2 => exact (Kd.R_reads' HO_9.out).2.1); rintro e w' ⟨rfl, ⟨nd, rfl⟩⟩; refine ⟨_, rfl, ?_⟩))
                                go_ret
                                exact ⟨by first | rfl | (simp [errW_none, errW_some] <;> rfl) | (simp [*, errW_none, errW_some] <;> rfl), by repeat (first | (with_reducible first | exact HB.out | apply below_alloc | apply pw_below_drewN | apply below_drew1) | exact HB.out)⟩
                    · rw [if_neg c45] at H
                      have c45b0 : (t253 == t251) = false := beq_eq_false_iff_ne.mpr c45
                      have c45b1 : (t253 != t251) = true := bne_iff_ne.mpr c45
                      obtain rfl := Option.some.inj H
                      obtain ⟨Ao64, co64, eo64⟩ := Kd.R_slice HO_9.out
                      subst eo64
                      go_wp2_with (first | ((with_reducible refine gate_callee (f := 19) rfl ?_); refine goesL_ (some 68) rfl rfl Try.func19 (by kernel_rfl) rfl #[.slice Ao64 t239.length co64, .int .i64 1] rfl (by (try simp only [List.map_toArray, List.map_cons, List.map_nil]); first | done | rfl | (simp only [List.length_drop, List.length_take]; rfl)) ?_; (with_reducible refine (laws_markIntS.calls kj26 (fun k_ => some k_ = (.slice Ao64 t239.length co64 : Value).ownBlock) (.slice Ao64 t239.length co64) t239 1 t251 t252 w _ ?side1 ?side2 A40.out).mono ?_); (case side1 => repeat (first | (with_reducible first | exact HB.out | apply below_alloc | apply pw_below_drewN | apply below_drew1) | exact HB.out)); (case side2 => exact Kd.R_tight rfl HO_9.out); rintro e w65 ⟨rfl, hy0, hb, hkp⟩; refine ⟨_, rfl, ?_⟩; have n0_ := Aside0.mk (Kd.R_mono (ok' := fun k_ => some k_ ≠ (.slice Ao64 t239.length co64 : Value).ownBlock) (Kd.R_keptB (HO_6.out) hkp (fun k_ hk_ hs_ => (hk_) hs_)) (fun k_ hk_ => hk_.1)); have n1_ := Aside0.mk (Kd.R_reok rfl hy0 (fun k_ e_ => HO_9.out.1 k_ e_)); have n2_ := Aside0.mk (hb); clear HO_6; clear HO_9; clear HB; have HO_6 := n0_; have HO_9 := n1_; have HB := n2_; clear n0_ n1_ n2_; (try clear hb); (try clear hkp); (try clear hy0)) | ((with_reducible refine gate_callee (f := 20) rfl ?_); refine goesL_ (some 71) rfl rfl Try.func20 (by kernel_rfl) rfl #[.slice Ao64 t252.length co64, .int .i64 1] rfl (by (try simp only [List.map_toArray, List.map_cons, List.map_nil]); first | done | (rw [show t252.length = t239.length from (Kd.R_reads' HO_9.out).1.symm] <;> rfl) | rfl | (simp only [List.length_drop, List.length_take]; rfl)) ?_; (with_reducible refine (laws_heldIntS.calls kj26 _ _ t252 1 t253 _ ?side1 ?side2 A41.out).mono ?_); (case side1 => repeat (first | exact (Kd.R_reads' HO_9.out).2.2 | (with_reducible refine Kd.C_alloc ?_ _) | (with_reducible refine Kd.C_drewN ?_ _) | (with_reducible refine Kd.C_drew ?_))); (case side2 => rw [show t252.length = t239.length from (Kd.R_reads' HO_9.out).1.symm]; exact (Kd.R_reads' HO_9.out).2.1); rintro e w' ⟨rfl, ⟨nd, rfl⟩⟩; refine ⟨_, rfl, ?_⟩))
                      go_ret
                      exact ⟨by first | rfl | (simp [errW_none, errW_some] <;> rfl) | (simp [*, errW_none, errW_some] <;> rfl), by repeat (first | (with_reducible first | exact HB.out | apply below_alloc | apply pw_below_drewN | apply below_drew1) | exact HB.out)⟩
          · replace c25 := Bool.eq_false_iff.mpr c25
            subst c25
            have H1 : (some false) = some r := by rw [if_neg (show ¬ (false = true) by decide)] at H; exact H
            clear H
            have H := H1
            clear H1
            obtain rfl := Option.some.inj H
            go_wp2_with (first | ((with_reducible refine gate_callee (f := 12) rfl ?_); refine goesL_ (some 47) rfl rfl Try.func12 (by kernel_rfl) rfl #[.slice A1 l1.length c1] rfl (by (try simp only [List.map_toArray, List.map_cons, List.map_nil]); first | done | rfl | (simp only [List.length_drop, List.length_take]; rfl)) ?_; (with_reducible refine (laws_toEdgeS.calls kj8 _ _ l1 t244 _ ?side1 ?side2 A23.out).mono ?_); (case side1 => repeat (first | exact (Kd.C_below HR1.out HB.out) | (with_reducible refine Kd.C_alloc ?_ _) | (with_reducible refine Kd.C_drewN ?_ _) | (with_reducible refine Kd.C_drew ?_))); (case side2 => exact HC1.out); rintro e w66 ⟨v245, rfl, ho0, hb⟩; refine ⟨_, rfl, ?_⟩; have n0_ := Aside0.mk (Kd.R_below (by (with_reducible repeat (first | apply Kd.R_alloc | apply Kd.R_drewN | apply Kd.R_drew)); exact HO_6.out) hb); have n1_ := Aside0.mk (Kd.R_elder' (by (with_reducible repeat (first | apply Kd.R_alloc | apply Kd.R_drewN | apply Kd.R_drew)); exact HO_8.out) (Kd.R_base ho0) hb); have n2_ := Aside0.mk (Kd.R_below (by (with_reducible repeat (first | apply Kd.R_alloc | apply Kd.R_drewN | apply Kd.R_drew)); exact HO_9.out) hb); have n3_ := Aside0.mk (Kd.R_lower (Kd.R_new' ho0 (Kd.R_lt (by (with_reducible repeat (first | apply Kd.R_alloc | apply Kd.R_drewN | apply Kd.R_drew)); exact HO_8.out))) (below_size (by repeat (first | (with_reducible first | exact HB.out | apply below_alloc | apply pw_below_drewN | apply below_drew1) | exact HB.out)))); have n4_ := Aside0.mk (below_step (by repeat (first | (with_reducible first | exact HB.out | apply below_alloc | apply pw_below_drewN | apply below_drew1) | exact HB.out)) hb); clear HO_6; clear HO_8; clear HO_9; clear HB; have HO_6 := n0_; have HO_8 := n1_; have HO_9 := n2_; have HO246 := n3_; have HB := n4_; clear n0_ n1_ n2_ n3_ n4_; (try clear hb); (try clear hb2); (try clear hk); (try clear hi); (try clear ho0); obtain ⟨Ao67, co67, eo67⟩ := Kd.R_slice HO246.out; subst eo67) | ((with_reducible refine gate_callee (f := 14) rfl ?_); refine goesL_ (some 48) rfl rfl Try.func14 (by kernel_rfl) rfl #[.slice Ao14 t236.length co14, .slice Ao67 t244.length co67] rfl (by (try simp only [List.map_toArray, List.map_cons, List.map_nil]); first | done | rfl | (simp only [List.length_drop, List.length_take]; rfl)) ?_; (with_reducible refine (laws_eqEdgeS.calls kj8 _ _ t236 _ _ t244 false _ ?side1 ?side2 ?side3 ?side4 A24.out).mono ?_); (case side1 => repeat (first | exact (Kd.R_reads' HO_8.out).2.2 | (with_reducible refine Kd.C_alloc ?_ _) | (with_reducible refine Kd.C_drewN ?_ _) | (with_reducible refine Kd.C_drew ?_))); (case side2 => exact (Kd.R_reads' HO_8.out).2.1); (case side3 => repeat (first | exact (Kd.R_reads' HO246.out).2.2 | (with_reducible refine Kd.C_alloc ?_ _) | (with_reducible refine Kd.C_drewN ?_ _) | (with_reducible refine Kd.C_drew ?_))); (case side4 => exact (Kd.R_reads' HO246.out).2.1); rintro e w68 ⟨rfl, hb⟩; refine ⟨_, rfl, ?_⟩; have n0_ := Aside0.mk (Kd.R_below (by (with_reducible repeat (first | apply Kd.R_alloc | apply Kd.R_drewN | apply Kd.R_drew)); exact HO_6.out) hb); have n1_ := Aside0.mk (Kd.R_below (by (with_reducible repeat (first | apply Kd.R_alloc | apply Kd.R_drewN | apply Kd.R_drew)); exact HO_8.out) hb); have n2_ := Aside0.mk (Kd.R_below (by (with_reducible repeat (first | apply Kd.R_alloc | apply Kd.R_drewN | apply Kd.R_drew)); exact HO_9.out) hb); have n3_ := Aside0.mk (Kd.R_below (by (with_reducible repeat (first | apply Kd.R_alloc | apply Kd.R_drewN | apply Kd.R_drew)); exact HO246.out) hb); have n4_ := Aside0.mk (below_step (by repeat (first | (with_reducible first | exact HB.out | apply below_alloc | apply pw_below_drewN | apply below_drew1) | exact HB.out)) hb); clear HO_6; clear HO_8; clear HO_9; clear HO246; clear HB; have HO_6 := n0_; have HO_8 := n1_; have HO_9 := n2_; have HO246 := n3_; have HB := n4_; clear n0_ n1_ n2_ n3_ n4_; (try clear hb); (try clear hb2); (try clear hk); (try clear hi)))
            go_ret
            exact ⟨by first | rfl | (simp [errW_none, errW_some] <;> rfl) | (simp [*, errW_none, errW_some] <;> rfl), by repeat (first | (with_reducible first | exact HB.out | apply below_alloc | apply pw_below_drewN | apply below_drew1) | exact HB.out)⟩
end Go.Proofs.Ytpbnpepikkocmaa.P

namespace Go.Proofs.Ytpbnpepikkocmaa.P
open Go.RowKit Go.Proofs.YtpbnpepikkocmaaW.PrintWords Go.Proofs.YtpbnpepikkocmaaW.PrintLast
def wfS65 (s : S65) : Prop := (fun n : Int => (Lit.int .i64 n).wf = true) s.f0 ∧ (fun n : Int => (Lit.int .i64 n).wf = true) s.f1 ∧ (fun n : Int => (Lit.int .i64 n).wf = true) s.f2
/-- The one pure statement of laws_FnExactGroupsOf. -/
def laws_FnExactGroupsOf.Pure : Prop := ∀ (a0 : Int) (l1 : List (S65)), (fun n : Int => (Lit.int .i64 n).wf = true) a0 → (fun l : List (S65) => l.length ≤ maxLen ∧ ∀ x ∈ l, wfS65 x) l1 → ∃ k, laws_FnExactGroupsOf.f k a0 l1 = some true
end Go.Proofs.Ytpbnpepikkocmaa.P

namespace Go.Proofs.Ytpbnpepikkocmaa.P
open Go.RowKit Go.Proofs.YtpbnpepikkocmaaW.PrintWords
set_option linter.unusedVariables false
set_option linter.unusedSimpArgs false
theorem wrap_id {x : Int} (h0 : -9223372036854775808 ≤ x) (h1 : x ≤ 9223372036854775807) : wrap64 x = x := by unfold wrap64; omega
theorem Ev.succ {α : Type} {g : Nat → Option α} {r : α} (h : Ev (fun k => g (k + 1)) r) : Ev g r := Ev.step (fun _ => rfl) h
theorem Ev.some_ {α : Type} {r s : α} (h : r = s) : Ev (fun _ => some r) s := h ▸ Ev.now r
theorem getD_mid {α : Type} (d : α) (pre : List α) (x : α) (suf : List α) : (pre ++ x :: suf).getD ((pre.length : Int)).toNat d = x := by simp
theorem set_mid {α : Type} (pre : List α) (x y : α) (suf : List α) : (pre ++ x :: suf).set ((pre.length : Int)).toNat y = pre ++ y :: suf := by simp
theorem app_one {α : Type} (pre : List α) (x : α) (suf : List α) : pre ++ x :: suf = (pre ++ [x]) ++ suf := by simp
theorem len_one {α : Type} (pre : List α) (x : α) : ((pre ++ [x]).length : Int) = pre.length + 1 := by simp
theorem nil_or_snoc {α : Type} (l : List α) : l = [] ∨ ∃ p y, l = p ++ [y] := by
  rcases List.eq_nil_or_concat l with rfl | ⟨p, y, rfl⟩
  · exact .inl rfl
  · exact .inr ⟨p, y, by simp⟩
end Go.Proofs.Ytpbnpepikkocmaa.P

namespace Go.Proofs.Ytpbnpepikkocmaa.P
open Go.RowKit Go.Proofs.YtpbnpepikkocmaaW.PrintWords Go.Proofs.YtpbnpepikkocmaaW.PrintLast
set_option linter.unusedVariables false
set_option linter.unusedSimpArgs false
theorem rdEdge_mid (pre : List S52) (x : S52) (suf : List S52) : rd_T52 (pre ++ x :: suf) (pre.length : Int) = x := getD_mid _ pre x suf
theorem rdLEdge_mid (pre : List S65) (x : S65) (suf : List S65) : rd_T65 (pre ++ x :: suf) (pre.length : Int) = x := getD_mid _ pre x suf
instance decEdge : DecidableEq S52 := fun a b => decidable_of_iff (a.f0 = b.f0 ∧ a.f1 = b.f1 ∧ a.f2 = b.f2) (by cases a; cases b; simp)
def cvEdge (x : S65) : S52 := ⟨x.f0, x.f1, x.f2⟩
theorem toEdgeS_l (suf : List S65) : ∀ (pre : List S65) (k : Nat), suf.length < k → (pre.length : Int) + suf.length ≤ 1099511627776 →
    laws_toEdgeS.l0 k (pre ++ suf) (pre.map cvEdge ++ List.replicate suf.length z52) (pre.length : Int) = some ((pre ++ suf).map cvEdge) := by
  induction suf with
  | nil =>
    intro pre k hk hb
    obtain ⟨k, rfl⟩ : ∃ m, k = m + 1 := ⟨k - 1, by omega⟩
    simp only [laws_toEdgeS.l0]
    rw [if_neg (by simp)]
    simp
  | cons x suf ih =>
    intro pre k hk hb
    simp only [List.length_cons] at hk hb
    obtain ⟨k, rfl⟩ : ∃ m, k = m + 1 := ⟨k - 1, by omega⟩
    have h := ih (pre ++ [x]) k (by omega) (by simp; omega)
    simp only [laws_toEdgeS.l0]
    rw [if_pos (by simp; omega), if_pos (by omega), rdLEdge_mid]
    simp only [laws_toEdge.f, Option.bind_some]
    rw [if_pos (by simp; omega), wrap_id (by omega) (by omega)]
    have e : (pre.map cvEdge ++ List.replicate (x :: suf).length z52).set ((pre.length : Int)).toNat (⟨x.f0, x.f1, x.f2⟩ : S52) = (pre ++ [x]).map cvEdge ++ List.replicate suf.length z52 := by
      simp [List.replicate_succ, cvEdge]
    rw [e]
    simpa using h
theorem toEdgeS_ev (l : List S65) (hl : l.length ≤ 1048576) : Ev (fun k => laws_toEdgeS.f k l) (l.map cvEdge) := by
  refine ⟨l.length + 1, fun k hk => ?_⟩
  have h := toEdgeS_l l [] k (by omega) (by simp; omega)
  show laws_toEdgeS.f k l = _
  unfold laws_toEdgeS.f
  rw [if_pos (by omega), if_pos (by simp; omega)]
  simpa using h
theorem eqEdge_is (a b : S52) : laws_eqEdge.f a.f0 a.f1 a.f2 b.f0 b.f1 b.f2 = some (decide (a = b)) := by
  cases a; cases b
  unfold laws_eqEdge.f
  simp only [S52.mk.injEq]
  split
  · split
    · split
      · rename_i h1 h2 h3; simp [h1, h2, h3]
      · rename_i h1 h2 h3; simp [h3]
    · rename_i h1 h2; simp [h2]
  · rename_i h1; simp [h1]
theorem eqEdgeS_l (s : List S52) : ∀ (t pre qre : List S52) (k : Nat), s.length < k → pre.length = qre.length → s.length = t.length → (pre.length : Int) + s.length ≤ 1099511627776 →
    laws_eqEdgeS.l0 k (pre ++ s) (qre ++ t) (pre.length : Int) = some (decide (s = t)) := by
  induction s with
  | nil =>
    intro t pre qre k hk hq hl hb
    obtain ⟨k, rfl⟩ : ∃ m, k = m + 1 := ⟨k - 1, by omega⟩
    obtain rfl : t = [] := List.eq_nil_of_length_eq_zero (by simpa using hl.symm)
    simp only [laws_eqEdgeS.l0]
    rw [if_neg (by simp)]
    simp
  | cons x s ih =>
    intro t pre qre k hk hq hl hb
    cases t with
    | nil => simp at hl
    | cons y t =>
      simp only [List.length_cons] at hk hl hb
      obtain ⟨k, rfl⟩ : ∃ m, k = m + 1 := ⟨k - 1, by omega⟩
      have h := ih t (pre ++ [x]) (qre ++ [y]) k (by omega) (by simp; omega) (by omega) (by simp; omega)
      have hy : rd_T52 (qre ++ y :: t) (pre.length : Int) = y := by rw [hq]; exact rdEdge_mid qre y t
      simp only [laws_eqEdgeS.l0]
      rw [if_pos (by simp; omega), if_pos (by omega), if_pos (by simp; omega), rdEdge_mid, hy, eqEdge_is, wrap_id (by omega) (by omega)]
      simp only [Option.bind_some]
      by_cases e : x = y
      · subst e
        rw [if_pos (by simp)]
        simpa using h
      · rw [if_neg (by simpa using e)]
        simp [e]
theorem eqEdgeS_ev (s t : List S52) (hs : s.length ≤ 1099511627776) : Ev (fun k => laws_eqEdgeS.f k s t) (decide (s = t)) := by
  refine ⟨s.length + 1, fun k hk => ?_⟩
  show laws_eqEdgeS.f k s t = _
  unfold laws_eqEdgeS.f
  by_cases hl : s.length = t.length
  · rw [if_pos (by omega)]
    exact eqEdgeS_l s t [] [] k (by omega) rfl hl (by simp; omega)
  · rw [if_neg (by omega)]
    have : s ≠ t := fun e => hl (by rw [e])
    simp [this]
theorem szEdgeS_is (l : List S65) (hl : l.length ≤ maxLen) (a : Int) (h0 : 0 ≤ a) (h1 : a ≤ 1048576) : laws_szEdgeS.f l a = some (if a - l.length < 0 then -1 else a - l.length) := by
  have hm : l.length ≤ 9223372036854775807 := by unfold maxLen at hl; exact hl
  unfold laws_szEdgeS.f
  rw [wrap_id (by omega) (by omega)]
  split <;> rfl
end Go.Proofs.Ytpbnpepikkocmaa.P

namespace Go.Proofs.Ytpbnpepikkocmaa.P
open Go.RowKit Go.Proofs.YtpbnpepikkocmaaW.PrintWords Go.Proofs.YtpbnpepikkocmaaW.PrintLast
set_option linter.unusedVariables false
set_option linter.unusedSimpArgs false
def isEdge (m : Int) (x : S52) : Bool := decide (0 ≤ x.f0 ∧ x.f0 ≤ m ∧ 0 ≤ x.f1 ∧ x.f1 ≤ m ∧ x.f0 < x.f1 ∧ 1 ≤ x.f2 ∧ x.f2 ≤ 100)
def edgeLt (y x : S52) : Bool := decide (y.f0 < x.f0 ∨ y.f0 = x.f0 ∧ y.f1 < x.f1)
def goodEF (m : Int) : Option S52 → List S52 → Bool
  | _, [] => true
  | none, x :: r => isEdge m x && goodEF m (some x) r
  | some y, x :: r => isEdge m x && (edgeLt y x && goodEF m (some x) r)
def goodE (n : Int) (l : List S52) : Bool := goodEF (wrap64 (n - 1)) none l && (decide (1 ≤ n ∧ n ≤ 12) && decide (l.length ≤ 40))
theorem specIn (a b c : Int) : spec_l1In.f a b c = some (decide (b ≤ a ∧ a ≤ c)) := by
  unfold spec_l1In.f
  by_cases h : b ≤ a <;> simp [h]
theorem implIn (a b c : Int) : impl_in.f a b c = some (decide (b ≤ a ∧ a ≤ c)) := specIn a b c
theorem isEdge_iff (m : Int) (x : S52) : isEdge m x = true ↔ (0 ≤ x.f0 ∧ x.f0 ≤ m ∧ 0 ≤ x.f1 ∧ x.f1 ≤ m ∧ x.f0 < x.f1 ∧ 1 ≤ x.f2 ∧ x.f2 ≤ 100) := by unfold isEdge; simp only [decide_eq_true_eq]
theorem specGoodE_l (n : Int) (suf : List S52) : ∀ (pre : List S52), (pre.length : Int) + suf.length ≤ 1099511627776 →
    Ev (fun k => spec_GoodEdges.l0 k n (pre ++ suf) (pre ++ suf) ((pre ++ suf).length : Int) (pre.length : Int)) (goodEF (wrap64 (n - 1)) pre.getLast? suf && (decide (1 ≤ n ∧ n ≤ 12) && decide ((pre ++ suf).length ≤ 40))) := by
  induction suf with
  | nil =>
    intro pre hb
    refine Ev.succ ?_
    simp only [spec_GoodEdges.l0]
    simp only [if_neg (show ¬ (pre.length : Int) < ((pre ++ ([] : List S52)).length : Int) by simp), specIn, Option.bind_some]
    have : goodEF (wrap64 (n - 1)) pre.getLast? [] = true := by cases pre.getLast? <;> rfl
    rw [this, Bool.true_and]
    by_cases h : 1 ≤ n ∧ n ≤ 12
    · simp only [h, and_self, decide_true, if_true, Bool.true_and]
      refine Ev.some_ ?_
      congr 1
      simp only [eq_iff_iff]
      omega
    · simp only [h, decide_false, Bool.false_eq_true, if_false, Bool.false_and]
      exact Ev.now _
  | cons x suf ih =>
    intro pre hb
    simp only [List.length_cons] at hb
    have c1 : (pre.length : Int) < ((pre ++ x :: suf).length : Int) := by simp <;> omega
    have c0 : (0 : Int) ≤ (pre.length : Int) := by omega
    have h := ih (pre ++ [x]) (by simp <;> omega)
    rw [← app_one, len_one, List.getLast?_concat] at h
    refine Ev.succ ?_
    simp only [spec_GoodEdges.l0]
    simp only [if_pos c1, if_pos c0, rdEdge_mid, specIn, Option.bind_some]
    generalize wrap64 (n - 1) = m at h ⊢
    generalize hfin : (decide (1 ≤ n ∧ n ≤ 12) && decide ((pre ++ x :: suf).length ≤ 40)) = fin at h ⊢
    have bad : ∀ (b : Bool), isEdge m x = false → b = true → Ev (fun k => spec_GoodEdges.j1 k n (pre ++ x :: suf) (pre.length : Int) (pre ++ x :: suf) ((pre ++ x :: suf).length : Int) (pre.length : Int) b x.f0 x.f1 x.f2) (goodEF m pre.getLast? (x :: suf) && fin) := by
      intro b he hb
      refine Ev.succ ?_
      simp only [spec_GoodEdges.j1, hb, if_true]
      refine Ev.some_ ?_
      cases pre.getLast? <;> simp [goodEF, he]
    by_cases h1 : 0 ≤ x.f0 ∧ x.f0 ≤ m
    · simp only [h1, and_self, decide_true, if_true]
      by_cases h2 : 0 ≤ x.f1 ∧ x.f1 ≤ m
      · simp only [h2, and_self, decide_true, if_true]
        by_cases h3 : x.f0 ≥ x.f1
        · simp only [if_pos h3]
          refine bad true ?_ rfl
          unfold isEdge; simp only [decide_eq_false_iff_not]; omega
        · simp only [if_neg h3]
          by_cases h4 : 1 ≤ x.f2 ∧ x.f2 ≤ 100
          · have he : isEdge m x = true := by rw [isEdge_iff]; omega
            simp only [h4, and_self, decide_true, Bool.not_true]
            refine Ev.succ ?_
            simp only [spec_GoodEdges.j1, Bool.false_eq_true, if_false]
            rw [wrap_id (x := (pre.length : Int) + 1) (by omega) (by omega)]
            rcases nil_or_snoc pre with rfl | ⟨pre', y, rfl⟩
            · simp only [if_neg (show ¬ (([] : List S52).length : Int) > 0 by simp)]
              have e : goodEF m ([] : List S52).getLast? (x :: suf) = goodEF m (some x) suf := by simp [goodEF, he]
              rw [e]
              exact h
            · have hy : rd_T52 ((pre' ++ [y]) ++ x :: suf) (((pre' ++ [y]).length : Int) - 1) = y := by
                rw [show ((pre' ++ [y]) ++ x :: suf) = pre' ++ y :: (x :: suf) by simp, show (((pre' ++ [y]).length : Int) - 1) = (pre'.length : Int) by simp]
                exact rdEdge_mid _ _ _
              have q0 : (((pre' ++ [y]).length : Int)) > 0 := by simp <;> omega
              rw [wrap_id (x := ((pre' ++ [y]).length : Int) - 1) (by omega) (by omega)]
              simp only [if_pos q0, if_pos (show 0 ≤ ((pre' ++ [y]).length : Int) - 1 by omega), if_pos (show ((pre' ++ [y]).length : Int) - 1 < (((pre' ++ [y]) ++ x :: suf).length : Int) by omega), hy]
              have e : goodEF m (pre' ++ [y]).getLast? (x :: suf) = (edgeLt y x && goodEF m (some x) suf) := by simp [goodEF, he]
              rw [e]
              by_cases g1 : y.f0 > x.f0
              · simp only [if_pos g1]
                refine Ev.some_ ?_
                have : edgeLt y x = false := by unfold edgeLt; simp only [decide_eq_false_iff_not]; omega
                rw [this]; rfl
              · simp only [if_neg g1]
                by_cases g2 : y.f0 = x.f0
                · simp only [if_pos g2]
                  by_cases g3 : y.f1 ≥ x.f1
                  · simp only [if_pos g3]
                    refine Ev.some_ ?_
                    have : edgeLt y x = false := by unfold edgeLt; simp only [decide_eq_false_iff_not]; omega
                    rw [this]; rfl
                  · simp only [if_neg g3]
                    have : edgeLt y x = true := by unfold edgeLt; simp only [decide_eq_true_eq]; omega
                    rw [this, Bool.true_and]
                    exact h
                · simp only [if_neg g2]
                  have : edgeLt y x = true := by unfold edgeLt; simp only [decide_eq_true_eq]; omega
                  rw [this, Bool.true_and]
                  exact h
          · simp only [h4, decide_false, Bool.not_false]
            refine bad true ?_ rfl
            unfold isEdge; simp only [decide_eq_false_iff_not]; omega
      · simp only [h2, decide_false, Bool.false_eq_true, if_false]
        refine bad true ?_ rfl
        unfold isEdge; simp only [decide_eq_false_iff_not]; omega
    · simp only [h1, decide_false, Bool.false_eq_true, if_false]
      refine bad true ?_ rfl
      unfold isEdge; simp only [decide_eq_false_iff_not]; omega
theorem specGoodE_ev (n : Int) (l : List S52) (hl : l.length ≤ 1048576) : Ev (fun k => spec_GoodEdges.f k n l) (goodE n l) := by
  unfold spec_GoodEdges.f
  exact specGoodE_l n l [] (by simp <;> omega)
theorem implGoodE_l (n : Int) (hm : wrap64 (n - 1) ≤ 9223372036854775807) (suf : List S52) : ∀ (pre : List S52), (pre.length : Int) + suf.length ≤ 1099511627776 → (∀ y, pre.getLast? = some y → isEdge (wrap64 (n - 1)) y = true) →
    Ev (fun k => impl_GoodEdges.l0 k n (pre ++ suf) (pre ++ suf) ((pre ++ suf).length : Int) (pre.length : Int)) (goodEF (wrap64 (n - 1)) pre.getLast? suf && (decide (1 ≤ n ∧ n ≤ 12) && decide ((pre ++ suf).length ≤ 40))) := by
  induction suf with
  | nil =>
    intro pre hb _
    refine Ev.succ ?_
    simp only [impl_GoodEdges.l0]
    simp only [if_neg (show ¬ (pre.length : Int) < ((pre ++ ([] : List S52)).length : Int) by simp), impl_isSpots.f, implIn, Option.bind_some]
    have : goodEF (wrap64 (n - 1)) pre.getLast? [] = true := by cases pre.getLast? <;> rfl
    rw [this, Bool.true_and]
    by_cases h : 1 ≤ n ∧ n ≤ 12
    · simp only [h, and_self, decide_true, if_true, Bool.true_and]
      refine Ev.some_ ?_
      congr 1
      simp only [eq_iff_iff]
      omega
    · simp only [h, decide_false, Bool.false_eq_true, if_false, Bool.false_and]
      exact Ev.now _
  | cons x suf ih =>
    intro pre hb hlast
    simp only [List.length_cons] at hb
    have c1 : (pre.length : Int) < ((pre ++ x :: suf).length : Int) := by simp <;> omega
    have c0 : (0 : Int) ≤ (pre.length : Int) := by omega
    have h := ih (pre ++ [x]) (by simp <;> omega)
    rw [← app_one, len_one, List.getLast?_concat] at h
    refine Ev.succ ?_
    simp only [impl_GoodEdges.l0]
    simp only [if_pos c1, if_pos c0, rdEdge_mid, implIn, Option.bind_some]
    generalize wrap64 (n - 1) = m at h hm hlast ⊢
    generalize hfin : (decide (1 ≤ n ∧ n ≤ 12) && decide ((pre ++ x :: suf).length ≤ 40)) = fin at h ⊢
    have bad : isEdge m x = false → Ev (fun k => some false) (goodEF m pre.getLast? (x :: suf) && fin) := by
      intro he
      refine Ev.some_ ?_
      cases pre.getLast? <;> simp [goodEF, he]
    by_cases h1 : 0 ≤ x.f0 ∧ x.f0 ≤ m
    · simp only [h1, and_self, decide_true, if_true]
      by_cases h2 : 0 ≤ x.f1 ∧ x.f1 ≤ m
      · simp only [h2, and_self, decide_true, if_true]
        by_cases h3 : x.f0 ≥ x.f1
        · simp only [if_pos h3]
          refine bad ?_
          unfold isEdge; simp only [decide_eq_false_iff_not]; omega
        · simp only [if_neg h3]
          by_cases h4 : 1 ≤ x.f2 ∧ x.f2 ≤ 100
          · have he : isEdge m x = true := by rw [isEdge_iff]; omega
            have h := h (fun y hy => by cases hy; exact he)
            simp only [h4, and_self, decide_true, if_true]
            rw [wrap_id (x := (pre.length : Int) + 1) (by omega) (by omega)]
            rcases nil_or_snoc pre with rfl | ⟨pre', y, rfl⟩
            · simp only [if_neg (show ¬ (([] : List S52).length : Int) > 0 by simp)]
              have e : goodEF m ([] : List S52).getLast? (x :: suf) = goodEF m (some x) suf := by simp [goodEF, he]
              rw [e]
              exact h
            · have hy : rd_T52 ((pre' ++ [y]) ++ x :: suf) (((pre' ++ [y]).length : Int) - 1) = y := by
                rw [show ((pre' ++ [y]) ++ x :: suf) = pre' ++ y :: (x :: suf) by simp, show (((pre' ++ [y]).length : Int) - 1) = (pre'.length : Int) by simp]
                exact rdEdge_mid _ _ _
              have hye := (isEdge_iff m y).1 (hlast y (by simp))
              have hxe := (isEdge_iff m x).1 he
              have q0 : (((pre' ++ [y]).length : Int)) > 0 := by simp <;> omega
              rw [wrap_id (x := ((pre' ++ [y]).length : Int) - 1) (by omega) (by omega)]
              simp only [if_pos q0, if_pos (show 0 ≤ ((pre' ++ [y]).length : Int) - 1 by omega), if_pos (show ((pre' ++ [y]).length : Int) - 1 < (((pre' ++ [y]) ++ x :: suf).length : Int) by omega), hy]
              have e : goodEF m (pre' ++ [y]).getLast? (x :: suf) = (edgeLt y x && goodEF m (some x) suf) := by simp [goodEF, he]
              rw [e]
              have eb : impl_byEnds.f y.f0 y.f1 y.f2 x.f0 x.f1 x.f2 = some (if y.f0 = x.f0 then y.f1 - x.f1 else y.f0 - x.f0) := by
                unfold impl_byEnds.f
                split
                · rw [wrap_id (by omega) (by omega)]
                · rw [wrap_id (by omega) (by omega)]
              simp only [eb, Option.bind_some]
              by_cases g : edgeLt y x = true
              · have g' : (y.f0 < x.f0 ∨ y.f0 = x.f0 ∧ y.f1 < x.f1) := by unfold edgeLt at g; simpa only [decide_eq_true_eq] using g
                rw [g, Bool.true_and]
                simp only [if_neg (show ¬ (if y.f0 = x.f0 then y.f1 - x.f1 else y.f0 - x.f0) ≥ 0 by split <;> omega)]
                exact h
              · have g' : ¬ (y.f0 < x.f0 ∨ y.f0 = x.f0 ∧ y.f1 < x.f1) := by unfold edgeLt at g; simpa only [decide_eq_true_eq] using g
                simp only [if_pos (show (if y.f0 = x.f0 then y.f1 - x.f1 else y.f0 - x.f0) ≥ 0 by split <;> omega)]
                refine Ev.some_ ?_
                rw [Bool.not_eq_true] at g
                rw [g]; rfl
          · simp only [h4, decide_false, Bool.false_eq_true, if_false]
            refine bad ?_
            unfold isEdge; simp only [decide_eq_false_iff_not]; omega
      · simp only [h2, decide_false, Bool.false_eq_true, if_false]
        refine bad ?_
        unfold isEdge; simp only [decide_eq_false_iff_not]; omega
    · simp only [h1, decide_false, Bool.false_eq_true, if_false]
      refine bad ?_
      unfold isEdge; simp only [decide_eq_false_iff_not]; omega
theorem wrap_top (x : Int) : -9223372036854775808 ≤ wrap64 x ∧ wrap64 x ≤ 9223372036854775807 := by unfold wrap64; omega
theorem implGoodE_ev (n : Int) (l : List S52) (hl : l.length ≤ 1048576) : Ev (fun k => impl_GoodEdges.f k n l) (goodE n l) := by
  unfold impl_GoodEdges.f
  exact implGoodE_l n (wrap_top _).2 l [] (by simp <;> omega) (fun y hy => by simp at hy)
/-- What good edges are. -/
theorem goodE_n {n : Int} {l : List S52} (h : goodE n l = true) : 1 ≤ n ∧ n ≤ 12 ∧ l.length ≤ 40 := by
  unfold goodE at h
  simp only [Bool.and_eq_true, decide_eq_true_eq] at h
  exact ⟨h.2.1.1, h.2.1.2, h.2.2⟩
theorem goodEF_all {m : Int} : ∀ (l : List S52) (o : Option S52), goodEF m o l = true → ∀ x ∈ l, isEdge m x = true
  | [], _, _, x, hx => by simp at hx
  | y :: r, o, h, x, hx => by
    have h2 : isEdge m y = true ∧ goodEF m (some y) r = true := by
      cases o with
      | none => simpa [goodEF] using h
      | some z =>
        simp only [goodEF, Bool.and_eq_true] at h
        exact ⟨h.1, h.2.2⟩
    rcases List.mem_cons.1 hx with rfl | hx
    · exact h2.1
    · exact goodEF_all r _ h2.2 x hx
theorem goodE_edge {n : Int} {l : List S52} (h : goodE n l = true) : ∀ x ∈ l, 0 ≤ x.f0 ∧ x.f0 < x.f1 ∧ x.f1 < n ∧ 1 ≤ x.f2 ∧ x.f2 ≤ 100 := by
  have hn := goodE_n h
  intro x hx
  unfold goodE at h
  simp only [Bool.and_eq_true] at h
  have := (isEdge_iff _ _).1 (goodEF_all l none h.1 x hx)
  rw [wrap_id (by omega) (by omega)] at this
  omega
end Go.Proofs.Ytpbnpepikkocmaa.P

namespace Go.Proofs.Ytpbnpepikkocmaa.P
open Go.RowKit Go.Proofs.YtpbnpepikkocmaaW.PrintWords Go.Proofs.YtpbnpepikkocmaaW.PrintLast
set_option linter.unusedVariables false
set_option linter.unusedSimpArgs false
def at_ (out : List Int) (v : Nat) : Int := out.getD v 0
def stepG (out : List Int) (e : Nat × Nat) : List Int := (out.set e.1 (min (at_ out e.1) (at_ out e.2))).set e.2 (min (at_ out e.1) (at_ out e.2))
def roundG (E : List (Nat × Nat)) (out : List Int) : List Int := E.foldl stepG out
def iterG (E : List (Nat × Nat)) (out : List Int) : Nat → List Int
  | 0 => out
  | k + 1 => roundG E (iterG E out k)
def InG (n : Nat) (E : List (Nat × Nat)) : Prop := ∀ e ∈ E, e.1 < n ∧ e.2 < n
inductive Conn (E : List (Nat × Nat)) : Nat → Nat → Prop
  | refl (v : Nat) : Conn E v v
  | fwd {v a b : Nat} : Conn E v a → (a, b) ∈ E → Conn E v b
  | bwd {v a b : Nat} : Conn E v b → (a, b) ∈ E → Conn E v a
theorem Conn.trans {E : List (Nat × Nat)} {u v w : Nat} (h : Conn E u v) (k : Conn E v w) : Conn E u w := by
  induction k with
  | refl => exact h
  | fwd _ he ih => exact .fwd ih he
  | bwd _ he ih => exact .bwd ih he
theorem Conn.symm {E : List (Nat × Nat)} {u v : Nat} (h : Conn E u v) : Conn E v u := by
  induction h with
  | refl => exact .refl _
  | fwd _ he ih => exact (Conn.bwd (.refl _) he).trans ih
  | bwd _ he ih => exact (Conn.fwd (.refl _) he).trans ih
theorem Conn.lt {n : Nat} {E : List (Nat × Nat)} (hE : InG n E) {u v : Nat} (h : Conn E u v) (hu : u < n) : v < n := by
  induction h with
  | refl => exact hu
  | fwd _ he _ => exact (hE _ he).2
  | bwd _ he _ => exact (hE _ he).1
theorem stepG_len (out : List Int) (e : Nat × Nat) : (stepG out e).length = out.length := by simp [stepG]
theorem at_set (out : List Int) (a v : Nat) (x : Int) (ha : a < out.length) : at_ (out.set a x) v = if v = a then x else at_ out v := by
  unfold at_
  rw [List.getD_eq_getElem?_getD, List.getD_eq_getElem?_getD]
  by_cases h : v = a
  · subst h; rw [List.getElem?_set_self ha, if_pos rfl]; rfl
  · rw [List.getElem?_set_ne (fun e => h e.symm), if_neg h]
theorem stepG_at (out : List Int) (e : Nat × Nat) (h1 : e.1 < out.length) (h2 : e.2 < out.length) (v : Nat) : at_ (stepG out e) v = if v = e.1 ∨ v = e.2 then min (at_ out e.1) (at_ out e.2) else at_ out v := by
  unfold stepG
  rw [at_set _ _ _ _ (by simpa using h2), at_set _ _ _ _ h1]
  by_cases h : v = e.2
  · simp [h]
  · by_cases h' : v = e.1 <;> simp [h, h']
theorem stepG_le (out : List Int) (e : Nat × Nat) (h1 : e.1 < out.length) (h2 : e.2 < out.length) (v : Nat) : at_ (stepG out e) v ≤ at_ out v := by
  rw [stepG_at out e h1 h2]
  split
  · rename_i h
    rcases h with rfl | rfl <;> omega
  · exact Int.le_refl _
theorem roundG_len : ∀ (E : List (Nat × Nat)) (out : List Int), (roundG E out).length = out.length
  | [], _ => rfl
  | e :: E, out => by
    show (roundG E (stepG out e)).length = _
    rw [roundG_len E, stepG_len]
theorem roundG_le : ∀ (E : List (Nat × Nat)) (out : List Int), InG out.length E → ∀ v, at_ (roundG E out) v ≤ at_ out v
  | [], _, _, v => Int.le_refl _
  | e :: E, out, h, v => by
    have he := h e (by simp)
    have h1 := roundG_le E (stepG out e) (by rw [stepG_len]; exact fun x hx => h x (by simp [hx])) v
    have h2 := stepG_le out e he.1 he.2 v
    show at_ (roundG E (stepG out e)) v ≤ _
    omega
/-- Behind a round both ends of an edge have no more than either had. -/
theorem roundG_edge : ∀ (E : List (Nat × Nat)) (out : List Int), InG out.length E → ∀ a b, (a, b) ∈ E → at_ (roundG E out) a ≤ at_ out b ∧ at_ (roundG E out) b ≤ at_ out a
  | [], _, _, a, b, h => by simp at h
  | e :: E, out, h, a, b, hab => by
    have he := h e (by simp)
    have hE : InG (stepG out e).length E := by rw [stepG_len]; exact fun x hx => h x (by simp [hx])
    show at_ (roundG E (stepG out e)) a ≤ _ ∧ at_ (roundG E (stepG out e)) b ≤ _
    rcases List.mem_cons.1 hab with rfl | hab
    · have ha := roundG_le E (stepG out (a, b)) hE a
      have hb := roundG_le E (stepG out (a, b)) hE b
      rw [stepG_at out (a, b) he.1 he.2] at ha hb
      simp only [true_or, or_true, if_true] at ha hb
      omega
    · have h1 := roundG_edge E (stepG out e) hE a b hab
      have h2 := stepG_le out e he.1 he.2 a
      have h3 := stepG_le out e he.1 he.2 b
      omega
theorem iterG_len (E : List (Nat × Nat)) (out : List Int) : ∀ k, (iterG E out k).length = out.length
  | 0 => rfl
  | k + 1 => by simp only [iterG]; rw [roundG_len, iterG_len E out k]
/-- Each label is a spot that is joined. -/
def LabG (E : List (Nat × Nat)) (out : List Int) : Prop := ∀ v, v < out.length → ∃ u : Nat, at_ out v = u ∧ Conn E v u
theorem stepG_lab {E : List (Nat × Nat)} {out : List Int} (e : Nat × Nat) (he : e ∈ E) (h1 : e.1 < out.length) (h2 : e.2 < out.length) (h : LabG E out) : LabG E (stepG out e) := by
  intro v hv
  rw [stepG_len] at hv
  rw [stepG_at out e h1 h2]
  split
  · rename_i hve
    obtain ⟨x, y⟩ := e
    obtain ⟨u1, e1, c1⟩ := h x h1
    obtain ⟨u2, e2, c2⟩ := h y h2
    have cxy : Conn E x y := .fwd (.refl _) he
    have cv : Conn E v x ∧ Conn E v y := by
      rcases hve with rfl | rfl
      · exact ⟨.refl _, cxy⟩
      · exact ⟨cxy.symm, .refl _⟩
    simp only
    rw [e1, e2]
    rcases Int.le_total (u1 : Int) u2 with hle | hle
    · exact ⟨u1, by omega, cv.1.trans c1⟩
    · exact ⟨u2, by omega, cv.2.trans c2⟩
  · exact h v hv
theorem foldl_lab {E : List (Nat × Nat)} : ∀ (D : List (Nat × Nat)) (out : List Int), (∀ e ∈ D, e ∈ E) → InG out.length D → LabG E out → LabG E (D.foldl stepG out)
  | [], _, _, _, h => h
  | e :: D, out, hD, hin, h => by
    have he := hin e (by simp)
    exact foldl_lab D (stepG out e) (fun x hx => hD x (by simp [hx])) (by rw [stepG_len]; exact fun x hx => hin x (by simp [hx])) (stepG_lab e (hD e (by simp)) he.1 he.2 h)
theorem iterG_lab {E : List (Nat × Nat)} {out : List Int} (hin : InG out.length E) (h : LabG E out) : ∀ k, LabG E (iterG E out k)
  | 0 => h
  | k + 1 => foldl_lab E _ (fun _ he => he) (by rw [iterG_len]; exact hin) (iterG_lab hin h k)
/-- How many spots have at most m. -/
def cntG (out : List Int) (m : Int) : Nat := (List.range out.length).countP fun v => decide (at_ out v ≤ m)
theorem countP_mono {α : Type} (p q : α → Bool) (l : List α) (h : ∀ x ∈ l, p x = true → q x = true) : l.countP p ≤ l.countP q := List.countP_mono_left h
theorem countP_lt {α : Type} (p q : α → Bool) : ∀ (l : List α), (∀ x ∈ l, p x = true → q x = true) → (∃ x ∈ l, p x = false ∧ q x = true) → l.countP p < l.countP q
  | [], _, ⟨x, hx, _⟩ => by simp at hx
  | y :: l, h, ⟨x, hx, hp, hq⟩ => by
    have h1 := countP_mono p q l (fun z hz => h z (by simp [hz]))
    rw [List.countP_cons, List.countP_cons]
    rcases List.mem_cons.1 hx with rfl | hx
    · simp only [hp, hq, if_true, Bool.false_eq_true, if_false]
      omega
    · have h2 := countP_lt p q l (fun z hz => h z (by simp [hz])) ⟨x, hx, hp, hq⟩
      have h3 := h y (by simp)
      cases hy : p y with
      | false => simp only [Bool.false_eq_true, if_false]; omega
      | true => simp only [h3 hy, if_true]; omega
/-- The spots that have at most m: all that are joined with m, or they grow. -/
theorem spread_one {E : List (Nat × Nat)} {out : List Int} (hin : InG out.length E) (m : Nat) (hm : at_ out m ≤ m) (hmn : m < out.length) :
    (∀ v, Conn E m v → at_ out v ≤ m) ∨ cntG out m < cntG (roundG E out) m := by
  by_cases hc : ∀ a b, (a, b) ∈ E → (at_ out a ≤ m ↔ at_ out b ≤ m)
  · left
    intro v hv
    induction hv with
    | refl => exact hm
    | fwd _ he ih => exact (hc _ _ he).1 ih
    | bwd _ he ih => exact (hc _ _ he).2 ih
  · right
    have hc2 : ∃ a b, (a, b) ∈ E ∧ ¬ (at_ out a ≤ m ↔ at_ out b ≤ m) := Classical.byContradiction fun hn => hc fun a b he => Classical.byContradiction fun h => hn ⟨a, b, he, h⟩
    obtain ⟨a, b, he, hne⟩ := hc2
    have hlen := roundG_len E out
    unfold cntG
    rw [hlen]
    have hab := hin _ he
    have hr := roundG_edge E out hin a b he
    refine countP_lt _ _ _ (fun v _ hv => ?_) ?_
    · simp only [decide_eq_true_eq] at hv ⊢
      have := roundG_le E out hin v
      omega
    · by_cases ha : at_ out a ≤ m
      · have hb : ¬ at_ out b ≤ m := fun hb => hne ⟨fun _ => hb, fun _ => ha⟩
        exact ⟨b, List.mem_range.2 hab.2, by simpa using hb, by simp only [decide_eq_true_eq]; omega⟩
      · have hb : at_ out b ≤ m := Classical.byContradiction fun hb => hne ⟨fun h => absurd h ha, fun h => absurd h hb⟩
        exact ⟨a, List.mem_range.2 hab.1, by simpa using ha, by simp only [decide_eq_true_eq]; omega⟩
theorem iterG_le {E : List (Nat × Nat)} {out : List Int} (hin : InG out.length E) (v : Nat) (k : Nat) : at_ (iterG E out (k + 1)) v ≤ at_ (iterG E out k) v :=
  roundG_le E _ (by rw [iterG_len]; exact hin) v
theorem spread_all {E : List (Nat × Nat)} {out : List Int} (hin : InG out.length E) (m : Nat) (hm : at_ out m ≤ m) (hmn : m < out.length) : ∀ k, at_ (iterG E out k) m ≤ m ∧ ((∀ v, Conn E m v → at_ (iterG E out k) v ≤ m) ∨ k + 1 ≤ cntG (iterG E out k) m)
  | 0 => by
    refine ⟨hm, .inr ?_⟩
    have : 0 < cntG out m := by
      unfold cntG
      rw [List.countP_pos_iff]
      exact ⟨m, List.mem_range.2 hmn, by simpa using hm⟩
    show 0 + 1 ≤ cntG out m
    omega
  | k + 1 => by
    obtain ⟨h1, h2⟩ := spread_all hin m hm hmn k
    have hin2 : InG (iterG E out k).length E := by rw [iterG_len]; exact hin
    refine ⟨Int.le_trans (iterG_le hin m k) h1, ?_⟩
    rcases h2 with h2 | h2
    · exact .inl fun v hv => Int.le_trans (iterG_le hin v k) (h2 v hv)
    · rcases spread_one hin2 m h1 (by rw [iterG_len]; exact hmn) with h3 | h3
      · exact .inl fun v hv => Int.le_trans (iterG_le hin v k) (h3 v hv)
      · right
        show k + 1 + 1 ≤ cntG (roundG E (iterG E out k)) m
        omega
theorem spread_done {E : List (Nat × Nat)} {out : List Int} (hin : InG out.length E) (m : Nat) (hm : at_ out m ≤ m) (hmn : m < out.length) {k : Nat} (hk : out.length ≤ k + 1) : ∀ v, Conn E m v → at_ (iterG E out k) v ≤ m := by
  rcases (spread_all hin m hm hmn k).2 with h | h
  · exact h
  · intro v hv
    refine Classical.byContradiction fun hn => ?_
    have hv2 := hv.lt hin hmn
    have : cntG (iterG E out k) m < (List.range out.length).countP (fun _ => true) := by
      unfold cntG
      rw [iterG_len]
      refine countP_lt _ _ _ (fun _ _ _ => rfl) ⟨v, List.mem_range.2 hv2, by simpa using hn, rfl⟩
    rw [show (List.range out.length).countP (fun _ => true) = out.length by simp] at this
    omega
/-- The spots' own numbers. -/
def own0 (n : Nat) : List Int := (List.range n).map fun (i : Nat) => (i : Int)
theorem own0_len (n : Nat) : (own0 n).length = n := by simp [own0]
theorem own0_at {n v : Nat} (h : v < n) : at_ (own0 n) v = v := by
  unfold at_ own0
  rw [List.getD_eq_getElem?_getD, List.getElem?_map, List.getElem?_range h]
  rfl
/-- The groups: to each spot the least one that edges lead to from it. -/
def grp (n : Nat) (E : List (Nat × Nat)) : List Int := iterG E (own0 n) n
theorem grp_len (n : Nat) (E : List (Nat × Nat)) : (grp n E).length = n := by unfold grp; rw [iterG_len, own0_len]
theorem grp_ok {n : Nat} {E : List (Nat × Nat)} (hE : InG n E) {v : Nat} (hv : v < n) : ∃ u : Nat, at_ (grp n E) v = u ∧ Conn E v u ∧ u < n ∧ ∀ m, Conn E v m → u ≤ m := by
  have hin : InG (own0 n).length E := by rw [own0_len]; exact hE
  have hlab : LabG E (own0 n) := fun v hv => by
    rw [own0_len] at hv
    exact ⟨v, own0_at hv, .refl _⟩
  obtain ⟨u, e, c⟩ := iterG_lab hin hlab n v (by rw [iterG_len, own0_len]; exact hv)
  refine ⟨u, e, c, c.lt hE hv, fun m hm => ?_⟩
  have hmn := hm.lt hE hv
  have := spread_done hin m (by rw [own0_at hmn]; exact Int.le_refl _) (by rw [own0_len]; exact hmn) (k := n) (by rw [own0_len]; omega) v hm.symm
  rw [e] at this
  omega
/-- From as many rounds on as there are spots nothing changes. -/
theorem iterG_fix {n : Nat} {E : List (Nat × Nat)} (hE : InG n E) : roundG E (grp n E) = grp n E := by
  have hin : InG (own0 n).length E := by rw [own0_len]; exact hE
  apply List.ext_getElem?
  intro v
  by_cases hv : v < n
  · have l1 : v < (roundG E (grp n E)).length := by rw [roundG_len, grp_len]; exact hv
    have l2 : v < (grp n E).length := by rw [grp_len]; exact hv
    obtain ⟨u, e, c, hu, _⟩ := grp_ok hE hv
    have hlab : LabG E (own0 n) := fun v hv => by
      rw [own0_len] at hv
      exact ⟨v, own0_at hv, .refl _⟩
    obtain ⟨u2, e2, c2⟩ := iterG_lab hin hlab (n + 1) v (by rw [iterG_len, own0_len]; exact hv)
    have e2' : at_ (roundG E (grp n E)) v = u2 := e2
    obtain ⟨u3, e3, _, _, h3⟩ := grp_ok hE hv
    have h4 := roundG_le E (grp n E) (by rw [grp_len]; exact hE) v
    have h5 := h3 u2 c2
    have : at_ (roundG E (grp n E)) v = at_ (grp n E) v := by
      rw [e2', e3]
      rw [e2', e3] at h4
      omega
    unfold at_ at this
    rw [List.getD_eq_getElem?_getD, List.getD_eq_getElem?_getD, List.getElem?_eq_getElem l1, List.getElem?_eq_getElem l2] at this
    rw [List.getElem?_eq_getElem l1, List.getElem?_eq_getElem l2]
    exact congrArg some this
  · rw [List.getElem?_eq_none (by rw [roundG_len, grp_len]; omega), List.getElem?_eq_none (by rw [grp_len]; omega)]
end Go.Proofs.Ytpbnpepikkocmaa.P

namespace Go.Proofs.Ytpbnpepikkocmaa.P
open Go.RowKit Go.Proofs.YtpbnpepikkocmaaW.PrintWords Go.Proofs.YtpbnpepikkocmaaW.PrintLast
set_option linter.unusedVariables false
set_option linter.unusedSimpArgs false
theorem rd_mid (pre : List Int) (x : Int) (suf : List Int) : rd (pre ++ x :: suf) (pre.length : Int) = x := getD_mid _ pre x suf
theorem eqIntS_l (s : List Int) : ∀ (t pre qre : List Int) (k : Nat), s.length < k → pre.length = qre.length → s.length = t.length → (pre.length : Int) + s.length ≤ 1099511627776 →
    laws_eqIntS.l0 k (pre ++ s) (qre ++ t) (pre.length : Int) = some (decide (s = t)) := by
  induction s with
  | nil =>
    intro t pre qre k hk hq hl hb
    obtain ⟨k, rfl⟩ : ∃ m, k = m + 1 := ⟨k - 1, by omega⟩
    obtain rfl : t = [] := List.eq_nil_of_length_eq_zero (by simpa using hl.symm)
    simp only [laws_eqIntS.l0]
    rw [if_neg (by simp)]
    simp
  | cons x s ih =>
    intro t pre qre k hk hq hl hb
    cases t with
    | nil => simp at hl
    | cons y t =>
      simp only [List.length_cons] at hk hl hb
      obtain ⟨k, rfl⟩ : ∃ m, k = m + 1 := ⟨k - 1, by omega⟩
      have h := ih t (pre ++ [x]) (qre ++ [y]) k (by omega) (by simp; omega) (by omega) (by simp; omega)
      have hy : rd (qre ++ y :: t) (pre.length : Int) = y := by rw [hq]; exact rd_mid qre y t
      simp only [laws_eqIntS.l0]
      rw [if_pos (by simp <;> omega), if_pos (by omega), if_pos (by simp <;> omega), rd_mid, hy, wrap_id (by omega) (by omega)]
      by_cases e : x = y
      · subst e
        rw [if_pos rfl]
        simpa using h
      · rw [if_neg e]
        simp [e]
theorem eqIntS_ev (s t : List Int) (hs : s.length ≤ 1099511627776) : Ev (fun k => laws_eqIntS.f k s t) (decide (s = t)) := by
  refine ⟨s.length + 1, fun k hk => ?_⟩
  show laws_eqIntS.f k s t = _
  unfold laws_eqIntS.f
  by_cases hl : s.length = t.length
  · rw [if_pos (by omega)]
    exact eqIntS_l s t [] [] k (by omega) rfl hl (by simp; omega)
  · rw [if_neg (by omega)]
    have : s ≠ t := fun e => hl (by rw [e])
    simp [this]
end Go.Proofs.Ytpbnpepikkocmaa.P

namespace Go.Proofs.Ytpbnpepikkocmaa.P
open Go.RowKit Go.Proofs.YtpbnpepikkocmaaW.PrintWords Go.Proofs.YtpbnpepikkocmaaW.PrintLast
set_option linter.unusedVariables false
set_option linter.unusedSimpArgs false
def prs (l : List S52) : List (Nat × Nat) := l.map fun e => (e.f0.toNat, e.f1.toNat)
theorem prs_in {n : Int} {l : List S52} (h : ∀ x ∈ l, 0 ≤ x.f0 ∧ x.f0 < x.f1 ∧ x.f1 < n) : InG n.toNat (prs l) := by
  intro e he
  unfold prs at he
  obtain ⟨x, hx, rfl⟩ := List.mem_map.1 he
  have := h x hx
  constructor
  · show x.f0.toNat < n.toNat
    omega
  · show x.f1.toNat < n.toNat
    omega
theorem least_is (a b : Int) : spec_l1Least.f a b = some (min a b) := by
  unfold spec_l1Least.f
  split
  · rw [Int.min_eq_left (by omega)]
  · rw [Int.min_eq_right (by omega)]
theorem mn_is (a b : Int) : mn a b = min a b := by
  unfold mn
  split
  · rw [Int.min_eq_right (by omega)]
  · rw [Int.min_eq_left (by omega)]
theorem specGroups_l2 (l : List S52) (m : Nat) (c : Int) (R : List Int) (suf : List S52) : ∀ (pre : List S52) (out : List Int), pre ++ suf = l → (l.length : Int) ≤ 1099511627776 → out.length = m → (∀ x ∈ suf, 0 ≤ x.f0 ∧ x.f0 < x.f1 ∧ x.f1 < m) →
    Ev (fun k => spec_l8Groups.l1 k l (roundG (prs suf) out) (m : Int) (wrap64 (c + 1))) R →
    Ev (fun k => spec_l8Groups.l2 k l out (m : Int) c l (l.length : Int) (pre.length : Int)) R := by
  induction suf with
  | nil =>
    intro pre out he hb ho hx h
    refine Ev.succ ?_
    simp only [spec_l8Groups.l2]
    have c1 : ¬ (pre.length : Int) < (l.length : Int) := by rw [← he]; simp
    simp only [if_neg c1]
    exact h
  | cons x suf ih =>
    intro pre out he hb ho hx h
    have hl : l.length = pre.length + suf.length + 1 := by rw [← he]; simp <;> omega
    have c1 : (pre.length : Int) < (l.length : Int) := by omega
    have c0 : (0 : Int) ≤ (pre.length : Int) := by omega
    have hr : rd_T52 l (pre.length : Int) = x := by rw [← he]; exact rdEdge_mid _ _ _
    have hxx := hx x (by simp)
    refine Ev.succ ?_
    simp only [spec_l8Groups.l2]
    simp only [if_pos c1, if_pos c0, hr, if_pos (show 0 ≤ x.f0 by omega), if_pos (show x.f0 < (out.length : Int) by omega), if_pos (show 0 ≤ x.f1 by omega), if_pos (show x.f1 < (out.length : Int) by omega), least_is, Option.bind_some, wrap_id (x := (pre.length : Int) + 1) (by omega) (by omega)]
    have h2 := ih (pre ++ [x]) (stepG out (x.f0.toNat, x.f1.toNat)) (by rw [← he]; simp) hb (by rw [stepG_len]; exact ho) (fun y hy => hx y (by simp [hy])) h
    rw [len_one] at h2
    exact h2
theorem specGroups_l1 (l : List S52) (o0 : List Int) (hb : (l.length : Int) ≤ 1099511627776) (hm : o0.length ≤ 1000) (hx : ∀ x ∈ l, 0 ≤ x.f0 ∧ x.f0 < x.f1 ∧ x.f1 < o0.length) (d : Nat) : ∀ (c : Nat), c + d = o0.length →
    Ev (fun k => spec_l8Groups.l1 k l (iterG (prs l) o0 c) (o0.length : Int) (c : Int)) (iterG (prs l) o0 o0.length) := by
  induction d with
  | zero =>
    intro c hc
    refine Ev.succ ?_
    simp only [spec_l8Groups.l1]
    simp only [if_neg (show ¬ (c : Int) < (o0.length : Int) by omega)]
    refine Ev.some_ ?_
    rw [show c = o0.length by omega]
  | succ d ih =>
    intro c hc
    refine Ev.succ ?_
    simp only [spec_l8Groups.l1]
    simp only [if_pos (show (c : Int) < (o0.length : Int) by omega)]
    refine specGroups_l2 l o0.length (c : Int) _ l [] _ rfl hb (iterG_len _ _ _) hx ?_
    have h := ih (c + 1) (by omega)
    rw [wrap_id (x := (c : Int) + 1) (by omega) (by omega), show (c : Int) + 1 = ((c + 1 : Nat) : Int) by omega]
    exact h
theorem own0_succ (n : Nat) : own0 (n + 1) = own0 n ++ [(n : Int)] := by
  unfold own0
  rw [List.range_succ, List.map_append]
  rfl
theorem specGroups_l0 (n : Nat) (hn : n ≤ 1000) (l : List S52) (hb : (l.length : Int) ≤ 1099511627776) (hx : ∀ x ∈ l, 0 ≤ x.f0 ∧ x.f0 < x.f1 ∧ x.f1 < n) (d : Nat) : ∀ (c : Nat), c + d = n →
    Ev (fun k => spec_l8Groups.l0 k (n : Int) l (own0 c) (c : Int)) (grp n (prs l)) := by
  induction d with
  | zero =>
    intro c hc
    refine Ev.succ ?_
    simp only [spec_l8Groups.l0]
    simp only [if_neg (show ¬ (c : Int) < (n : Int) by omega)]
    have e : c = n := by omega
    subst e
    have h := specGroups_l1 l (own0 c) hb (by rw [own0_len]; exact hn) (by rw [own0_len]; exact hx) c 0 (by rw [own0_len]; omega)
    unfold grp
    rw [own0_len] at h ⊢
    exact h
  | succ d ih =>
    intro c hc
    refine Ev.succ ?_
    simp only [spec_l8Groups.l0]
    simp only [if_pos (show (c : Int) < (n : Int) by omega), if_pos (show (own0 c).length < 17592186044416 by rw [own0_len]; omega), wrap_id (x := (c : Int) + 1) (by omega) (by omega)]
    have h := ih (c + 1) (by omega)
    rw [own0_succ, show ((c + 1 : Nat) : Int) = (c : Int) + 1 by omega] at h
    exact h
def groupsM (n : Int) (l : List S52) : List Int := grp n.toNat (prs l)
theorem specGroups_ev (n : Int) (l : List S52) (h0 : 0 ≤ n) (hn : n ≤ 1000) (hb : (l.length : Int) ≤ 1048576) (hx : ∀ x ∈ l, 0 ≤ x.f0 ∧ x.f0 < x.f1 ∧ x.f1 < n) : Ev (fun k => spec_l8Groups.f k n l) (groupsM n l) := by
  obtain ⟨m, rfl⟩ := Int.eq_ofNat_of_zero_le h0
  unfold spec_l8Groups.f groupsM
  rw [Int.toNat_natCast]
  have h := specGroups_l0 m (by omega) l (by omega) hx m 0 (by omega)
  exact h
/-- the program's own way -/
theorem stepG_ne {out : List Int} {e : Nat × Nat} (h1 : e.1 < out.length) (h2 : e.2 < out.length) : stepG out e = out ↔ (at_ out e.1 = min (at_ out e.1) (at_ out e.2) ∧ at_ out e.2 = min (at_ out e.1) (at_ out e.2)) := by
  constructor
  · intro h
    have a1 := stepG_at out e h1 h2 e.1
    have a2 := stepG_at out e h1 h2 e.2
    rw [h] at a1 a2
    simp only [true_or, or_true, if_true] at a1 a2
    exact ⟨a1, a2⟩
  · intro h
    apply List.ext_getElem?
    intro v
    by_cases hv : v < out.length
    · have l1 : v < (stepG out e).length := by rw [stepG_len]; exact hv
      have a := stepG_at out e h1 h2 v
      have : at_ (stepG out e) v = at_ out v := by
        rw [a]
        split
        · rename_i hve
          rcases hve with rfl | rfl
          · exact h.1.symm
          · exact h.2.symm
        · rfl
      unfold at_ at this
      rw [List.getD_eq_getElem?_getD, List.getD_eq_getElem?_getD, List.getElem?_eq_getElem l1, List.getElem?_eq_getElem hv] at this
      rw [List.getElem?_eq_getElem l1, List.getElem?_eq_getElem hv]
      exact congrArg some this
    · rw [List.getElem?_eq_none (by rw [stepG_len]; omega), List.getElem?_eq_none (by omega)]
theorem round_moved {out : List Int} {e : Nat × Nat} {E : List (Nat × Nat)} (h1 : e.1 < out.length) (h2 : e.2 < out.length) (hE : InG out.length E) (h : stepG out e ≠ out) : roundG E (stepG out e) ≠ out := by
  intro hc
  refine h ((stepG_ne h1 h2).2 ?_)
  have key : ∀ v, at_ out v ≤ at_ (stepG out e) v := fun v => by
    have := roundG_le E (stepG out e) (by rw [stepG_len]; exact hE) v
    rw [hc] at this
    exact this
  have a1 := stepG_at out e h1 h2 e.1
  have a2 := stepG_at out e h1 h2 e.2
  simp only [true_or, or_true, if_true] at a1 a2
  have k1 := key e.1
  have k2 := key e.2
  omega
def pairs (l : List S52) : List (List Int) := l.map fun e => [e.f0, e.f1]
theorem rdLL_mid (pre : List (List Int)) (x : List Int) (suf : List (List Int)) : rd_L3 (pre ++ x :: suf) (pre.length : Int) = x := getD_mid _ pre x suf
theorem implGroups_l2 (P : List (List Int)) (R : List Int) (suf : List S52) : ∀ (pre : List S52) (out : List Int) (b : Bool), pairs (pre ++ suf) = P → (P.length : Int) ≤ 1099511627776 → (∀ x ∈ suf, 0 ≤ x.f0 ∧ x.f0 < x.f1 ∧ x.f1 < out.length) →
    Ev (fun k => impl_groups.l1 k P (roundG (prs suf) out) (b || !decide (roundG (prs suf) out = out))) R →
    Ev (fun k => impl_groups.l2 k P out b P (P.length : Int) (pre.length : Int)) R := by
  induction suf with
  | nil =>
    intro pre out b he hb hx h
    refine Ev.succ ?_
    simp only [impl_groups.l2]
    have c1 : ¬ (pre.length : Int) < (P.length : Int) := by rw [← he]; simp [pairs]
    simp only [if_neg c1]
    have e : roundG (prs []) out = out := rfl
    rw [e] at h
    simpa using h
  | cons x suf ih =>
    intro pre out b he hb hx h
    have hl : P.length = pre.length + suf.length + 1 := by rw [← he]; simp [pairs] <;> omega
    have c1 : (pre.length : Int) < (P.length : Int) := by omega
    have c0 : (0 : Int) ≤ (pre.length : Int) := by omega
    have hr : rd_L3 P (pre.length : Int) = [x.f0, x.f1] := by
      rw [← he]
      have := rdLL_mid (pairs pre) [x.f0, x.f1] (pairs suf)
      unfold pairs at this ⊢
      rw [List.length_map] at this
      simpa using this
    have hxx := hx x (by simp)
    have i1 : x.f0.toNat < out.length := by omega
    have i2 : x.f1.toNat < out.length := by omega
    have hE : InG out.length (prs suf) := by
      have := prs_in (n := (out.length : Int)) (l := suf) (fun y hy => hx y (by simp [hy]))
      simpa using this
    refine Ev.succ ?_
    simp only [impl_groups.l2]
    have r0 : rd [x.f0, x.f1] 0 = x.f0 := rfl
    have r1 : rd [x.f0, x.f1] 1 = x.f1 := rfl
    have q1 : (0 : Int) < (([x.f0, x.f1] : List Int).length : Int) := by simp
    have q2 : (1 : Int) < (([x.f0, x.f1] : List Int).length : Int) := by simp
    simp only [if_pos c1, if_pos c0, hr, if_pos q1, if_pos q2, r0, r1, if_pos (show 0 ≤ x.f0 by omega), if_pos (show x.f0 < (out.length : Int) by omega), if_pos (show 0 ≤ x.f1 by omega), if_pos (show x.f1 < (out.length : Int) by omega), mn_is, wrap_id (x := (pre.length : Int) + 1) (by omega) (by omega)]
    have go : ∀ b2 : Bool, b2 = (b || !decide (stepG out (x.f0.toNat, x.f1.toNat) = out)) →
        Ev (fun k => impl_groups.l2 k P (stepG out (x.f0.toNat, x.f1.toNat)) b2 P (P.length : Int) ((pre.length : Int) + 1)) R := by
      intro b2 hb2
      have h2 := ih (pre ++ [x]) (stepG out (x.f0.toNat, x.f1.toNat)) b2 (by rw [← he]; simp) hb (by rw [stepG_len]; exact fun y hy => hx y (by simp [hy])) (by
        have e : (b2 || !decide (roundG (prs suf) (stepG out (x.f0.toNat, x.f1.toNat)) = stepG out (x.f0.toNat, x.f1.toNat))) = (b || !decide (roundG (prs (x :: suf)) out = out)) := by
          rw [hb2]
          have er : roundG (prs (x :: suf)) out = roundG (prs suf) (stepG out (x.f0.toNat, x.f1.toNat)) := rfl
          rw [er]
          by_cases hs : stepG out (x.f0.toNat, x.f1.toNat) = out
          · simp only [hs, decide_true, Bool.not_true, Bool.or_false]
          · have hm := round_moved i1 i2 hE hs
            simp [hs, hm]
        rw [e]
        exact h)
      rw [len_one] at h2
      exact h2
    have hs := stepG_ne (out := out) (e := (x.f0.toNat, x.f1.toNat)) i1 i2
    have es : (out.set x.f0.toNat (min (rd out x.f0) (rd out x.f1))).set x.f1.toNat (min (rd out x.f0) (rd out x.f1)) = stepG out (x.f0.toNat, x.f1.toNat) := rfl
    have e1 : rd out x.f0 = at_ out x.f0.toNat := rfl
    have e2 : rd out x.f1 = at_ out x.f1.toNat := rfl
    rw [es]
    cases b with
    | true =>
      simp only [if_true]
      exact go true (by simp)
    | false =>
      simp only [Bool.false_eq_true, if_false]
      by_cases g1 : rd out x.f0 = min (rd out x.f0) (rd out x.f1)
      · simp only [if_pos g1]
        refine go _ ?_
        rw [Bool.false_or]
        by_cases g2 : rd out x.f1 = min (rd out x.f0) (rd out x.f1)
        · have : stepG out (x.f0.toNat, x.f1.toNat) = out := hs.2 ⟨g1, g2⟩
          rw [← g2]
          simp [this]
        · have : stepG out (x.f0.toNat, x.f1.toNat) ≠ out := fun h => g2 (hs.1 h).2
          simp only [this, decide_false, Bool.not_false]
          rw [bne_iff_ne]
          exact g2
      · simp only [if_neg g1]
        refine go true ?_
        have : stepG out (x.f0.toNat, x.f1.toNat) ≠ out := fun h => g1 (hs.1 h).1
        simp [this]
theorem implGroups_l1 (l : List S52) (n : Nat) (hb : (l.length : Int) ≤ 1048576) (hx : ∀ x ∈ l, 0 ≤ x.f0 ∧ x.f0 < x.f1 ∧ x.f1 < n) (d : Nat) : ∀ (c : Nat), c + d = n + 1 →
    Ev (fun k => impl_groups.l1 k (pairs l) (iterG (prs l) (own0 n) c) true) (grp n (prs l)) := by
  have hE : InG n (prs l) := by
    have := prs_in (n := (n : Int)) (l := l) hx
    simpa using this
  have stay : ∀ j, iterG (prs l) (own0 n) (n + j) = grp n (prs l) := by
    intro j
    induction j with
    | zero => rfl
    | succ j ihj =>
      show roundG (prs l) (iterG (prs l) (own0 n) (n + j)) = _
      rw [ihj]
      exact iterG_fix hE
  have fixed : ∀ c, c ≤ n → roundG (prs l) (iterG (prs l) (own0 n) c) = iterG (prs l) (own0 n) c → iterG (prs l) (own0 n) c = grp n (prs l) := by
    intro c hc hf
    have : ∀ j, iterG (prs l) (own0 n) (c + j) = iterG (prs l) (own0 n) c := by
      intro j
      induction j with
      | zero => rfl
      | succ j ihj =>
        show roundG (prs l) (iterG (prs l) (own0 n) (c + j)) = _
        rw [ihj]
        exact hf
    have h := this (n - c)
    rw [show c + (n - c) = n by omega] at h
    exact h.symm
  induction d with
  | zero =>
    intro c hc
    have hc : c = n + 1 := by omega
    subst hc
    refine Ev.succ ?_
    simp only [impl_groups.l1, if_true]
    refine implGroups_l2 (pairs l) _ l [] _ false rfl (by simp [pairs]; omega) (by rw [iterG_len, own0_len]; exact hx) ?_
    have e1 : iterG (prs l) (own0 n) (n + 1) = grp n (prs l) := stay 1
    rw [e1, iterG_fix hE]
    simp only [decide_true, Bool.not_true, Bool.or_false]
    refine Ev.succ ?_
    simp only [impl_groups.l1, Bool.false_eq_true, if_false]
    exact Ev.now _
  | succ d ih =>
    intro c hc
    refine Ev.succ ?_
    simp only [impl_groups.l1, if_true]
    refine implGroups_l2 (pairs l) _ l [] _ false rfl (by simp [pairs]; omega) (by rw [iterG_len, own0_len]; exact hx) ?_
    by_cases hf : roundG (prs l) (iterG (prs l) (own0 n) c) = iterG (prs l) (own0 n) c
    · rw [hf]
      simp only [decide_true, Bool.not_true, Bool.or_false]
      refine Ev.succ ?_
      simp only [impl_groups.l1, Bool.false_eq_true, if_false]
      exact Ev.some_ (fixed c (by omega) hf)
    · simp only [hf, decide_false, Bool.not_false, Bool.or_true]
      exact ih (c + 1) (by omega)
theorem implGroups_l0 (n : Nat) (hn : n ≤ 1000) (l : List S52) (hb : (l.length : Int) ≤ 1048576) (hx : ∀ x ∈ l, 0 ≤ x.f0 ∧ x.f0 < x.f1 ∧ x.f1 < n) (d : Nat) : ∀ (c : Nat), c + d = n →
    Ev (fun k => impl_groups.l0 k (pairs l) (own0 c ++ List.replicate d 0) (n : Int) (c : Int)) (grp n (prs l)) := by
  induction d with
  | zero =>
    intro c hc
    have hc : c = n := by omega
    subst hc
    refine Ev.succ ?_
    simp only [impl_groups.l0]
    simp only [if_neg (show ¬ (c : Int) < (c : Int) by omega), List.replicate_zero, List.append_nil]
    exact implGroups_l1 l c hb hx (c + 1) 0 (by omega)
  | succ d ih =>
    intro c hc
    refine Ev.succ ?_
    simp only [impl_groups.l0]
    have hl : (own0 c ++ List.replicate (d + 1) (0 : Int)).length = n := by simp [own0_len]; omega
    simp only [if_pos (show (c : Int) < (n : Int) by omega), if_pos (show (0 : Int) ≤ (c : Int) by omega), if_pos (show (c : Int) < ((own0 c ++ List.replicate (d + 1) (0 : Int)).length : Int) by omega), wrap_id (x := (c : Int) + 1) (by omega) (by omega)]
    have h := ih (c + 1) (by omega)
    have e : (own0 c ++ List.replicate (d + 1) (0 : Int)).set ((c : Int)).toNat (c : Int) = own0 (c + 1) ++ List.replicate d 0 := by
      rw [own0_succ, List.replicate_succ]
      have := set_mid (own0 c) (0 : Int) (c : Int) (List.replicate d 0)
      rw [own0_len] at this
      rw [this]
      simp
    rw [e, show ((c : Int)) + 1 = ((c + 1 : Nat) : Int) by omega]
    exact h
theorem implGroups_ev (n : Int) (l : List S52) (h0 : 0 ≤ n) (hn : n ≤ 1000) (hb : (l.length : Int) ≤ 1048576) (hx : ∀ x ∈ l, 0 ≤ x.f0 ∧ x.f0 < x.f1 ∧ x.f1 < n) : Ev (fun k => impl_groups.f k n (pairs l)) (groupsM n l) := by
  obtain ⟨m, rfl⟩ := Int.eq_ofNat_of_zero_le h0
  unfold impl_groups.f groupsM
  simp only [if_pos h0, Int.toNat_natCast, if_pos (show m ≤ 35184372088832 by omega), Option.bind_some, List.length_replicate]
  have h := implGroups_l0 m (by omega) l hb hx m 0 (by omega)
  exact h
theorem implGroupsOf_l0 (n : Int) (R : List Int) (suf : List S52) : ∀ (pre : List S52), ((pre ++ suf).length : Int) ≤ 1048576 → Ev (fun k => impl_groups.f k n (pairs (pre ++ suf))) R →
    Ev (fun k => impl_groupsOf.l0 k n (pairs pre) (pre ++ suf) ((pre ++ suf).length : Int) (pre.length : Int)) R := by
  induction suf with
  | nil =>
    intro pre hb h
    refine Ev.succ ?_
    simp only [impl_groupsOf.l0]
    simp only [if_neg (show ¬ (pre.length : Int) < ((pre ++ ([] : List S52)).length : Int) by simp)]
    rw [List.append_nil] at h
    exact Ev.bind h (Ev.now _)
  | cons x suf ih =>
    intro pre hb h
    have c1 : (pre.length : Int) < ((pre ++ x :: suf).length : Int) := by simp <;> omega
    have c0 : (0 : Int) ≤ (pre.length : Int) := by omega
    have hp : (pairs pre).length < 5864062014805 := by simp [pairs]; omega
    refine Ev.succ ?_
    simp only [impl_groupsOf.l0]
    simp only [if_pos c1, if_pos c0, rdEdge_mid, if_pos hp, wrap_id (x := (pre.length : Int) + 1) (by omega) (by omega)]
    have h2 := ih (pre ++ [x]) (by rw [← app_one]; exact hb) (by rw [← app_one]; exact h)
    rw [← app_one, len_one] at h2
    have e : pairs (pre ++ [x]) = pairs pre ++ [[x.f0, x.f1]] := by simp [pairs]
    rw [e] at h2
    exact h2
theorem implGroupsOf_ev (n : Int) (l : List S52) (h0 : 0 ≤ n) (hn : n ≤ 1000) (hb : (l.length : Int) ≤ 1048576) (hx : ∀ x ∈ l, 0 ≤ x.f0 ∧ x.f0 < x.f1 ∧ x.f1 < n) : Ev (fun k => impl_groupsOf.f k n l) (groupsM n l) := by
  unfold impl_groupsOf.f
  exact implGroupsOf_l0 n _ l [] (by simpa using hb) (implGroups_ev n l h0 hn hb hx)
def groupsOf (n : Int) (l : List S52) : List Int × Bool := if goodE n l = true then (groupsM n l, true) else ([], false)
theorem specGroupsOf_ev (n : Int) (l : List S52) (hl : l.length ≤ 1048576) : Ev (fun k => spec_GroupsOf.f k n l) (groupsOf n l) := by
  unfold spec_GroupsOf.f
  refine Ev.bind (specGoodE_ev n l hl) ?_
  unfold groupsOf
  cases hg : goodE n l with
  | false => simp only [Bool.false_eq_true, if_false]; exact Ev.now _
  | true =>
    have hn := goodE_n hg
    simp only [if_true]
    exact Ev.bind (specGroups_ev n l (by omega) (by omega) (by omega) (fun x hx => by have := goodE_edge hg x hx; omega)) (Ev.now _)
theorem implGroupsOfTop_ev (n : Int) (l : List S52) (hl : l.length ≤ 1048576) : Ev (fun k => impl_GroupsOf.f k n l) (groupsOf n l) := by
  unfold impl_GroupsOf.f
  refine Ev.bind (implGoodE_ev n l hl) ?_
  unfold groupsOf
  cases hg : goodE n l with
  | false => simp only [Bool.false_eq_true, if_false]; exact Ev.now _
  | true =>
    have hn := goodE_n hg
    simp only [if_true]
    exact Ev.bind (implGroupsOf_ev n l (by omega) (by omega) (by omega) (fun x hx => by have := goodE_edge hg x hx; omega)) (Ev.now _)
theorem groupsOf_len (n : Int) (l : List S52) : (groupsOf n l).1.length ≤ 12 := by
  unfold groupsOf
  split
  · rename_i hg
    have := goodE_n hg
    unfold groupsM
    simp only [grp_len]
    omega
  · simp
end Go.Proofs.Ytpbnpepikkocmaa.P

namespace Go.Proofs.Ytpbnpepikkocmaa.P
open Go.RowKit Go.Proofs.YtpbnpepikkocmaaW.PrintWords Go.Proofs.YtpbnpepikkocmaaW.PrintLast
set_option linter.unusedVariables false
set_option linter.unusedSimpArgs false
def marksI : Nat → Int → List Int
  | 0, _ => []
  | n + 1, q => q :: marksI n (q + 1)
theorem markIntS_l (suf : List Int) : ∀ (pre : List Int) (k : Nat) (q : Int), suf.length < k → (pre.length : Int) + suf.length ≤ 1099511627776 → 0 ≤ q → q + suf.length ≤ 4611686018427387904 →
    laws_markIntS.l0 k (pre ++ suf) q (pre.length : Int) = some (q + suf.length, pre ++ marksI suf.length q) := by
  induction suf with
  | nil =>
    intro pre k q hk hb h0 h1
    obtain ⟨k, rfl⟩ : ∃ m, k = m + 1 := ⟨k - 1, by omega⟩
    simp only [laws_markIntS.l0]
    rw [if_neg (by simp)]
    simp [marksI]
  | cons x suf ih =>
    intro pre k q hk hb h0 h1
    simp only [List.length_cons] at hk hb h1
    obtain ⟨k, rfl⟩ : ∃ m, k = m + 1 := ⟨k - 1, by omega⟩
    have h := ih (pre ++ [q]) k (q + 1) (by omega) (by simp <;> omega) (by omega) (by omega)
    simp only [laws_markIntS.l0]
    rw [if_pos (by simp <;> omega), if_pos (by omega), set_mid, wrap_id (x := q + 1) (by omega) (by omega), wrap_id (x := (pre.length : Int) + 1) (by omega) (by omega)]
    rw [len_one] at h
    rw [app_one, h]
    simp only [marksI, List.length_cons, List.append_assoc, List.cons_append, List.nil_append, Option.some.injEq, Prod.mk.injEq, and_true]
    omega
theorem markIntS_ev (l : List Int) (q : Int) (hl : l.length ≤ 1099511627776) (h0 : 0 ≤ q) (h1 : q ≤ 1099511627776) : Ev (fun k => laws_markIntS.f k l q) (q + l.length, marksI l.length q) := by
  refine ⟨l.length + 1, fun k hk => ?_⟩
  show laws_markIntS.f k l q = _
  unfold laws_markIntS.f
  simpa using markIntS_l l [] k q (by omega) (by simp <;> omega) h0 (by omega)
theorem heldIntS_l (n : Nat) : ∀ (pre : List Int) (k : Nat) (q : Int), n < k → (pre.length : Int) + n ≤ 1099511627776 → 0 ≤ q → q + n ≤ 4611686018427387904 →
    laws_heldIntS.l0 k (pre ++ marksI n q) q (pre.length : Int) = some (q + n) := by
  induction n with
  | zero =>
    intro pre k q hk hb h0 h1
    obtain ⟨k, rfl⟩ : ∃ m, k = m + 1 := ⟨k - 1, by omega⟩
    simp only [laws_heldIntS.l0]
    rw [show marksI 0 q = [] from rfl, if_neg (by simp)]
    simp
  | succ n ih =>
    intro pre k q hk hb h0 h1
    obtain ⟨k, rfl⟩ : ∃ m, k = m + 1 := ⟨k - 1, by omega⟩
    have h := ih (pre ++ [q]) k (q + 1) (by omega) (by simp <;> omega) (by omega) (by omega)
    simp only [laws_heldIntS.l0]
    rw [show marksI (n + 1) q = q :: marksI n (q + 1) from rfl]
    rw [if_pos (by simp <;> omega), if_pos (by omega), rd_mid, if_pos rfl, wrap_id (x := q + 1) (by omega) (by omega), wrap_id (x := (pre.length : Int) + 1) (by omega) (by omega)]
    rw [len_one] at h
    rw [app_one, h]
    simp only [Option.some.injEq]
    omega
theorem heldIntS_ev (n : Nat) (q : Int) (hl : n ≤ 1099511627776) (h0 : 0 ≤ q) (h1 : q ≤ 1099511627776) : Ev (fun k => laws_heldIntS.f k (marksI n q) q) (q + n) := by
  refine ⟨n + 1, fun k hk => ?_⟩
  show laws_heldIntS.f k (marksI n q) q = _
  unfold laws_heldIntS.f
  exact heldIntS_l n [] k q (by omega) (by simp <;> omega) h0 (by omega)
end Go.Proofs.Ytpbnpepikkocmaa.P

namespace Go.Proofs.Ytpbnpepikkocmaa.P
open Go.RowKit Go.Proofs.YtpbnpepikkocmaaW.PrintWords Go.Proofs.YtpbnpepikkocmaaW.PrintLast
set_option linter.unusedVariables false
set_option linter.unusedSimpArgs false
def marksEdge : Nat → Int → List S52
  | 0, _ => []
  | n + 1, q => ⟨q, q + 1, q + 2⟩ :: marksEdge n (q + 3)
theorem markEdgeS_l (suf : List S52) : ∀ (pre : List S52) (k : Nat) (q : Int), suf.length < k → (pre.length : Int) + suf.length ≤ 1099511627776 → 0 ≤ q → q + 3 * suf.length ≤ 4611686018427387904 →
    laws_markEdgeS.l0 k (pre ++ suf) q (pre.length : Int) = some (q + 3 * suf.length, pre ++ marksEdge suf.length q) := by
  induction suf with
  | nil =>
    intro pre k q hk hb h0 h1
    obtain ⟨k, rfl⟩ : ∃ m, k = m + 1 := ⟨k - 1, by omega⟩
    simp only [laws_markEdgeS.l0]
    rw [if_neg (by simp)]
    simp [marksEdge]
  | cons x suf ih =>
    intro pre k q hk hb h0 h1
    simp only [List.length_cons] at hk hb h1
    obtain ⟨k, rfl⟩ : ∃ m, k = m + 1 := ⟨k - 1, by omega⟩
    have h := ih (pre ++ [⟨q, q + 1, q + 2⟩]) k (q + 3) (by omega) (by simp <;> omega) (by omega) (by omega)
    simp only [laws_markEdgeS.l0]
    rw [if_pos (by simp <;> omega), if_pos (by omega)]
    simp only [Option.bind_some, set_mid, rdEdge_mid]
    rw [wrap_id (x := q + 1) (by omega) (by omega), wrap_id (x := q + 1 + 1) (by omega) (by omega), wrap_id (x := q + 1 + 1 + 1) (by omega) (by omega), wrap_id (x := (pre.length : Int) + 1) (by omega) (by omega)]
    rw [show q + 1 + 1 = q + 2 from by omega, show q + 2 + 1 = q + 3 from by omega]
    rw [show ((pre ++ [(⟨q, q + 1, q + 2⟩ : S52)]).length : Int) = (pre.length : Int) + 1 from by simp] at h
    rw [app_one, h]
    simp only [marksEdge, List.length_cons, List.append_assoc, List.cons_append, List.nil_append, Option.some.injEq, Prod.mk.injEq, and_true]
    omega
theorem markEdgeS_ev (l : List S52) (q : Int) (hl : l.length ≤ 1099511627776) (h0 : 0 ≤ q) (h1 : q ≤ 1099511627776) : Ev (fun k => laws_markEdgeS.f k l q) (q + 3 * l.length, marksEdge l.length q) := by
  refine ⟨l.length + 1, fun k hk => ?_⟩
  show laws_markEdgeS.f k l q = _
  unfold laws_markEdgeS.f
  simpa using markEdgeS_l l [] k q (by omega) (by simp <;> omega) h0 (by omega)
end Go.Proofs.Ytpbnpepikkocmaa.P

namespace Go.Proofs.Ytpbnpepikkocmaa.Pure
open Go.RowKit Go.Proofs.Ytpbnpepikkocmaa.P Go.Proofs.YtpbnpepikkocmaaW.PrintWords Go.Proofs.YtpbnpepikkocmaaW.PrintLast
set_option linter.unusedVariables false
set_option linter.unusedSimpArgs false
theorem FnExactGroupsOf : laws_FnExactGroupsOf.Pure := by
  intro a0 l _ ⟨hm, _⟩
  refine Ev.rounds ?_
  unfold laws_FnExactGroupsOf.f
  rw [szEdgeS_is l hm 1048576 (by omega) (by omega)]
  simp only [Option.bind_some]
  by_cases h : (1048576 : Int) - l.length < 0
  · simp only [if_pos h]
    exact Ev.now _
  · have hl : l.length ≤ 1048576 := by omega
    have hl2 : (l.map cvEdge).length ≤ 1048576 := by simpa using hl
    have hr := groupsOf_len a0 (l.map cvEdge)
    simp only [if_neg h]
    refine Ev.bind (toEdgeS_ev l hl) ?_
    refine Ev.bind (specGroupsOf_ev a0 _ hl2) ?_
    refine Ev.bind (toEdgeS_ev l hl) ?_
    refine Ev.bind (implGroupsOfTop_ev a0 _ hl2) ?_
    have hi := implGroupsOfTop_ev a0 _ hl2
    generalize groupsOf a0 (l.map cvEdge) = r at hr hi
    refine Ev.bind (eqIntS_ev _ _ (by omega)) ?_
    simp only [decide_true, if_true, bne_self_eq_false]
    refine Ev.succ ?_
    simp only [laws_FnExactGroupsOf.j0, Bool.false_eq_true, if_false]
    refine Ev.bind (toEdgeS_ev l hl) ?_
    refine Ev.bind (eqEdgeS_ev _ _ (by omega)) ?_
    simp only [decide_true, if_true]
    refine Ev.bind (markEdgeS_ev _ 1 (by omega) (by omega) (by omega)) ?_
    simp only [if_neg (show ¬ (1 + 3 * ((l.map cvEdge).length : Int)) < 0 by omega)]
    refine Ev.bind (eqIntS_ev _ _ (by omega)) ?_
    simp only [decide_true, if_true, bne_self_eq_false]
    refine Ev.succ ?_
    simp only [laws_FnExactGroupsOf.j1, Bool.false_eq_true, if_false]
    refine Ev.bind (markIntS_ev _ 1 (by omega) (by omega) (by omega)) ?_
    refine Ev.bind (heldIntS_ev _ 1 (by omega) (by omega) (by omega)) ?_
    simp only [if_neg (show ¬ (1 + (r.1.length : Int)) < 0 by omega), if_true]
    refine Ev.bind (toEdgeS_ev l hl) ?_
    refine Ev.bind hi ?_
    refine Ev.bind (eqIntS_ev _ _ (by omega)) ?_
    simp only [decide_true, if_true, bne_self_eq_false]
    refine Ev.succ ?_
    simp only [laws_FnExactGroupsOf.j2, Bool.false_eq_true, if_false]
    refine Ev.bind (heldIntS_ev _ 1 (by omega) (by omega) (by omega)) ?_
    simp only [if_neg (show ¬ (1 + (r.1.length : Int)) < 0 by omega), if_true]
    exact Ev.now _
end Go.Proofs.Ytpbnpepikkocmaa.Pure
