/- Functions, walks and plain lemmas that the law FnExactSettleNames reaches, part 2. -/
import Derived.Test.YtljdenmmlkjapaaCFnExactSettleNames1
import Derived.WalkKit
import Derived.ProofKit
import Derived.OpenShut
import Derived.ChangeOld
import Derived.Below
import Derived.SizedLaws
import Derived.ChangeArms
import Derived.DataElems
import Derived.Deep.Draws
import Derived.Deep.AppendLies
import Derived.Maps.AppendAt
import Derived.OwnWalk
import Derived.Laws.BytesArg
import Derived.Laws.MakeOwn
import Derived.Laws.OwnMore
import Derived.Deep.OwnRows
import Derived.Tactics
import Derived.Lib.ConvBytes
import Derived.Laws.Slices
import Derived.KernelRfl
import Derived.RowKit3
import Derived.Deep.LoopGhost
import Derived.Deep.QuietTactic
import Derived.BigQuiet
import Derived.WideLaws
import Derived.Deep.DeepCutAuto
import Derived.Deep.CutBlock
import Derived.Deep.RegionHeld3
import Derived.Laws.Rows
import Derived.Lib.AppendStr
import Derived.ArgAppend
import Derived.Laws.IdiomCopy
import Derived.OrdersHeld
import Derived.Laws.BitsLemmas
import Derived.RowKit
import Derived.WalkSpells
import Derived.Lib.SliceRun
import Derived.Shelf.Abstract
import Derived.ShutString
import Derived.Test.YtljdenmmlkjapaaWWords
import Derived.Test.YtljdenmmlkjapaaWLast
import Derived.Test.YtljdenmmlkjapaaWTab
import Derived.Test.YtljdenmmlkjapaaWApart
import Derived.Test.YtljdenmmlkjapaaWKept
import Derived.Test.YtljdenmmlkjapaaWMore
namespace Go.Proofs.Ytljdenmmlkjapaa.P
open Go.RowKit Go.Proofs.YtljdenmmlkjapaaW.PrintWords Go.Proofs.YtljdenmmlkjapaaW.PrintLast Go.Proofs.YtljdenmmlkjapaaW.PrintMore
attribute [local go_sem] max2_int min2_int max_two min_two max_three min_three max_four min_four   -- for this text's walks alone
set_option linter.unusedVariables false
set_option linter.unusedSimpArgs false
def spec_SettleNames.l0 : Nat → List (S26) → Int → Option ((List (S26)) × Int × Bool)
  | 0, _, _ => none
  | k + 1, x5, x6 => (spec_l11Give.f k x5).bind fun bt380 => (if bt380.1 > 0 then (spec_SettleNames.l0 k bt380.2 (wrap64 (x6 + 1))) else (some (bt380.2, x6, true)))
def spec_SettleNames.f (k : Nat) (l0 : List (S26)) : Option ((List (S26)) × Int × Bool) := (spec_GoodOwners.f k l0).bind fun t373 => (if t373 = true then ((some (([] : List (S26)) : List (S26))).bind fun y374 => (if y374.length + l0.length < 5864062014805 then (spec_SettleNames.l0 k (y374 ++ l0) 0) else (none))) else (some (([] : List (S26)), 0, false)))
set_option maxHeartbeats 8000000 in
set_option maxRecDepth 100000 in
theorem spec_SettleNames.calls (k : Nat) (A0 : Option Addr) (c0 : Nat) (l0 : List (S26)) (r1 : List (S26)) (r2 : Int) (r3 : Bool) (w : World) (hr0 : Kd.C k26 w A0 l0.length l0) (hc0 : l0.length ≤ c0) (h : spec_SettleNames.f k l0 = some (r1, r2, r3)) :
    Calls Try.prog 33 #[.slice A0 l0.length c0] w fun e w' => ∃ v0_ : Value, e = .returned (.tuple #[v0_, .int .i64 r2, .bool r3]) ∧ Kd.R k26 26 w' w.heap.size (fun _ => True) v0_ r1 ∧ Below w.heap.size w w' := by
  have HR0 := Aside0.mk hr0
  have HC0 := Aside0.mk hc0
  clear hr0 hc0
  have HB := Aside0.mk (Below.refl w.heap.size w)
  have H : ((spec_GoodOwners.f k l0).bind fun t373 => (if t373 = true then ((some (([] : List (S26)) : List (S26))).bind fun y374 => (if y374.length + l0.length < 5864062014805 then (spec_SettleNames.l0 k (y374 ++ l0) 0) else (none))) else (some (([] : List (S26)), 0, false)))) = some (r1, r2, r3) := h
  clear h
  replace H := Option.bind_eq_some_iff.mp H
  obtain ⟨t373, A20, H⟩ := H
  replace H : (if t373 = true then ((some (([] : List (S26)) : List (S26))).bind fun y374 => (if y374.length + l0.length < 5864062014805 then (spec_SettleNames.l0 k (y374 ++ l0) 0) else (none))) else (some (([] : List (S26)), 0, false))) = some (r1, r2, r3) := H
  have A2 := Aside0.mk A20
  clear A20
  by_cases c3 : t373 = true
  · subst c3
    have H1 : ((some (([] : List (S26)) : List (S26))).bind fun y374 => (if y374.length + l0.length < 5864062014805 then (spec_SettleNames.l0 k (y374 ++ l0) 0) else (none))) = some (r1, r2, r3) := by rw [if_pos rfl] at H; exact H
    clear H
    have H := H1
    clear H1
    obtain ⟨y374, hy374⟩ : ∃ y_ : List (S26), y_ = (([] : List (S26))) := ⟨_, rfl⟩
    replace H : (if y374.length + l0.length < 5864062014805 then (spec_SettleNames.l0 k (y374 ++ l0) 0) else (none)) = some (r1, r2, r3) := by first | (rw [hy374]; with_reducible exact H) | (have H2_ := (Option.bind_some _ _).symm.trans H; rw [hy374]; with_reducible exact H2_) | (have H2_ := (Option.bind_some _ _).symm.trans H; with_reducible exact H2_) | with_reducible exact H | (rw [hy374]; exact H) | exact H
    have Ny374 := Aside0.mk hy374
    clear hy374
    by_cases c4 : y374.length + l0.length < 5864062014805
    · rw [if_pos c4] at H
      have LMc4 := Aside0.mk c4
      clear c4
      obtain ⟨y377, hy377⟩ : ∃ y_ : List (S26), y_ = (y374 ++ l0) := ⟨_, rfl⟩
      replace H : (spec_SettleNames.l0 k y377 0) = some (r1, r2, r3) := by first | (rw [hy377]; with_reducible exact H) | (have H2_ := (Option.bind_some _ _).symm.trans H; rw [hy377]; with_reducible exact H2_) | (have H2_ := (Option.bind_some _ _).symm.trans H; with_reducible exact H2_) | with_reducible exact H | (rw [hy377]; exact H) | exact H
      have Ny377 := Aside0.mk hy377
      clear hy377
      have H' := Aside0.mk H
      clear H
      go_enter Try.func33, Try.ntmps33
      go_wp2_with (first | ((with_reducible refine gate_callee (f := 17) rfl ?_); refine goesL_ (some 8) rfl rfl Try.func17 (by kernel_rfl) rfl #[.slice A0 l0.length c0] rfl (by (try simp only [List.map_toArray, List.map_cons, List.map_nil]); first | done | rfl | (simp only [List.length_drop, List.length_take]; rfl)) ?_; (with_reducible refine (spec_GoodOwners.calls k _ _ l0 true _ ?side1 ?side2 A2.out).mono ?_); (case side1 => repeat (first | exact HR0.out | (with_reducible refine Kd.C_alloc ?_ _) | (with_reducible refine Kd.C_drewN ?_ _) | (with_reducible refine Kd.C_drew ?_))); (case side2 => exact HC0.out); rintro e w5 ⟨rfl, hb⟩; refine ⟨_, rfl, ?_⟩; have n0_ := Aside0.mk (below_step (by repeat (first | (with_reducible first | exact HB.out | apply below_alloc | apply pw_below_drewN | apply below_drew1) | exact HB.out)) hb); clear HB; have HB := n0_; clear n0_; (try clear hb); (try clear hb2); (try clear hk); (try clear hi)) | ((with_reducible refine gate_dst (N := 10) rfl ?_); refine Kd.R_lit k26 _ 26 ?hg (N := 10) ?hd (xs := ([] : List (S26))) (inner := []) (ok := fun _ => True) (okp := fun _ => True) ?hr ?hp (fun _ hk => hk) trivial (Below.refl _ _) (Nat.le_refl _) (by simp) ?_; (case hd => rfl); (case hg => rfl); (case hr => first | (go_simp; done) | (go_simp; rfl)); (case hp => exact (Reps.none _ _)); intro v375 w6 ho7 hb hg_ hnew_; clear hg_ hnew_; (first | rw [← Ny374.out] at ho7 | (simp only [Int.reduceToNat] at ho7; rw [← Ny374.out] at ho7)); have n0_ := Aside0.mk (Kd.R_lower ho7 (below_size (by repeat (first | (with_reducible first | exact HB.out | apply below_alloc | apply pw_below_drewN | apply below_drew1) | exact HB.out)))); have n1_ := Aside0.mk (below_step (by repeat (first | (with_reducible first | exact HB.out | apply below_alloc | apply pw_below_drewN | apply below_drew1) | exact HB.out)) hb); clear HB; have HO376 := n0_; have HB := n1_; clear n0_ n1_; clear hb ho7) | ((with_reducible refine gate_builtin (b := .append) (xs := #[.tmp 10, .tmp 11]) rfl ?_); at_builtin; refine Kd.R_append_rows k26 (w0 := w) w.heap.size rfl (.tmp 10) (.tmp 11) 32 26 (.agg #[(.int .i64 0), (.int .i64 0), (.int .i64 0)]) 24 rfl Try.underlying32 info26 rfl (by decide) (by omega) v375 y374 l0 _ _ _ (fun _ => True) (fun _ => False) rfl rfl ?aO ?aR (fun _ _ h => h) (fun _ h => h.elim) ?aF ?aB ?aS ?aL ?_; (case aR => repeat (first | exact (Kd.C_below HR0.out HB.out) | (with_reducible refine Kd.C_alloc ?_ _) | (with_reducible refine Kd.C_drewN ?_ _) | (with_reducible refine Kd.C_drew ?_))); (case aB => exact (by repeat (first | (with_reducible first | exact HB.out | apply below_alloc | apply pw_below_drewN | apply below_drew1) | exact HB.out))); (case aF => exact (fun _ _ => trivial)); (case aO => exact (by (with_reducible repeat (first | apply Kd.R_alloc | apply Kd.R_drewN | apply Kd.R_drew)); exact HO376.out)); (case aS => exact (below_size (by repeat (first | (with_reducible first | exact HB.out | apply below_alloc | apply pw_below_drewN | apply below_drew1) | exact HB.out)))); (case aL => have := LMc4.out; omega); intro v378 w8 ho hb hg hat; rw [← Ny377.out] at ho; have n0_ := Aside0.mk (hb); have n1_ := Aside0.mk (ho); clear HB; clear HO376; have HB := n0_; have HO379 := n1_; clear n0_ n1_; clear ho hb hg hat))
      go_loopg [6] k (fun kq v6 w' => ∃ (x5_1 : List (S26)) (x6_1 : Int), v6 = .int .i64 x6_1 ∧ Aside0 (spec_SettleNames.l0 kq x5_1 x6_1 = some (r1, r2, r3)) ∧ Aside0 (kq ≤ k) ∧ Aside0 (Kd.R k26 26 w' w.heap.size (fun _ => True) v378 x5_1) ∧ Aside0 (Below w.heap.size w w'))
      case atStart => exact ⟨(y377), (0), (by first | rfl | (simp; done) | (simp [*]; done)), H', ⟨Nat.le_refl _⟩, ⟨by (with_reducible repeat (first | apply Kd.R_alloc | apply Kd.R_drewN | apply Kd.R_drew)); exact HO379.out⟩, ⟨by repeat (first | (with_reducible first | exact HB.out | apply below_alloc | apply pw_below_drewN | apply below_drew1) | exact HB.out)⟩⟩
      case round =>
        clear H'
        try clear c1
        try clear p2
        try clear c3
        try clear c4
        obtain ⟨x5_1, x6_1, rfl, HA, HK1, HO_5, HB⟩ := hrel
        cases gk with
        | zero => exact absurd HA.out (by simp [spec_SettleNames.l0])
        | succ k1 =>
          have H := HA.out
          clear HA
          simp only [spec_SettleNames.l0] at H
          replace H := Option.bind_eq_some_iff.mp H
          obtain ⟨⟨t380, t381⟩, A90, H⟩ := H
          replace H : (if t380 > 0 then (spec_SettleNames.l0 k1 t381 (wrap64 (x6_1 + 1))) else (some (t381, x6_1, true))) = some (r1, r2, r3) := H
          have A9 := Aside0.mk A90
          clear A90
          by_cases c10 : t380 > 0
          · rw [if_pos c10] at H
            have c10b0 : decide (0 < t380) = true := decide_eq_true c10
            clear c10
            have H' := Aside0.mk H
            clear H
            obtain ⟨Ao11, co11, eo11⟩ := Kd.R_slice HO_5.out
            subst eo11
            go_wp2_with (first | ((with_reducible refine gate_callee (f := 52) rfl ?_); refine goesL_ (some 14) rfl rfl Try.func52 (by kernel_rfl) rfl #[.slice Ao11 x5_1.length co11] rfl (by (try simp only [List.map_toArray, List.map_cons, List.map_nil]); first | done | rfl | (simp only [List.length_drop, List.length_take]; rfl)) ?_; (with_reducible refine (spec_l11Give.calls k1 (fun k_ => some k_ = (.slice Ao11 x5_1.length co11 : Value).ownBlock) (.slice Ao11 x5_1.length co11) x5_1 t380 t381 w _ ?side1 ?side2 A9.out).mono ?_); (case side1 => repeat (first | (with_reducible first | exact HB.out | apply below_alloc | apply pw_below_drewN | apply below_drew1) | exact HB.out)); (case side2 => exact Kd.R_tight rfl HO_5.out); rintro e w12 ⟨rfl, hy0, hb, hkp⟩; refine ⟨_, rfl, ?_⟩; have n0_ := Aside0.mk (Kd.R_reok rfl hy0 (fun k_ e_ => HO_5.out.1 k_ e_)); have n1_ := Aside0.mk (hb); clear HO_5; clear HB; have HO_5 := n0_; have HB := n1_; clear n0_ n1_; (try clear hb); (try clear hkp); (try clear hy0)))
            go_roundg k1
            case measure => have := HK1.out; omega
            case rel => exact ⟨(t381), (wrap64 (x6_1 + 1)), (by first | rfl | (simp; done) | (simp [*]; done)), H', ⟨by have := HK1.out; omega⟩, ⟨by (with_reducible repeat (first | apply Kd.R_alloc | apply Kd.R_drewN | apply Kd.R_drew)); exact HO_5.out⟩, ⟨by repeat (first | (with_reducible first | exact HB.out | apply below_alloc | apply pw_below_drewN | apply below_drew1) | exact HB.out)⟩⟩
          · rw [if_neg c10] at H
            have c10b0 : decide (0 < t380) = false := decide_eq_false c10
            clear c10
            simp only [Option.some.injEq, Prod.mk.injEq] at H
            obtain ⟨rfl, rfl, rfl⟩ := H
            obtain ⟨Ao13, co13, eo13⟩ := Kd.R_slice HO_5.out
            subst eo13
            go_wp2_with (first | ((with_reducible refine gate_callee (f := 52) rfl ?_); refine goesL_ (some 14) rfl rfl Try.func52 (by kernel_rfl) rfl #[.slice Ao13 x5_1.length co13] rfl (by (try simp only [List.map_toArray, List.map_cons, List.map_nil]); first | done | rfl | (simp only [List.length_drop, List.length_take]; rfl)) ?_; (with_reducible refine (spec_l11Give.calls k1 (fun k_ => some k_ = (.slice Ao13 x5_1.length co13 : Value).ownBlock) (.slice Ao13 x5_1.length co13) x5_1 t380 t381 w _ ?side1 ?side2 A9.out).mono ?_); (case side1 => repeat (first | (with_reducible first | exact HB.out | apply below_alloc | apply pw_below_drewN | apply below_drew1) | exact HB.out)); (case side2 => exact Kd.R_tight rfl HO_5.out); rintro e w14 ⟨rfl, hy0, hb, hkp⟩; refine ⟨_, rfl, ?_⟩; have n0_ := Aside0.mk (Kd.R_reok rfl hy0 (fun k_ e_ => HO_5.out.1 k_ e_)); have n1_ := Aside0.mk (hb); clear HO_5; clear HB; have HO_5 := n0_; have HB := n1_; clear n0_ n1_; (try clear hb); (try clear hkp); (try clear hy0)))
            go_ret3
            exact ⟨_, by first | rfl | (simp [errW_none, errW_some] <;> rfl) | (simp [*, errW_none, errW_some] <;> rfl), by (with_reducible repeat (first | apply Kd.R_alloc | apply Kd.R_drewN | apply Kd.R_drew)); exact HO_5.out, by repeat (first | (with_reducible first | exact HB.out | apply below_alloc | apply pw_below_drewN | apply below_drew1) | exact HB.out)⟩
    · rw [if_neg c4] at H
      exact absurd H (by simp)
  · replace c3 := Bool.eq_false_iff.mpr c3
    subst c3
    have H1 : (some (([] : List (S26)), 0, false)) = some (r1, r2, r3) := by rw [if_neg (show ¬ (false = true) by decide)] at H; exact H
    clear H
    have H := H1
    clear H1
    simp only [Option.some.injEq, Prod.mk.injEq] at H
    obtain ⟨rfl, rfl, rfl⟩ := H
    go_enter Try.func33, Try.ntmps33
    go_wp2_with (first | ((with_reducible refine gate_callee (f := 17) rfl ?_); refine goesL_ (some 8) rfl rfl Try.func17 (by kernel_rfl) rfl #[.slice A0 l0.length c0] rfl (by (try simp only [List.map_toArray, List.map_cons, List.map_nil]); first | done | rfl | (simp only [List.length_drop, List.length_take]; rfl)) ?_; (with_reducible refine (spec_GoodOwners.calls k _ _ l0 false _ ?side1 ?side2 A2.out).mono ?_); (case side1 => repeat (first | exact HR0.out | (with_reducible refine Kd.C_alloc ?_ _) | (with_reducible refine Kd.C_drewN ?_ _) | (with_reducible refine Kd.C_drew ?_))); (case side2 => exact HC0.out); rintro e w15 ⟨rfl, hb⟩; refine ⟨_, rfl, ?_⟩; have n0_ := Aside0.mk (below_step (by repeat (first | (with_reducible first | exact HB.out | apply below_alloc | apply pw_below_drewN | apply below_drew1) | exact HB.out)) hb); clear HB; have HB := n0_; clear n0_; (try clear hb); (try clear hb2); (try clear hk); (try clear hi)))
    go_ret3
    exact ⟨_, by first | rfl | (simp [errW_none, errW_some] <;> rfl) | (simp [*, errW_none, errW_some] <;> rfl), by first | exact Kd.R_nil _ _ _ _ _ | exact Kd.N_nil _ _ _ _ _ | exact Kd.V_nil _ _ _ _ _ | exact Kd.Q_nil _ _ _ _ _ | exact Kd.S_nil _ _ _ _ _, by repeat (first | (with_reducible first | exact HB.out | apply below_alloc | apply pw_below_drewN | apply below_drew1) | exact HB.out)⟩
def impl_SettleNames.l0 : Nat → List (S26) → Int → Option ((List (S26)) × Int × Bool)
  | 0, _, _ => none
  | k + 1, x5, x6 => (impl_GiveWay.f k x5).bind fun bt386 => (if bt386.2.2 = true then (impl_SettleNames.l0 k bt386.1 (wrap64 (x6 + 1))) else (some (x5, x6, true)))
def impl_SettleNames.f (k : Nat) (l0 : List (S26)) : Option ((List (S26)) × Int × Bool) := (impl_GoodOwners.f k l0).bind fun t382 => (if t382 = true then ((slices_Clone_Owner.f l0).bind fun t383 => (impl_SettleNames.l0 k t383 0)) else (some (([] : List (S26)), 0, false)))
set_option maxHeartbeats 8000000 in
set_option maxRecDepth 100000 in
theorem impl_SettleNames.calls (k : Nat) (A0 : Option Addr) (c0 : Nat) (l0 : List (S26)) (r1 : List (S26)) (r2 : Int) (r3 : Bool) (w : World) (hr0 : Kd.C k26 w A0 l0.length l0) (hc0 : l0.length ≤ c0) (h : impl_SettleNames.f k l0 = some (r1, r2, r3)) :
    Calls Try.prog 34 #[.slice A0 l0.length c0] w fun e w' => ∃ v0_ : Value, e = .returned (.tuple #[v0_, .int .i64 r2, .bool r3]) ∧ Kd.R k26 26 w' w.heap.size (fun _ => True) v0_ r1 ∧ Below w.heap.size w w' := by
  have HR0 := Aside0.mk hr0
  have HC0 := Aside0.mk hc0
  clear hr0 hc0
  have HB := Aside0.mk (Below.refl w.heap.size w)
  have H : ((impl_GoodOwners.f k l0).bind fun t382 => (if t382 = true then ((slices_Clone_Owner.f l0).bind fun t383 => (impl_SettleNames.l0 k t383 0)) else (some (([] : List (S26)), 0, false)))) = some (r1, r2, r3) := h
  clear h
  replace H := Option.bind_eq_some_iff.mp H
  obtain ⟨t382, A20, H⟩ := H
  replace H : (if t382 = true then ((slices_Clone_Owner.f l0).bind fun t383 => (impl_SettleNames.l0 k t383 0)) else (some (([] : List (S26)), 0, false))) = some (r1, r2, r3) := H
  have A2 := Aside0.mk A20
  clear A20
  by_cases c3 : t382 = true
  · subst c3
    have H1 : ((slices_Clone_Owner.f l0).bind fun t383 => (impl_SettleNames.l0 k t383 0)) = some (r1, r2, r3) := by rw [if_pos rfl] at H; exact H
    clear H
    have H := H1
    clear H1
    replace H := Option.bind_eq_some_iff.mp H
    obtain ⟨t383, A40, H⟩ := H
    replace H : (impl_SettleNames.l0 k t383 0) = some (r1, r2, r3) := H
    have A4 := Aside0.mk A40
    clear A40
    have H' := Aside0.mk H
    clear H
    go_enter Try.func34, Try.ntmps34
    go_wp2_with (first | ((with_reducible refine gate_callee (f := 19) rfl ?_); refine goesL_ (some 11) rfl rfl Try.func19 (by kernel_rfl) rfl #[.slice A0 l0.length c0] rfl (by (try simp only [List.map_toArray, List.map_cons, List.map_nil]); first | done | rfl | (simp only [List.length_drop, List.length_take]; rfl)) ?_; (with_reducible refine (impl_GoodOwners.calls k _ _ l0 true _ ?side1 ?side2 A2.out).mono ?_); (case side1 => repeat (first | exact HR0.out | (with_reducible refine Kd.C_alloc ?_ _) | (with_reducible refine Kd.C_drewN ?_ _) | (with_reducible refine Kd.C_drew ?_))); (case side2 => exact HC0.out); rintro e w5 ⟨rfl, hb⟩; refine ⟨_, rfl, ?_⟩; have n0_ := Aside0.mk (below_step (by repeat (first | (with_reducible first | exact HB.out | apply below_alloc | apply pw_below_drewN | apply below_drew1) | exact HB.out)) hb); clear HB; have HB := n0_; clear n0_; (try clear hb); (try clear hb2); (try clear hk); (try clear hi)) | ((with_reducible refine gate_callee (f := 53) rfl ?_); refine goesL_ (some 14) rfl rfl Try.func53 (by kernel_rfl) rfl #[.slice A0 l0.length c0] rfl (by (try simp only [List.map_toArray, List.map_cons, List.map_nil]); first | done | rfl | (simp only [List.length_drop, List.length_take]; rfl)) ?_; (with_reducible refine (slices_Clone_Owner.calls _ _ l0 t383 _ ?side1 ?side2 A4.out).mono ?_); (case side1 => repeat (first | exact (Kd.C_below HR0.out HB.out) | (with_reducible refine Kd.C_alloc ?_ _) | (with_reducible refine Kd.C_drewN ?_ _) | (with_reducible refine Kd.C_drew ?_))); (case side2 => exact HC0.out); rintro e w6 ⟨v384, rfl, ho0, hb⟩; refine ⟨_, rfl, ?_⟩; have n0_ := Aside0.mk (Kd.R_lower ho0 (below_size (by repeat (first | (with_reducible first | exact HB.out | apply below_alloc | apply pw_below_drewN | apply below_drew1) | exact HB.out)))); have n1_ := Aside0.mk (below_step (by repeat (first | (with_reducible first | exact HB.out | apply below_alloc | apply pw_below_drewN | apply below_drew1) | exact HB.out)) hb); clear HB; have HO385 := n0_; have HB := n1_; clear n0_ n1_; (try clear hb); (try clear hb2); (try clear hk); (try clear hi); (try clear ho0)))
    go_loopg [5, 6] k (fun kq v5 v6 w' => ∃ (x5_1 : List (S26)) (x6_1 : Int), v6 = .int .i64 x6_1 ∧ Aside0 (impl_SettleNames.l0 kq x5_1 x6_1 = some (r1, r2, r3)) ∧ Aside0 (kq ≤ k) ∧ Aside0 (Kd.R k26 26 w' w.heap.size (fun _ => True) v5 x5_1) ∧ Aside0 (Below w.heap.size w w'))
    case atStart => exact ⟨(t383), (0), (by first | rfl | (simp; done) | (simp [*]; done)), H', ⟨Nat.le_refl _⟩, ⟨by (with_reducible repeat (first | apply Kd.R_alloc | apply Kd.R_drewN | apply Kd.R_drew)); exact HO385.out⟩, ⟨by repeat (first | (with_reducible first | exact HB.out | apply below_alloc | apply pw_below_drewN | apply below_drew1) | exact HB.out)⟩⟩
    case round =>
      clear H'
      try clear c1
      try clear p2
      try clear c3
      try clear c5
      obtain ⟨x5_1, x6_1, rfl, HA, HK1, HO_5, HB⟩ := hrel
      cases gk with
      | zero => exact absurd HA.out (by simp [impl_SettleNames.l0])
      | succ k1 =>
        have H := HA.out
        clear HA
        simp only [impl_SettleNames.l0] at H
        replace H := Option.bind_eq_some_iff.mp H
        obtain ⟨⟨t386, t387, t388⟩, A70, H⟩ := H
        replace H : (if t388 = true then (impl_SettleNames.l0 k1 t386 (wrap64 (x6_1 + 1))) else (some (x5_1, x6_1, true))) = some (r1, r2, r3) := H
        have A7 := Aside0.mk A70
        clear A70
        by_cases c8 : t388 = true
        · subst c8
          have H1 : (impl_SettleNames.l0 k1 t386 (wrap64 (x6_1 + 1))) = some (r1, r2, r3) := by rw [if_pos rfl] at H; exact H
          clear H
          have H := H1
          clear H1
          have H' := Aside0.mk H
          clear H
          obtain ⟨Ao9, co9, eo9⟩ := Kd.R_slice HO_5.out
          subst eo9
          go_wp2_with (first | ((with_reducible refine gate_callee (f := 30) rfl ?_); refine goesL_ (some 19) rfl rfl Try.func30 (by kernel_rfl) rfl #[.slice Ao9 x5_1.length co9] rfl (by (try simp only [List.map_toArray, List.map_cons, List.map_nil]); first | done | rfl | (simp only [List.length_drop, List.length_take]; rfl)) ?_; (with_reducible refine (impl_GiveWay.calls k1 _ _ x5_1 t386 t387 true _ ?side1 ?side2 A7.out).mono ?_); (case side1 => repeat (first | exact (Kd.R_reads' HO_5.out).2.2 | (with_reducible refine Kd.C_alloc ?_ _) | (with_reducible refine Kd.C_drewN ?_ _) | (with_reducible refine Kd.C_drew ?_))); (case side2 => exact (Kd.R_reads' HO_5.out).2.1); rintro e w10 ⟨v389, rfl, ho0, hb⟩; refine ⟨_, rfl, ?_⟩; have n0_ := Aside0.mk (Kd.R_elder' (by (with_reducible repeat (first | apply Kd.R_alloc | apply Kd.R_drewN | apply Kd.R_drew)); exact HO_5.out) (Kd.R_base ho0) hb); have n1_ := Aside0.mk (Kd.R_lower (Kd.R_new' ho0 (Kd.R_lt (by (with_reducible repeat (first | apply Kd.R_alloc | apply Kd.R_drewN | apply Kd.R_drew)); exact HO_5.out))) (below_size (by repeat (first | (with_reducible first | exact HB.out | apply below_alloc | apply pw_below_drewN | apply below_drew1) | exact HB.out)))); have n2_ := Aside0.mk (below_step (by repeat (first | (with_reducible first | exact HB.out | apply below_alloc | apply pw_below_drewN | apply below_drew1) | exact HB.out)) hb); clear HO_5; clear HB; have HO_5 := n0_; have HO390 := n1_; have HB := n2_; clear n0_ n1_ n2_; (try clear hb); (try clear hb2); (try clear hk); (try clear hi); (try clear ho0)))
          go_roundg k1
          case measure => have := HK1.out; omega
          case rel => exact ⟨(t386), (wrap64 (x6_1 + 1)), (by first | rfl | (simp; done) | (simp [*]; done)), H', ⟨by have := HK1.out; omega⟩, ⟨by (with_reducible repeat (first | apply Kd.R_alloc | apply Kd.R_drewN | apply Kd.R_drew)); exact Kd.R_mono HO390.out (fun _ hk => trivial)⟩, ⟨by repeat (first | (with_reducible first | exact HB.out | apply below_alloc | apply pw_below_drewN | apply below_drew1) | exact HB.out)⟩⟩
        · replace c8 := Bool.eq_false_iff.mpr c8
          subst c8
          have H1 : (some (x5_1, x6_1, true)) = some (r1, r2, r3) := by rw [if_neg (show ¬ (false = true) by decide)] at H; exact H
          clear H
          have H := H1
          clear H1
          simp only [Option.some.injEq, Prod.mk.injEq] at H
          obtain ⟨rfl, rfl, rfl⟩ := H
          obtain ⟨Ao11, co11, eo11⟩ := Kd.R_slice HO_5.out
          subst eo11
          go_wp2_with (first | ((with_reducible refine gate_callee (f := 30) rfl ?_); refine goesL_ (some 19) rfl rfl Try.func30 (by kernel_rfl) rfl #[.slice Ao11 x5_1.length co11] rfl (by (try simp only [List.map_toArray, List.map_cons, List.map_nil]); first | done | rfl | (simp only [List.length_drop, List.length_take]; rfl)) ?_; (with_reducible refine (impl_GiveWay.calls k1 _ _ x5_1 t386 t387 false _ ?side1 ?side2 A7.out).mono ?_); (case side1 => repeat (first | exact (Kd.R_reads' HO_5.out).2.2 | (with_reducible refine Kd.C_alloc ?_ _) | (with_reducible refine Kd.C_drewN ?_ _) | (with_reducible refine Kd.C_drew ?_))); (case side2 => exact (Kd.R_reads' HO_5.out).2.1); rintro e w12 ⟨v389, rfl, ho0, hb⟩; refine ⟨_, rfl, ?_⟩; have n0_ := Aside0.mk (Kd.R_elder' (by (with_reducible repeat (first | apply Kd.R_alloc | apply Kd.R_drewN | apply Kd.R_drew)); exact HO_5.out) (Kd.R_base ho0) hb); have n1_ := Aside0.mk (Kd.R_lower (Kd.R_new' ho0 (Kd.R_lt (by (with_reducible repeat (first | apply Kd.R_alloc | apply Kd.R_drewN | apply Kd.R_drew)); exact HO_5.out))) (below_size (by repeat (first | (with_reducible first | exact HB.out | apply below_alloc | apply pw_below_drewN | apply below_drew1) | exact HB.out)))); have n2_ := Aside0.mk (below_step (by repeat (first | (with_reducible first | exact HB.out | apply below_alloc | apply pw_below_drewN | apply below_drew1) | exact HB.out)) hb); clear HO_5; clear HB; have HO_5 := n0_; have HO390 := n1_; have HB := n2_; clear n0_ n1_ n2_; (try clear hb); (try clear hb2); (try clear hk); (try clear hi); (try clear ho0)))
          go_ret3
          exact ⟨_, by first | rfl | (simp [errW_none, errW_some] <;> rfl) | (simp [*, errW_none, errW_some] <;> rfl), by (with_reducible repeat (first | apply Kd.R_alloc | apply Kd.R_drewN | apply Kd.R_drew)); exact Kd.R_mono HO_5.out (fun _ hk => trivial), by repeat (first | (with_reducible first | exact HB.out | apply below_alloc | apply pw_below_drewN | apply below_drew1) | exact HB.out)⟩
  · replace c3 := Bool.eq_false_iff.mpr c3
    subst c3
    have H1 : (some (([] : List (S26)), 0, false)) = some (r1, r2, r3) := by rw [if_neg (show ¬ (false = true) by decide)] at H; exact H
    clear H
    have H := H1
    clear H1
    simp only [Option.some.injEq, Prod.mk.injEq] at H
    obtain ⟨rfl, rfl, rfl⟩ := H
    go_enter Try.func34, Try.ntmps34
    go_wp2_with (first | ((with_reducible refine gate_callee (f := 19) rfl ?_); refine goesL_ (some 11) rfl rfl Try.func19 (by kernel_rfl) rfl #[.slice A0 l0.length c0] rfl (by (try simp only [List.map_toArray, List.map_cons, List.map_nil]); first | done | rfl | (simp only [List.length_drop, List.length_take]; rfl)) ?_; (with_reducible refine (impl_GoodOwners.calls k _ _ l0 false _ ?side1 ?side2 A2.out).mono ?_); (case side1 => repeat (first | exact HR0.out | (with_reducible refine Kd.C_alloc ?_ _) | (with_reducible refine Kd.C_drewN ?_ _) | (with_reducible refine Kd.C_drew ?_))); (case side2 => exact HC0.out); rintro e w13 ⟨rfl, hb⟩; refine ⟨_, rfl, ?_⟩; have n0_ := Aside0.mk (below_step (by repeat (first | (with_reducible first | exact HB.out | apply below_alloc | apply pw_below_drewN | apply below_drew1) | exact HB.out)) hb); clear HB; have HB := n0_; clear n0_; (try clear hb); (try clear hb2); (try clear hk); (try clear hi)))
    go_ret3
    exact ⟨_, by first | rfl | (simp [errW_none, errW_some] <;> rfl) | (simp [*, errW_none, errW_some] <;> rfl), by first | exact Kd.R_nil _ _ _ _ _ | exact Kd.N_nil _ _ _ _ _ | exact Kd.V_nil _ _ _ _ _ | exact Kd.Q_nil _ _ _ _ _ | exact Kd.S_nil _ _ _ _ _, by repeat (first | (with_reducible first | exact HB.out | apply below_alloc | apply pw_below_drewN | apply below_drew1) | exact HB.out)⟩
end Go.Proofs.Ytljdenmmlkjapaa.P

namespace Go.Proofs.Ytljdenmmlkjapaa.P
open Go.RowKit Go.Proofs.YtljdenmmlkjapaaW.PrintWords Go.Proofs.YtljdenmmlkjapaaW.PrintLast Go.Proofs.YtljdenmmlkjapaaW.PrintMore
attribute [local go_sem] max2_int min2_int max_two min_two max_three min_three max_four min_four   -- for this text's walks alone
set_option linter.unusedVariables false
set_option linter.unusedSimpArgs false
mutual
def laws_FnExactSettleNames.j0 : Nat → List (S23) → List (S26) → Int → Bool → List (S26) → List (S26) → Int → Bool → Bool → Option (Bool)
  | 0, _, _, _, _, _, _, _, _, _ => none
  | k + 1, x0, x4, x5, x6, x7, x8, x9, x10, x50 => if x50 = true then (some false) else ((laws_toOwnerS.f k x0).bind fun t409 => ((laws_eqOwnerS.f k x7 t409).bind fun t412 => (if t412 = true then ((laws_markOwnerS.f k x7 1).bind fun bt413 => (if bt413.1 < 0 then (laws_FnExactSettleNames.j1 k x0 x4 x5 x6 x8 true) else ((laws_eqOwnerS.f k x8 x4).bind fun t415 => (if t415 = true then (if x9 = x5 then (laws_FnExactSettleNames.j1 k x0 x4 x5 x6 x8 (x10 != x6)) else (laws_FnExactSettleNames.j1 k x0 x4 x5 x6 x8 true)) else (laws_FnExactSettleNames.j1 k x0 x4 x5 x6 x8 true))))) else (some false))))
def laws_FnExactSettleNames.j1 : Nat → List (S23) → List (S26) → Int → Bool → List (S26) → Bool → Option (Bool)
  | 0, _, _, _, _, _, _ => none
  | k + 1, x0, x4, x5, x6, x8, x76 => if x76 = true then (some false) else ((laws_markOwnerS.f k x8 1).bind fun bt416 => ((laws_heldOwnerS.f k bt416.2 1).bind fun t418 => (if t418 < 0 then (some false) else (if t418 = bt416.1 then ((laws_toOwnerS.f k x0).bind fun t419 => ((impl_SettleNames.f k t419).bind fun bt422 => ((laws_eqOwnerS.f k bt422.1 x4).bind fun t427 => (if t427 = true then (if bt422.2.1 = x5 then (laws_FnExactSettleNames.j2 k bt416.2 bt416.1 (bt422.2.2 != x6)) else (laws_FnExactSettleNames.j2 k bt416.2 bt416.1 true)) else (laws_FnExactSettleNames.j2 k bt416.2 bt416.1 true))))) else (some false)))))
def laws_FnExactSettleNames.j2 : Nat → List (S26) → Int → Bool → Option (Bool)
  | 0, _, _, _ => none
  | k + 1, x8, x12, x108 => if x108 = true then (some false) else ((laws_heldOwnerS.f k x8 1).bind fun t428 => (if t428 < 0 then (some false) else (if t428 = x12 then (some true) else (some false))))
end
def laws_FnExactSettleNames.f (k : Nat) (l0 : List (S23)) : Option (Bool) := (laws_szOwnerS.f l0 1048576).bind fun t391 => (if t391 < 0 then (some true) else ((laws_toOwnerS.f k l0).bind fun t392 => ((spec_SettleNames.f k t392).bind fun bt395 => ((laws_toOwnerS.f k l0).bind fun t400 => ((impl_SettleNames.f k t400).bind fun bt403 => ((laws_eqOwnerS.f k bt403.1 bt395.1).bind fun t408 => (if t408 = true then (if bt403.2.1 = bt395.2.1 then (laws_FnExactSettleNames.j0 k l0 bt395.1 bt395.2.1 bt395.2.2 t400 bt403.1 bt403.2.1 bt403.2.2 (bt403.2.2 != bt395.2.2)) else (laws_FnExactSettleNames.j0 k l0 bt395.1 bt395.2.1 bt395.2.2 t400 bt403.1 bt403.2.1 bt403.2.2 true)) else (laws_FnExactSettleNames.j0 k l0 bt395.1 bt395.2.1 bt395.2.2 t400 bt403.1 bt403.2.1 bt403.2.2 true))))))))
set_option maxHeartbeats 8000000 in
set_option maxRecDepth 100000 in
theorem laws_FnExactSettleNames.calls (k : Nat) (A0 : Option Addr) (c0 : Nat) (l0 : List (S23)) (r : Bool) (w : World) (hr0 : Kd.C k23 w A0 l0.length l0) (hc0 : l0.length ≤ c0) (h : laws_FnExactSettleNames.f k l0 = some r) :
    Calls Try.prog 10 #[.slice A0 l0.length c0] w fun e w' => e = .returned (.bool r) ∧ Below w.heap.size w w' := by
  have HR0 := Aside0.mk hr0
  have HC0 := Aside0.mk hc0
  clear hr0 hc0
  have HB := Aside0.mk (Below.refl w.heap.size w)
  have H : ((laws_szOwnerS.f l0 1048576).bind fun t391 => (if t391 < 0 then (some true) else ((laws_toOwnerS.f k l0).bind fun t392 => ((spec_SettleNames.f k t392).bind fun bt395 => ((laws_toOwnerS.f k l0).bind fun t400 => ((impl_SettleNames.f k t400).bind fun bt403 => ((laws_eqOwnerS.f k bt403.1 bt395.1).bind fun t408 => (if t408 = true then (if bt403.2.1 = bt395.2.1 then (laws_FnExactSettleNames.j0 k l0 bt395.1 bt395.2.1 bt395.2.2 t400 bt403.1 bt403.2.1 bt403.2.2 (bt403.2.2 != bt395.2.2)) else (laws_FnExactSettleNames.j0 k l0 bt395.1 bt395.2.1 bt395.2.2 t400 bt403.1 bt403.2.1 bt403.2.2 true)) else (laws_FnExactSettleNames.j0 k l0 bt395.1 bt395.2.1 bt395.2.2 t400 bt403.1 bt403.2.1 bt403.2.2 true))))))))) = some r := h
  clear h
  replace H := Option.bind_eq_some_iff.mp H
  obtain ⟨t391, A20, H⟩ := H
  replace H : (if t391 < 0 then (some true) else ((laws_toOwnerS.f k l0).bind fun t392 => ((spec_SettleNames.f k t392).bind fun bt395 => ((laws_toOwnerS.f k l0).bind fun t400 => ((impl_SettleNames.f k t400).bind fun bt403 => ((laws_eqOwnerS.f k bt403.1 bt395.1).bind fun t408 => (if t408 = true then (if bt403.2.1 = bt395.2.1 then (laws_FnExactSettleNames.j0 k l0 bt395.1 bt395.2.1 bt395.2.2 t400 bt403.1 bt403.2.1 bt403.2.2 (bt403.2.2 != bt395.2.2)) else (laws_FnExactSettleNames.j0 k l0 bt395.1 bt395.2.1 bt395.2.2 t400 bt403.1 bt403.2.1 bt403.2.2 true)) else (laws_FnExactSettleNames.j0 k l0 bt395.1 bt395.2.1 bt395.2.2 t400 bt403.1 bt403.2.1 bt403.2.2 true)))))))) = some r := H
  have A2 := Aside0.mk A20
  clear A20
  by_cases c3 : t391 < 0
  · rw [if_pos c3] at H
    have c3b0 : decide (t391 < 0) = true := decide_eq_true c3
    clear c3
    obtain rfl := Option.some.inj H
    go_enter Try.func10, Try.ntmps10
    go_wp2_with (first | ((with_reducible refine gate_callee (f := 16) rfl ?_); refine goesL_ (some 19) rfl rfl Try.func16 (by kernel_rfl) rfl #[.slice A0 l0.length c0, .int .i64 1048576] rfl (by (try simp only [List.map_toArray, List.map_cons, List.map_nil]); first | done | rfl | (simp only [List.length_drop, List.length_take]; rfl)) ?_; (with_reducible refine (laws_szOwnerS.calls _ _ l0 1048576 t391 _ ?side1 ?side2 A2.out).mono ?_); (case side1 => repeat (first | exact HR0.out | (with_reducible refine Kd.C_alloc ?_ _) | (with_reducible refine Kd.C_drewN ?_ _) | (with_reducible refine Kd.C_drew ?_))); (case side2 => exact HC0.out); rintro e w' ⟨rfl, ⟨nd, rfl⟩⟩; refine ⟨_, rfl, ?_⟩))
    go_ret
    exact ⟨by first | rfl | (simp [errW_none, errW_some] <;> rfl) | (simp [*, errW_none, errW_some] <;> rfl), by repeat (first | (with_reducible first | exact HB.out | apply below_alloc | apply pw_below_drewN | apply below_drew1) | exact HB.out)⟩
  · rw [if_neg c3] at H
    have c3b0 : decide (t391 < 0) = false := decide_eq_false c3
    clear c3
    replace H := Option.bind_eq_some_iff.mp H
    obtain ⟨t392, A40, H⟩ := H
    replace H : ((spec_SettleNames.f k t392).bind fun bt395 => ((laws_toOwnerS.f k l0).bind fun t400 => ((impl_SettleNames.f k t400).bind fun bt403 => ((laws_eqOwnerS.f k bt403.1 bt395.1).bind fun t408 => (if t408 = true then (if bt403.2.1 = bt395.2.1 then (laws_FnExactSettleNames.j0 k l0 bt395.1 bt395.2.1 bt395.2.2 t400 bt403.1 bt403.2.1 bt403.2.2 (bt403.2.2 != bt395.2.2)) else (laws_FnExactSettleNames.j0 k l0 bt395.1 bt395.2.1 bt395.2.2 t400 bt403.1 bt403.2.1 bt403.2.2 true)) else (laws_FnExactSettleNames.j0 k l0 bt395.1 bt395.2.1 bt395.2.2 t400 bt403.1 bt403.2.1 bt403.2.2 true)))))) = some r := H
    have A4 := Aside0.mk A40
    clear A40
    replace H := Option.bind_eq_some_iff.mp H
    obtain ⟨⟨t395, t396, t397⟩, A50, H⟩ := H
    replace H : ((laws_toOwnerS.f k l0).bind fun t400 => ((impl_SettleNames.f k t400).bind fun bt403 => ((laws_eqOwnerS.f k bt403.1 t395).bind fun t408 => (if t408 = true then (if bt403.2.1 = t396 then (laws_FnExactSettleNames.j0 k l0 t395 t396 t397 t400 bt403.1 bt403.2.1 bt403.2.2 (bt403.2.2 != t397)) else (laws_FnExactSettleNames.j0 k l0 t395 t396 t397 t400 bt403.1 bt403.2.1 bt403.2.2 true)) else (laws_FnExactSettleNames.j0 k l0 t395 t396 t397 t400 bt403.1 bt403.2.1 bt403.2.2 true))))) = some r := H
    have A5 := Aside0.mk A50
    clear A50
    replace H := Option.bind_eq_some_iff.mp H
    obtain ⟨t400, A60, H⟩ := H
    replace H : ((impl_SettleNames.f k t400).bind fun bt403 => ((laws_eqOwnerS.f k bt403.1 t395).bind fun t408 => (if t408 = true then (if bt403.2.1 = t396 then (laws_FnExactSettleNames.j0 k l0 t395 t396 t397 t400 bt403.1 bt403.2.1 bt403.2.2 (bt403.2.2 != t397)) else (laws_FnExactSettleNames.j0 k l0 t395 t396 t397 t400 bt403.1 bt403.2.1 bt403.2.2 true)) else (laws_FnExactSettleNames.j0 k l0 t395 t396 t397 t400 bt403.1 bt403.2.1 bt403.2.2 true)))) = some r := H
    have A6 := Aside0.mk A60
    clear A60
    replace H := Option.bind_eq_some_iff.mp H
    obtain ⟨⟨t403, t404, t405⟩, A70, H⟩ := H
    replace H : ((laws_eqOwnerS.f k t403 t395).bind fun t408 => (if t408 = true then (if t404 = t396 then (laws_FnExactSettleNames.j0 k l0 t395 t396 t397 t400 t403 t404 t405 (t405 != t397)) else (laws_FnExactSettleNames.j0 k l0 t395 t396 t397 t400 t403 t404 t405 true)) else (laws_FnExactSettleNames.j0 k l0 t395 t396 t397 t400 t403 t404 t405 true))) = some r := H
    have A7 := Aside0.mk A70
    clear A70
    have HC8 := Aside0.mk H
    clear H
    go_enter Try.func10, Try.ntmps10
    go_upto_region 8 with (first | ((with_reducible refine gate_callee (f := 16) rfl ?_); refine goesL_ (some 19) rfl rfl Try.func16 (by kernel_rfl) rfl #[.slice A0 l0.length c0, .int .i64 1048576] rfl (by (try simp only [List.map_toArray, List.map_cons, List.map_nil]); first | done | rfl | (simp only [List.length_drop, List.length_take]; rfl)) ?_; (with_reducible refine (laws_szOwnerS.calls _ _ l0 1048576 t391 _ ?side1 ?side2 A2.out).mono ?_); (case side1 => repeat (first | exact HR0.out | (with_reducible refine Kd.C_alloc ?_ _) | (with_reducible refine Kd.C_drewN ?_ _) | (with_reducible refine Kd.C_drew ?_))); (case side2 => exact HC0.out); rintro e w' ⟨rfl, ⟨nd, rfl⟩⟩; refine ⟨_, rfl, ?_⟩) | ((with_reducible refine gate_callee (f := 18) rfl ?_); refine goesL_ (some 24) rfl rfl Try.func18 (by kernel_rfl) rfl #[.slice A0 l0.length c0] rfl (by (try simp only [List.map_toArray, List.map_cons, List.map_nil]); first | done | rfl | (simp only [List.length_drop, List.length_take]; rfl)) ?_; (with_reducible refine (laws_toOwnerS.calls k _ _ l0 t392 _ ?side1 ?side2 A4.out).mono ?_); (case side1 => repeat (first | exact HR0.out | (with_reducible refine Kd.C_alloc ?_ _) | (with_reducible refine Kd.C_drewN ?_ _) | (with_reducible refine Kd.C_drew ?_))); (case side2 => exact HC0.out); rintro e w9 ⟨v393, rfl, ho0, hb⟩; refine ⟨_, rfl, ?_⟩; have n0_ := Aside0.mk (Kd.R_lower ho0 (below_size (by repeat (first | (with_reducible first | exact HB.out | apply below_alloc | apply pw_below_drewN | apply below_drew1) | exact HB.out)))); have n1_ := Aside0.mk (below_step (by repeat (first | (with_reducible first | exact HB.out | apply below_alloc | apply pw_below_drewN | apply below_drew1) | exact HB.out)) hb); clear HB; have HO394 := n0_; have HB := n1_; clear n0_ n1_; (try clear hb); (try clear hb2); (try clear hk); (try clear hi); (try clear ho0); obtain ⟨Ao10, co10, eo10⟩ := Kd.R_slice HO394.out; subst eo10) | ((with_reducible refine gate_callee (f := 33) rfl ?_); refine goesL_ (some 25) rfl rfl Try.func33 (by kernel_rfl) rfl #[.slice Ao10 t392.length co10] rfl (by (try simp only [List.map_toArray, List.map_cons, List.map_nil]); first | done | rfl | (simp only [List.length_drop, List.length_take]; rfl)) ?_; (with_reducible refine (spec_SettleNames.calls k _ _ t392 t395 t396 t397 _ ?side1 ?side2 A5.out).mono ?_); (case side1 => repeat (first | exact (Kd.R_reads' HO394.out).2.2 | (with_reducible refine Kd.C_alloc ?_ _) | (with_reducible refine Kd.C_drewN ?_ _) | (with_reducible refine Kd.C_drew ?_))); (case side2 => exact (Kd.R_reads' HO394.out).2.1); rintro e w11 ⟨v398, rfl, ho0, hb⟩; refine ⟨_, rfl, ?_⟩; have n0_ := Aside0.mk (Kd.R_elder' (by (with_reducible repeat (first | apply Kd.R_alloc | apply Kd.R_drewN | apply Kd.R_drew)); exact HO394.out) (Kd.R_base ho0) hb); have n1_ := Aside0.mk (Kd.R_lower (Kd.R_new' ho0 (Kd.R_lt (by (with_reducible repeat (first | apply Kd.R_alloc | apply Kd.R_drewN | apply Kd.R_drew)); exact HO394.out))) (below_size (by repeat (first | (with_reducible first | exact HB.out | apply below_alloc | apply pw_below_drewN | apply below_drew1) | exact HB.out)))); have n2_ := Aside0.mk (below_step (by repeat (first | (with_reducible first | exact HB.out | apply below_alloc | apply pw_below_drewN | apply below_drew1) | exact HB.out)) hb); clear HO394; clear HB; have HO394 := n0_; have HO399 := n1_; have HB := n2_; clear n0_ n1_ n2_; (try clear hb); (try clear hb2); (try clear hk); (try clear hi); (try clear ho0)) | ((with_reducible refine gate_callee (f := 18) rfl ?_); refine goesL_ (some 30) rfl rfl Try.func18 (by kernel_rfl) rfl #[.slice A0 l0.length c0] rfl (by (try simp only [List.map_toArray, List.map_cons, List.map_nil]); first | done | rfl | (simp only [List.length_drop, List.length_take]; rfl)) ?_; (with_reducible refine (laws_toOwnerS.calls k _ _ l0 t400 _ ?side1 ?side2 A6.out).mono ?_); (case side1 => repeat (first | exact (Kd.C_below HR0.out HB.out) | (with_reducible refine Kd.C_alloc ?_ _) | (with_reducible refine Kd.C_drewN ?_ _) | (with_reducible refine Kd.C_drew ?_))); (case side2 => exact HC0.out); rintro e w12 ⟨v401, rfl, ho0, hb⟩; refine ⟨_, rfl, ?_⟩; have n0_ := Aside0.mk (Kd.R_elder' (by (with_reducible repeat (first | apply Kd.R_alloc | apply Kd.R_drewN | apply Kd.R_drew)); exact HO394.out) (Kd.R_base ho0) hb); have n1_ := Aside0.mk (Kd.R_elder' (by (with_reducible repeat (first | apply Kd.R_alloc | apply Kd.R_drewN | apply Kd.R_drew)); exact HO399.out) (Kd.R_base ho0) hb); have n2_ := Aside0.mk (Kd.R_lower (Kd.R_new' (Kd.R_new' ho0 (Kd.R_lt (by (with_reducible repeat (first | apply Kd.R_alloc | apply Kd.R_drewN | apply Kd.R_drew)); exact HO394.out))) (Kd.R_lt (by (with_reducible repeat (first | apply Kd.R_alloc | apply Kd.R_drewN | apply Kd.R_drew)); exact HO399.out))) (below_size (by repeat (first | (with_reducible first | exact HB.out | apply below_alloc | apply pw_below_drewN | apply below_drew1) | exact HB.out)))); have n3_ := Aside0.mk (below_step (by repeat (first | (with_reducible first | exact HB.out | apply below_alloc | apply pw_below_drewN | apply below_drew1) | exact HB.out)) hb); clear HO394; clear HO399; clear HB; have HO394 := n0_; have HO399 := n1_; have HO402 := n2_; have HB := n3_; clear n0_ n1_ n2_ n3_; (try clear hb); (try clear hb2); (try clear hk); (try clear hi); (try clear ho0); obtain ⟨Ao13, co13, eo13⟩ := Kd.R_slice HO402.out; subst eo13) | ((with_reducible refine gate_callee (f := 34) rfl ?_); refine goesL_ (some 33) rfl rfl Try.func34 (by kernel_rfl) rfl #[.slice Ao13 t400.length co13] rfl (by (try simp only [List.map_toArray, List.map_cons, List.map_nil]); first | done | rfl | (simp only [List.length_drop, List.length_take]; rfl)) ?_; (with_reducible refine (impl_SettleNames.calls k _ _ t400 t403 t404 t405 _ ?side1 ?side2 A7.out).mono ?_); (case side1 => repeat (first | exact (Kd.R_reads' HO402.out).2.2 | (with_reducible refine Kd.C_alloc ?_ _) | (with_reducible refine Kd.C_drewN ?_ _) | (with_reducible refine Kd.C_drew ?_))); (case side2 => exact (Kd.R_reads' HO402.out).2.1); rintro e w14 ⟨v406, rfl, ho0, hb⟩; refine ⟨_, rfl, ?_⟩; have n0_ := Aside0.mk (Kd.R_elder' (by (with_reducible repeat (first | apply Kd.R_alloc | apply Kd.R_drewN | apply Kd.R_drew)); exact HO394.out) (Kd.R_base ho0) hb); have n1_ := Aside0.mk (Kd.R_elder' (by (with_reducible repeat (first | apply Kd.R_alloc | apply Kd.R_drewN | apply Kd.R_drew)); exact HO399.out) (Kd.R_base ho0) hb); have n2_ := Aside0.mk (Kd.R_elder' (by (with_reducible repeat (first | apply Kd.R_alloc | apply Kd.R_drewN | apply Kd.R_drew)); exact HO402.out) (Kd.R_base ho0) hb); have n3_ := Aside0.mk (Kd.R_lower (Kd.R_new' (Kd.R_new' (Kd.R_new' ho0 (Kd.R_lt (by (with_reducible repeat (first | apply Kd.R_alloc | apply Kd.R_drewN | apply Kd.R_drew)); exact HO394.out))) (Kd.R_lt (by (with_reducible repeat (first | apply Kd.R_alloc | apply Kd.R_drewN | apply Kd.R_drew)); exact HO399.out))) (Kd.R_lt (by (with_reducible repeat (first | apply Kd.R_alloc | apply Kd.R_drewN | apply Kd.R_drew)); exact HO402.out))) (below_size (by repeat (first | (with_reducible first | exact HB.out | apply below_alloc | apply pw_below_drewN | apply below_drew1) | exact HB.out)))); have n4_ := Aside0.mk (below_step (by repeat (first | (with_reducible first | exact HB.out | apply below_alloc | apply pw_below_drewN | apply below_drew1) | exact HB.out)) hb); clear HO394; clear HO399; clear HO402; clear HB; have HO394 := n0_; have HO399 := n1_; have HO402 := n2_; have HO407 := n3_; have HB := n4_; clear n0_ n1_ n2_ n3_ n4_; (try clear hb); (try clear hb2); (try clear hk); (try clear hi); (try clear ho0)))
    (try simp only [Act.put, List.setIfInBounds_toArray, List.set_cons_zero, List.set_cons_succ])
    go_cut [50] (fun v50 wc => ∃ (kq : Nat) (x50_7 : Bool), v50 = .bool x50_7 ∧ Aside0 (laws_FnExactSettleNames.j0 kq l0 t395 t396 t397 t400 t403 t404 t405 x50_7 = some r) ∧ Aside0 (kq ≤ k) ∧ Aside0 (Kd.R k26 26 wc w.heap.size (fun k_ => some k_ ≠ ((.slice Ao13 t400.length co13) : Value).ownBlock ∧ some k_ ≠ (v406 : Value).ownBlock) v398 t395) ∧ Aside0 (Kd.R k26 26 wc w.heap.size (fun k_ => some k_ ≠ (v398 : Value).ownBlock ∧ some k_ ≠ (v406 : Value).ownBlock) (.slice Ao13 t400.length co13) t400) ∧ Aside0 (Kd.R k26 26 wc w.heap.size (fun k_ => some k_ ≠ (v398 : Value).ownBlock ∧ some k_ ≠ ((.slice Ao13 t400.length co13) : Value).ownBlock) v406 t403) ∧ Aside0 (Below w.heap.size w wc))
    case first =>
      have H := HC8.out
      clear HC8
      replace H := Option.bind_eq_some_iff.mp H
      obtain ⟨t408, A150, H⟩ := H
      replace H : (if t408 = true then (if t404 = t396 then (laws_FnExactSettleNames.j0 k l0 t395 t396 t397 t400 t403 t404 t405 (t405 != t397)) else (laws_FnExactSettleNames.j0 k l0 t395 t396 t397 t400 t403 t404 t405 true)) else (laws_FnExactSettleNames.j0 k l0 t395 t396 t397 t400 t403 t404 t405 true)) = some r := H
      have A15 := Aside0.mk A150
      clear A150
      by_cases c16 : t408 = true
      · subst c16
        have H1 : (if t404 = t396 then (laws_FnExactSettleNames.j0 k l0 t395 t396 t397 t400 t403 t404 t405 (t405 != t397)) else (laws_FnExactSettleNames.j0 k l0 t395 t396 t397 t400 t403 t404 t405 true)) = some r := by rw [if_pos rfl] at H; exact H
        clear H
        have H := H1
        clear H1
        by_cases c17 : t404 = t396
        · rw [if_pos c17] at H
          have c17b0 : (t404 == t396) = true := beq_iff_eq.mpr c17
          have c17b1 : (t404 != t396) = false := bne_eq_false_iff_eq.mpr c17
          clear c17
          (first | rw [c17b0] | (simp only [i64_w, i32_w]; rw [c17b0]) | skip)
          have H' := Aside0.mk H
          clear H
          obtain ⟨Ao18, co18, eo18⟩ := Kd.R_slice HO407.out
          subst eo18
          obtain ⟨Ao19, co19, eo19⟩ := Kd.R_slice HO399.out
          subst eo19
          go_wp2_with (first | ((with_reducible refine gate_callee (f := 20) rfl ?_); refine goesL_ (some 39) rfl rfl Try.func20 (by kernel_rfl) rfl #[.slice Ao18 t403.length co18, .slice Ao19 t395.length co19] rfl (by (try simp only [List.map_toArray, List.map_cons, List.map_nil]); first | done | rfl | (simp only [List.length_drop, List.length_take]; rfl)) ?_; (with_reducible refine (laws_eqOwnerS.calls k _ _ t403 _ _ t395 true _ ?side1 ?side2 ?side3 ?side4 A15.out).mono ?_); (case side1 => repeat (first | exact (Kd.R_reads' HO407.out).2.2 | (with_reducible refine Kd.C_alloc ?_ _) | (with_reducible refine Kd.C_drewN ?_ _) | (with_reducible refine Kd.C_drew ?_))); (case side2 => exact (Kd.R_reads' HO407.out).2.1); (case side3 => repeat (first | exact (Kd.R_reads' HO399.out).2.2 | (with_reducible refine Kd.C_alloc ?_ _) | (with_reducible refine Kd.C_drewN ?_ _) | (with_reducible refine Kd.C_drew ?_))); (case side4 => exact (Kd.R_reads' HO399.out).2.1); rintro e w20 ⟨rfl, hb⟩; refine ⟨_, rfl, ?_⟩; have n0_ := Aside0.mk (Kd.R_below (by (with_reducible repeat (first | apply Kd.R_alloc | apply Kd.R_drewN | apply Kd.R_drew)); exact HO394.out) hb); have n1_ := Aside0.mk (Kd.R_below (by (with_reducible repeat (first | apply Kd.R_alloc | apply Kd.R_drewN | apply Kd.R_drew)); exact HO399.out) hb); have n2_ := Aside0.mk (Kd.R_below (by (with_reducible repeat (first | apply Kd.R_alloc | apply Kd.R_drewN | apply Kd.R_drew)); exact HO402.out) hb); have n3_ := Aside0.mk (Kd.R_below (by (with_reducible repeat (first | apply Kd.R_alloc | apply Kd.R_drewN | apply Kd.R_drew)); exact HO407.out) hb); have n4_ := Aside0.mk (below_step (by repeat (first | (with_reducible first | exact HB.out | apply below_alloc | apply pw_below_drewN | apply below_drew1) | exact HB.out)) hb); clear HO394; clear HO399; clear HO402; clear HO407; clear HB; have HO394 := n0_; have HO399 := n1_; have HO402 := n2_; have HO407 := n3_; have HB := n4_; clear n0_ n1_ n2_ n3_ n4_; (try clear hb); (try clear hb2); (try clear hk); (try clear hi)))
          go_meet
          case rel => exact ⟨_, ((t405 != t397)), (by first | rfl | (simp; done) | (simp [*]; done)), H', ⟨by first | omega | exact Nat.le_refl _⟩, ⟨by (with_reducible repeat (first | apply Kd.R_alloc | apply Kd.R_drewN | apply Kd.R_drew)); exact Kd.R_mono HO399.out (fun _ hk => ⟨hk.1.2, hk.2⟩)⟩, ⟨by (with_reducible repeat (first | apply Kd.R_alloc | apply Kd.R_drewN | apply Kd.R_drew)); exact Kd.R_mono HO402.out (fun _ hk => ⟨hk.1.2, hk.2⟩)⟩, ⟨by (with_reducible repeat (first | apply Kd.R_alloc | apply Kd.R_drewN | apply Kd.R_drew)); exact Kd.R_mono HO407.out (fun _ hk => ⟨hk.1.2, hk.2⟩)⟩, ⟨by repeat (first | (with_reducible first | exact HB.out | apply below_alloc | apply pw_below_drewN | apply below_drew1) | exact HB.out)⟩⟩
        · rw [if_neg c17] at H
          have c17b0 : (t404 == t396) = false := beq_eq_false_iff_ne.mpr c17
          have c17b1 : (t404 != t396) = true := bne_iff_ne.mpr c17
          (first | rw [c17b0] | (simp only [i64_w, i32_w]; rw [c17b0]) | skip)
          have H' := Aside0.mk H
          clear H
          obtain ⟨Ao21, co21, eo21⟩ := Kd.R_slice HO407.out
          subst eo21
          obtain ⟨Ao22, co22, eo22⟩ := Kd.R_slice HO399.out
          subst eo22
          go_wp2_with (first | ((with_reducible refine gate_callee (f := 20) rfl ?_); refine goesL_ (some 39) rfl rfl Try.func20 (by kernel_rfl) rfl #[.slice Ao21 t403.length co21, .slice Ao22 t395.length co22] rfl (by (try simp only [List.map_toArray, List.map_cons, List.map_nil]); first | done | rfl | (simp only [List.length_drop, List.length_take]; rfl)) ?_; (with_reducible refine (laws_eqOwnerS.calls k _ _ t403 _ _ t395 true _ ?side1 ?side2 ?side3 ?side4 A15.out).mono ?_); (case side1 => repeat (first | exact (Kd.R_reads' HO407.out).2.2 | (with_reducible refine Kd.C_alloc ?_ _) | (with_reducible refine Kd.C_drewN ?_ _) | (with_reducible refine Kd.C_drew ?_))); (case side2 => exact (Kd.R_reads' HO407.out).2.1); (case side3 => repeat (first | exact (Kd.R_reads' HO399.out).2.2 | (with_reducible refine Kd.C_alloc ?_ _) | (with_reducible refine Kd.C_drewN ?_ _) | (with_reducible refine Kd.C_drew ?_))); (case side4 => exact (Kd.R_reads' HO399.out).2.1); rintro e w23 ⟨rfl, hb⟩; refine ⟨_, rfl, ?_⟩; have n0_ := Aside0.mk (Kd.R_below (by (with_reducible repeat (first | apply Kd.R_alloc | apply Kd.R_drewN | apply Kd.R_drew)); exact HO394.out) hb); have n1_ := Aside0.mk (Kd.R_below (by (with_reducible repeat (first | apply Kd.R_alloc | apply Kd.R_drewN | apply Kd.R_drew)); exact HO399.out) hb); have n2_ := Aside0.mk (Kd.R_below (by (with_reducible repeat (first | apply Kd.R_alloc | apply Kd.R_drewN | apply Kd.R_drew)); exact HO402.out) hb); have n3_ := Aside0.mk (Kd.R_below (by (with_reducible repeat (first | apply Kd.R_alloc | apply Kd.R_drewN | apply Kd.R_drew)); exact HO407.out) hb); have n4_ := Aside0.mk (below_step (by repeat (first | (with_reducible first | exact HB.out | apply below_alloc | apply pw_below_drewN | apply below_drew1) | exact HB.out)) hb); clear HO394; clear HO399; clear HO402; clear HO407; clear HB; have HO394 := n0_; have HO399 := n1_; have HO402 := n2_; have HO407 := n3_; have HB := n4_; clear n0_ n1_ n2_ n3_ n4_; (try clear hb); (try clear hb2); (try clear hk); (try clear hi)))
          go_meet
          case rel => exact ⟨_, (true), (by first | rfl | (simp; done) | (simp [*]; done)), H', ⟨by first | omega | exact Nat.le_refl _⟩, ⟨by (with_reducible repeat (first | apply Kd.R_alloc | apply Kd.R_drewN | apply Kd.R_drew)); exact Kd.R_mono HO399.out (fun _ hk => ⟨hk.1.2, hk.2⟩)⟩, ⟨by (with_reducible repeat (first | apply Kd.R_alloc | apply Kd.R_drewN | apply Kd.R_drew)); exact Kd.R_mono HO402.out (fun _ hk => ⟨hk.1.2, hk.2⟩)⟩, ⟨by (with_reducible repeat (first | apply Kd.R_alloc | apply Kd.R_drewN | apply Kd.R_drew)); exact Kd.R_mono HO407.out (fun _ hk => ⟨hk.1.2, hk.2⟩)⟩, ⟨by repeat (first | (with_reducible first | exact HB.out | apply below_alloc | apply pw_below_drewN | apply below_drew1) | exact HB.out)⟩⟩
      · replace c16 := Bool.eq_false_iff.mpr c16
        subst c16
        have H1 : (laws_FnExactSettleNames.j0 k l0 t395 t396 t397 t400 t403 t404 t405 true) = some r := by rw [if_neg (show ¬ (false = true) by decide)] at H; exact H
        clear H
        have H := H1
        clear H1
        have H' := Aside0.mk H
        clear H
        obtain ⟨Ao24, co24, eo24⟩ := Kd.R_slice HO407.out
        subst eo24
        obtain ⟨Ao25, co25, eo25⟩ := Kd.R_slice HO399.out
        subst eo25
        go_wp2_with (first | ((with_reducible refine gate_callee (f := 20) rfl ?_); refine goesL_ (some 39) rfl rfl Try.func20 (by kernel_rfl) rfl #[.slice Ao24 t403.length co24, .slice Ao25 t395.length co25] rfl (by (try simp only [List.map_toArray, List.map_cons, List.map_nil]); first | done | rfl | (simp only [List.length_drop, List.length_take]; rfl)) ?_; (with_reducible refine (laws_eqOwnerS.calls k _ _ t403 _ _ t395 false _ ?side1 ?side2 ?side3 ?side4 A15.out).mono ?_); (case side1 => repeat (first | exact (Kd.R_reads' HO407.out).2.2 | (with_reducible refine Kd.C_alloc ?_ _) | (with_reducible refine Kd.C_drewN ?_ _) | (with_reducible refine Kd.C_drew ?_))); (case side2 => exact (Kd.R_reads' HO407.out).2.1); (case side3 => repeat (first | exact (Kd.R_reads' HO399.out).2.2 | (with_reducible refine Kd.C_alloc ?_ _) | (with_reducible refine Kd.C_drewN ?_ _) | (with_reducible refine Kd.C_drew ?_))); (case side4 => exact (Kd.R_reads' HO399.out).2.1); rintro e w26 ⟨rfl, hb⟩; refine ⟨_, rfl, ?_⟩; have n0_ := Aside0.mk (Kd.R_below (by (with_reducible repeat (first | apply Kd.R_alloc | apply Kd.R_drewN | apply Kd.R_drew)); exact HO394.out) hb); have n1_ := Aside0.mk (Kd.R_below (by (with_reducible repeat (first | apply Kd.R_alloc | apply Kd.R_drewN | apply Kd.R_drew)); exact HO399.out) hb); have n2_ := Aside0.mk (Kd.R_below (by (with_reducible repeat (first | apply Kd.R_alloc | apply Kd.R_drewN | apply Kd.R_drew)); exact HO402.out) hb); have n3_ := Aside0.mk (Kd.R_below (by (with_reducible repeat (first | apply Kd.R_alloc | apply Kd.R_drewN | apply Kd.R_drew)); exact HO407.out) hb); have n4_ := Aside0.mk (below_step (by repeat (first | (with_reducible first | exact HB.out | apply below_alloc | apply pw_below_drewN | apply below_drew1) | exact HB.out)) hb); clear HO394; clear HO399; clear HO402; clear HO407; clear HB; have HO394 := n0_; have HO399 := n1_; have HO402 := n2_; have HO407 := n3_; have HB := n4_; clear n0_ n1_ n2_ n3_ n4_; (try clear hb); (try clear hb2); (try clear hk); (try clear hi)))
        go_meet
        case rel => exact ⟨_, (true), (by first | rfl | (simp; done) | (simp [*]; done)), H', ⟨by first | omega | exact Nat.le_refl _⟩, ⟨by (with_reducible repeat (first | apply Kd.R_alloc | apply Kd.R_drewN | apply Kd.R_drew)); exact Kd.R_mono HO399.out (fun _ hk => ⟨hk.1.2, hk.2⟩)⟩, ⟨by (with_reducible repeat (first | apply Kd.R_alloc | apply Kd.R_drewN | apply Kd.R_drew)); exact Kd.R_mono HO402.out (fun _ hk => ⟨hk.1.2, hk.2⟩)⟩, ⟨by (with_reducible repeat (first | apply Kd.R_alloc | apply Kd.R_drewN | apply Kd.R_drew)); exact Kd.R_mono HO407.out (fun _ hk => ⟨hk.1.2, hk.2⟩)⟩, ⟨by repeat (first | (with_reducible first | exact HB.out | apply below_alloc | apply pw_below_drewN | apply below_drew1) | exact HB.out)⟩⟩
    case rest =>
      clear HC8
      try clear c1
      try clear c2
      try clear p2
      try clear c3
      try clear c3b0
      try clear c10
      try clear c16
      try clear c17
      try clear c17b0
      try clear c17b1
      try clear c18
      try clear c20
      obtain ⟨kq, x50_7, rfl, HA, HJ7, HO_4, HO_7, HO_8, HB⟩ := hcut
      cases kq with
      | zero => exact absurd HA.out (by simp [laws_FnExactSettleNames.j0])
      | succ kj7 =>
        have H := HA.out
        clear HA
        simp only [laws_FnExactSettleNames.j0] at H
        by_cases c27 : x50_7 = true
        · subst c27
          have H1 : (some false) = some r := by rw [if_pos rfl] at H; exact H
          clear H
          have H := H1
          clear H1
          obtain rfl := Option.some.inj H
          go_wp2
          go_ret
          exact ⟨by first | rfl | (simp [errW_none, errW_some] <;> rfl) | (simp [*, errW_none, errW_some] <;> rfl), by repeat (first | (with_reducible first | exact HB.out | apply below_alloc | apply pw_below_drewN | apply below_drew1) | exact HB.out)⟩
        · replace c27 := Bool.eq_false_iff.mpr c27
          subst c27
          have H1 : ((laws_toOwnerS.f kj7 l0).bind fun t409 => ((laws_eqOwnerS.f kj7 t400 t409).bind fun t412 => (if t412 = true then ((laws_markOwnerS.f kj7 t400 1).bind fun bt413 => (if bt413.1 < 0 then (laws_FnExactSettleNames.j1 kj7 l0 t395 t396 t397 t403 true) else ((laws_eqOwnerS.f kj7 t403 t395).bind fun t415 => (if t415 = true then (if t404 = t396 then (laws_FnExactSettleNames.j1 kj7 l0 t395 t396 t397 t403 (t405 != t397)) else (laws_FnExactSettleNames.j1 kj7 l0 t395 t396 t397 t403 true)) else (laws_FnExactSettleNames.j1 kj7 l0 t395 t396 t397 t403 true))))) else (some false)))) = some r := by rw [if_neg (show ¬ (false = true) by decide)] at H; exact H
          clear H
          have H := H1
          clear H1
          replace H := Option.bind_eq_some_iff.mp H
          obtain ⟨t409, A280, H⟩ := H
          replace H : ((laws_eqOwnerS.f kj7 t400 t409).bind fun t412 => (if t412 = true then ((laws_markOwnerS.f kj7 t400 1).bind fun bt413 => (if bt413.1 < 0 then (laws_FnExactSettleNames.j1 kj7 l0 t395 t396 t397 t403 true) else ((laws_eqOwnerS.f kj7 t403 t395).bind fun t415 => (if t415 = true then (if t404 = t396 then (laws_FnExactSettleNames.j1 kj7 l0 t395 t396 t397 t403 (t405 != t397)) else (laws_FnExactSettleNames.j1 kj7 l0 t395 t396 t397 t403 true)) else (laws_FnExactSettleNames.j1 kj7 l0 t395 t396 t397 t403 true))))) else (some false))) = some r := H
          have A28 := Aside0.mk A280
          clear A280
          replace H := Option.bind_eq_some_iff.mp H
          obtain ⟨t412, A290, H⟩ := H
          replace H : (if t412 = true then ((laws_markOwnerS.f kj7 t400 1).bind fun bt413 => (if bt413.1 < 0 then (laws_FnExactSettleNames.j1 kj7 l0 t395 t396 t397 t403 true) else ((laws_eqOwnerS.f kj7 t403 t395).bind fun t415 => (if t415 = true then (if t404 = t396 then (laws_FnExactSettleNames.j1 kj7 l0 t395 t396 t397 t403 (t405 != t397)) else (laws_FnExactSettleNames.j1 kj7 l0 t395 t396 t397 t403 true)) else (laws_FnExactSettleNames.j1 kj7 l0 t395 t396 t397 t403 true))))) else (some false)) = some r := H
          have A29 := Aside0.mk A290
          clear A290
          by_cases c30 : t412 = true
          · subst c30
            have H1 : ((laws_markOwnerS.f kj7 t400 1).bind fun bt413 => (if bt413.1 < 0 then (laws_FnExactSettleNames.j1 kj7 l0 t395 t396 t397 t403 true) else ((laws_eqOwnerS.f kj7 t403 t395).bind fun t415 => (if t415 = true then (if t404 = t396 then (laws_FnExactSettleNames.j1 kj7 l0 t395 t396 t397 t403 (t405 != t397)) else (laws_FnExactSettleNames.j1 kj7 l0 t395 t396 t397 t403 true)) else (laws_FnExactSettleNames.j1 kj7 l0 t395 t396 t397 t403 true))))) = some r := by rw [if_pos rfl] at H; exact H
            clear H
            have H := H1
            clear H1
            replace H := Option.bind_eq_some_iff.mp H
            obtain ⟨⟨t413, t414⟩, A310, H⟩ := H
            replace H : (if t413 < 0 then (laws_FnExactSettleNames.j1 kj7 l0 t395 t396 t397 t403 true) else ((laws_eqOwnerS.f kj7 t403 t395).bind fun t415 => (if t415 = true then (if t404 = t396 then (laws_FnExactSettleNames.j1 kj7 l0 t395 t396 t397 t403 (t405 != t397)) else (laws_FnExactSettleNames.j1 kj7 l0 t395 t396 t397 t403 true)) else (laws_FnExactSettleNames.j1 kj7 l0 t395 t396 t397 t403 true)))) = some r := H
            have A31 := Aside0.mk A310
            clear A310
            have HC32 := Aside0.mk H
            clear H
            go_upto_region 14 with (first | ((with_reducible refine gate_callee (f := 18) rfl ?_); refine goesL_ (some 53) rfl rfl Try.func18 (by kernel_rfl) rfl #[.slice A0 l0.length c0] rfl (by (try simp only [List.map_toArray, List.map_cons, List.map_nil]); first | done | rfl | (simp only [List.length_drop, List.length_take]; rfl)) ?_; (with_reducible refine (laws_toOwnerS.calls kj7 _ _ l0 t409 _ ?side1 ?side2 A28.out).mono ?_); (case side1 => repeat (first | exact (Kd.C_below HR0.out HB.out) | (with_reducible refine Kd.C_alloc ?_ _) | (with_reducible refine Kd.C_drewN ?_ _) | (with_reducible refine Kd.C_drew ?_))); (case side2 => exact HC0.out); rintro e w33 ⟨v410, rfl, ho0, hb⟩; refine ⟨_, rfl, ?_⟩; have n0_ := Aside0.mk (Kd.R_elder' (by (with_reducible repeat (first | apply Kd.R_alloc | apply Kd.R_drewN | apply Kd.R_drew)); exact HO_4.out) (Kd.R_base ho0) hb); have n1_ := Aside0.mk (Kd.R_elder' (by (with_reducible repeat (first | apply Kd.R_alloc | apply Kd.R_drewN | apply Kd.R_drew)); exact HO_7.out) (Kd.R_base ho0) hb); have n2_ := Aside0.mk (Kd.R_elder' (by (with_reducible repeat (first | apply Kd.R_alloc | apply Kd.R_drewN | apply Kd.R_drew)); exact HO_8.out) (Kd.R_base ho0) hb); have n3_ := Aside0.mk (Kd.R_lower (Kd.R_new' (Kd.R_new' (Kd.R_new' ho0 (Kd.R_lt (by (with_reducible repeat (first | apply Kd.R_alloc | apply Kd.R_drewN | apply Kd.R_drew)); exact HO_4.out))) (Kd.R_lt (by (with_reducible repeat (first | apply Kd.R_alloc | apply Kd.R_drewN | apply Kd.R_drew)); exact HO_7.out))) (Kd.R_lt (by (with_reducible repeat (first | apply Kd.R_alloc | apply Kd.R_drewN | apply Kd.R_drew)); exact HO_8.out))) (below_size (by repeat (first | (with_reducible first | exact HB.out | apply below_alloc | apply pw_below_drewN | apply below_drew1) | exact HB.out)))); have n4_ := Aside0.mk (below_step (by repeat (first | (with_reducible first | exact HB.out | apply below_alloc | apply pw_below_drewN | apply below_drew1) | exact HB.out)) hb); clear HO_4; clear HO_7; clear HO_8; clear HB; have HO_4 := n0_; have HO_7 := n1_; have HO_8 := n2_; have HO411 := n3_; have HB := n4_; clear n0_ n1_ n2_ n3_ n4_; (try clear hb); (try clear hb2); (try clear hk); (try clear hi); (try clear ho0); obtain ⟨Ao34, co34, eo34⟩ := Kd.R_slice HO411.out; subst eo34) | ((with_reducible refine gate_callee (f := 20) rfl ?_); refine goesL_ (some 54) rfl rfl Try.func20 (by kernel_rfl) rfl #[.slice Ao13 t400.length co13, .slice Ao34 t409.length co34] rfl (by (try simp only [List.map_toArray, List.map_cons, List.map_nil]); first | done | rfl | (simp only [List.length_drop, List.length_take]; rfl)) ?_; (with_reducible refine (laws_eqOwnerS.calls kj7 _ _ t400 _ _ t409 true _ ?side1 ?side2 ?side3 ?side4 A29.out).mono ?_); (case side1 => repeat (first | exact (Kd.R_reads' HO_7.out).2.2 | (with_reducible refine Kd.C_alloc ?_ _) | (with_reducible refine Kd.C_drewN ?_ _) | (with_reducible refine Kd.C_drew ?_))); (case side2 => exact (Kd.R_reads' HO_7.out).2.1); (case side3 => repeat (first | exact (Kd.R_reads' HO411.out).2.2 | (with_reducible refine Kd.C_alloc ?_ _) | (with_reducible refine Kd.C_drewN ?_ _) | (with_reducible refine Kd.C_drew ?_))); (case side4 => exact (Kd.R_reads' HO411.out).2.1); rintro e w35 ⟨rfl, hb⟩; refine ⟨_, rfl, ?_⟩; have n0_ := Aside0.mk (Kd.R_below (by (with_reducible repeat (first | apply Kd.R_alloc | apply Kd.R_drewN | apply Kd.R_drew)); exact HO_4.out) hb); have n1_ := Aside0.mk (Kd.R_below (by (with_reducible repeat (first | apply Kd.R_alloc | apply Kd.R_drewN | apply Kd.R_drew)); exact HO_7.out) hb); have n2_ := Aside0.mk (Kd.R_below (by (with_reducible repeat (first | apply Kd.R_alloc | apply Kd.R_drewN | apply Kd.R_drew)); exact HO_8.out) hb); have n3_ := Aside0.mk (Kd.R_below (by (with_reducible repeat (first | apply Kd.R_alloc | apply Kd.R_drewN | apply Kd.R_drew)); exact HO411.out) hb); have n4_ := Aside0.mk (below_step (by repeat (first | (with_reducible first | exact HB.out | apply below_alloc | apply pw_below_drewN | apply below_drew1) | exact HB.out)) hb); clear HO_4; clear HO_7; clear HO_8; clear HO411; clear HB; have HO_4 := n0_; have HO_7 := n1_; have HO_8 := n2_; have HO411 := n3_; have HB := n4_; clear n0_ n1_ n2_ n3_ n4_; (try clear hb); (try clear hb2); (try clear hk); (try clear hi)) | ((with_reducible refine gate_callee (f := 31) rfl ?_); refine goesL_ (some 58) rfl rfl Try.func31 (by kernel_rfl) rfl #[.slice Ao13 t400.length co13, .int .i64 1] rfl (by (try simp only [List.map_toArray, List.map_cons, List.map_nil]); first | done | rfl | (simp only [List.length_drop, List.length_take]; rfl)) ?_; (with_reducible refine (laws_markOwnerS.calls kj7 (fun k_ => some k_ = (.slice Ao13 t400.length co13 : Value).ownBlock) (.slice Ao13 t400.length co13) t400 1 t413 t414 w _ ?side1 ?side2 A31.out).mono ?_); (case side1 => repeat (first | (with_reducible first | exact HB.out | apply below_alloc | apply pw_below_drewN | apply below_drew1) | exact HB.out)); (case side2 => exact Kd.R_tight rfl HO_7.out); rintro e w36 ⟨rfl, hy0, hb, hkp⟩; refine ⟨_, rfl, ?_⟩; have n0_ := Aside0.mk (Kd.R_mono (ok' := fun k_ => some k_ ≠ (.slice Ao13 t400.length co13 : Value).ownBlock ∧ some k_ ≠ (v406 : Value).ownBlock ∧ some k_ ≠ (.slice Ao34 t409.length co34 : Value).ownBlock) (Kd.R_keptB (HO_4.out) hkp (fun k_ hk_ hs_ => (hk_.1.1) hs_)) (fun k_ hk_ => ⟨hk_.1.1.1, hk_.1.1.2, hk_.1.2⟩)); have n1_ := Aside0.mk (Kd.R_reok rfl hy0 (fun k_ e_ => HO_7.out.1 k_ e_)); have n2_ := Aside0.mk (Kd.R_mono (ok' := fun k_ => some k_ ≠ (v398 : Value).ownBlock ∧ some k_ ≠ (.slice Ao13 t400.length co13 : Value).ownBlock ∧ some k_ ≠ (.slice Ao34 t409.length co34 : Value).ownBlock) (Kd.R_keptB (HO_8.out) hkp (fun k_ hk_ hs_ => (hk_.1.2) hs_)) (fun k_ hk_ => ⟨hk_.1.1.1, hk_.1.1.2, hk_.1.2⟩)); have n3_ := Aside0.mk (Kd.R_mono (ok' := fun k_ => some k_ ≠ (v398 : Value).ownBlock ∧ some k_ ≠ (.slice Ao13 t400.length co13 : Value).ownBlock ∧ some k_ ≠ (v406 : Value).ownBlock) (Kd.R_keptB (HO411.out) hkp (fun k_ hk_ hs_ => (hk_.1.2) hs_)) (fun k_ hk_ => ⟨hk_.1.1.1.2, hk_.1.1.2, hk_.1.2⟩)); have n4_ := Aside0.mk (hb); clear HO_4; clear HO_7; clear HO_8; clear HO411; clear HB; have HO_4 := n0_; have HO_7 := n1_; have HO_8 := n2_; have HO411 := n3_; have HB := n4_; clear n0_ n1_ n2_ n3_ n4_; (try clear hb); (try clear hkp); (try clear hy0)))
            (try simp only [Act.put, List.setIfInBounds_toArray, List.set_cons_zero, List.set_cons_succ])
            go_cut [76] (fun v76 wc => ∃ (kq : Nat) (x76_31 : Bool), v76 = .bool x76_31 ∧ Aside0 (laws_FnExactSettleNames.j1 kq l0 t395 t396 t397 t403 x76_31 = some r) ∧ Aside0 (kq ≤ kj7) ∧ Aside0 (Kd.R k26 26 wc w.heap.size (fun k_ => some k_ ≠ (v406 : Value).ownBlock) v398 t395) ∧ Aside0 (Kd.R k26 26 wc w.heap.size (fun k_ => some k_ ≠ (v398 : Value).ownBlock) v406 t403) ∧ Aside0 (Below w.heap.size w wc))
            case first =>
              have H := HC32.out
              clear HC32
              by_cases c37 : t413 < 0
              · rw [if_pos c37] at H
                have c37b0 : decide (t413 < 0) = true := decide_eq_true c37
                clear c37
                (first | rw [c37b0] | (simp only [i64_w, i32_w]; rw [c37b0]) | skip)
                have H' := Aside0.mk H
                clear H
                go_wp2
                go_meet
                case rel => exact ⟨_, (true), (by first | rfl | (simp; done) | (simp [*]; done)), H', ⟨by have := HJ7.out; first | omega | exact Nat.le_refl _⟩, ⟨by (with_reducible repeat (first | apply Kd.R_alloc | apply Kd.R_drewN | apply Kd.R_drew)); exact Kd.R_mono HO_4.out (fun _ hk => hk.2.1)⟩, ⟨by (with_reducible repeat (first | apply Kd.R_alloc | apply Kd.R_drewN | apply Kd.R_drew)); exact Kd.R_mono HO_8.out (fun _ hk => hk.1)⟩, ⟨by repeat (first | (with_reducible first | exact HB.out | apply below_alloc | apply pw_below_drewN | apply below_drew1) | exact HB.out)⟩⟩
              · rw [if_neg c37] at H
                have c37b0 : decide (t413 < 0) = false := decide_eq_false c37
                clear c37
                (first | rw [c37b0] | (simp only [i64_w, i32_w]; rw [c37b0]) | skip)
                replace H := Option.bind_eq_some_iff.mp H
                obtain ⟨t415, A380, H⟩ := H
                replace H : (if t415 = true then (if t404 = t396 then (laws_FnExactSettleNames.j1 kj7 l0 t395 t396 t397 t403 (t405 != t397)) else (laws_FnExactSettleNames.j1 kj7 l0 t395 t396 t397 t403 true)) else (laws_FnExactSettleNames.j1 kj7 l0 t395 t396 t397 t403 true)) = some r := H
                have A38 := Aside0.mk A380
                clear A380
                by_cases c39 : t415 = true
                · subst c39
                  have H1 : (if t404 = t396 then (laws_FnExactSettleNames.j1 kj7 l0 t395 t396 t397 t403 (t405 != t397)) else (laws_FnExactSettleNames.j1 kj7 l0 t395 t396 t397 t403 true)) = some r := by rw [if_pos rfl] at H; exact H
                  clear H
                  have H := H1
                  clear H1
                  by_cases c40 : t404 = t396
                  · rw [if_pos c40] at H
                    have c40b0 : (t404 == t396) = true := beq_iff_eq.mpr c40
                    have c40b1 : (t404 != t396) = false := bne_eq_false_iff_eq.mpr c40
                    clear c40
                    have H' := Aside0.mk H
                    clear H
                    obtain ⟨Ao41, co41, eo41⟩ := Kd.R_slice HO_8.out
                    subst eo41
                    obtain ⟨Ao42, co42, eo42⟩ := Kd.R_slice HO_4.out
                    subst eo42
                    go_wp2_with (first | (go_at_call 20; (with_reducible refine (laws_eqOwnerS.calls kj7 _ _ t403 _ _ t395 true _ ?side1 ?side2 ?side3 ?side4 A38.out).mono ?_); (case side1 => repeat (first | exact (Kd.R_reads' HO_8.out).2.2 | (with_reducible refine Kd.C_alloc ?_ _) | (with_reducible refine Kd.C_drewN ?_ _) | (with_reducible refine Kd.C_drew ?_))); (case side2 => exact (Kd.R_reads' HO_8.out).2.1); (case side3 => repeat (first | exact (Kd.R_reads' HO_4.out).2.2 | (with_reducible refine Kd.C_alloc ?_ _) | (with_reducible refine Kd.C_drewN ?_ _) | (with_reducible refine Kd.C_drew ?_))); (case side4 => exact (Kd.R_reads' HO_4.out).2.1); rintro e w43 ⟨rfl, hb⟩; have n0_ := Aside0.mk (Kd.R_below (by (with_reducible repeat (first | apply Kd.R_alloc | apply Kd.R_drewN | apply Kd.R_drew)); exact HO_4.out) hb); have n1_ := Aside0.mk (Kd.R_below (by (with_reducible repeat (first | apply Kd.R_alloc | apply Kd.R_drewN | apply Kd.R_drew)); exact HO_7.out) hb); have n2_ := Aside0.mk (Kd.R_below (by (with_reducible repeat (first | apply Kd.R_alloc | apply Kd.R_drewN | apply Kd.R_drew)); exact HO_8.out) hb); have n3_ := Aside0.mk (Kd.R_below (by (with_reducible repeat (first | apply Kd.R_alloc | apply Kd.R_drewN | apply Kd.R_drew)); exact HO411.out) hb); have n4_ := Aside0.mk (below_step (by repeat (first | (with_reducible first | exact HB.out | apply below_alloc | apply pw_below_drewN | apply below_drew1) | exact HB.out)) hb); clear HO_4; clear HO_7; clear HO_8; clear HO411; clear HB; have HO_4 := n0_; have HO_7 := n1_; have HO_8 := n2_; have HO411 := n3_; have HB := n4_; clear n0_ n1_ n2_ n3_ n4_; (try clear hb); (try clear hb2); (try clear hk); (try clear hi)))
                    go_meet
                    case rel => exact ⟨_, ((t405 != t397)), (by first | rfl | (simp; done) | (simp [*]; done)), H', ⟨by have := HJ7.out; first | omega | exact Nat.le_refl _⟩, ⟨by (with_reducible repeat (first | apply Kd.R_alloc | apply Kd.R_drewN | apply Kd.R_drew)); exact Kd.R_mono HO_4.out (fun _ hk => hk.2.1)⟩, ⟨by (with_reducible repeat (first | apply Kd.R_alloc | apply Kd.R_drewN | apply Kd.R_drew)); exact Kd.R_mono HO_8.out (fun _ hk => hk.1)⟩, ⟨by repeat (first | (with_reducible first | exact HB.out | apply below_alloc | apply pw_below_drewN | apply below_drew1) | exact HB.out)⟩⟩
                  · rw [if_neg c40] at H
                    have c40b0 : (t404 == t396) = false := beq_eq_false_iff_ne.mpr c40
                    have c40b1 : (t404 != t396) = true := bne_iff_ne.mpr c40
                    have H' := Aside0.mk H
                    clear H
                    obtain ⟨Ao44, co44, eo44⟩ := Kd.R_slice HO_8.out
                    subst eo44
                    obtain ⟨Ao45, co45, eo45⟩ := Kd.R_slice HO_4.out
                    subst eo45
                    go_wp2_with (first | (go_at_call 20; (with_reducible refine (laws_eqOwnerS.calls kj7 _ _ t403 _ _ t395 true _ ?side1 ?side2 ?side3 ?side4 A38.out).mono ?_); (case side1 => repeat (first | exact (Kd.R_reads' HO_8.out).2.2 | (with_reducible refine Kd.C_alloc ?_ _) | (with_reducible refine Kd.C_drewN ?_ _) | (with_reducible refine Kd.C_drew ?_))); (case side2 => exact (Kd.R_reads' HO_8.out).2.1); (case side3 => repeat (first | exact (Kd.R_reads' HO_4.out).2.2 | (with_reducible refine Kd.C_alloc ?_ _) | (with_reducible refine Kd.C_drewN ?_ _) | (with_reducible refine Kd.C_drew ?_))); (case side4 => exact (Kd.R_reads' HO_4.out).2.1); rintro e w46 ⟨rfl, hb⟩; have n0_ := Aside0.mk (Kd.R_below (by (with_reducible repeat (first | apply Kd.R_alloc | apply Kd.R_drewN | apply Kd.R_drew)); exact HO_4.out) hb); have n1_ := Aside0.mk (Kd.R_below (by (with_reducible repeat (first | apply Kd.R_alloc | apply Kd.R_drewN | apply Kd.R_drew)); exact HO_7.out) hb); have n2_ := Aside0.mk (Kd.R_below (by (with_reducible repeat (first | apply Kd.R_alloc | apply Kd.R_drewN | apply Kd.R_drew)); exact HO_8.out) hb); have n3_ := Aside0.mk (Kd.R_below (by (with_reducible repeat (first | apply Kd.R_alloc | apply Kd.R_drewN | apply Kd.R_drew)); exact HO411.out) hb); have n4_ := Aside0.mk (below_step (by repeat (first | (with_reducible first | exact HB.out | apply below_alloc | apply pw_below_drewN | apply below_drew1) | exact HB.out)) hb); clear HO_4; clear HO_7; clear HO_8; clear HO411; clear HB; have HO_4 := n0_; have HO_7 := n1_; have HO_8 := n2_; have HO411 := n3_; have HB := n4_; clear n0_ n1_ n2_ n3_ n4_; (try clear hb); (try clear hb2); (try clear hk); (try clear hi)))
                    go_meet
                    case rel => exact ⟨_, (true), (by first | rfl | (simp; done) | (simp [*]; done)), H', ⟨by have := HJ7.out; first | omega | exact Nat.le_refl _⟩, ⟨by (with_reducible repeat (first | apply Kd.R_alloc | apply Kd.R_drewN | apply Kd.R_drew)); exact Kd.R_mono HO_4.out (fun _ hk => hk.2.1)⟩, ⟨by (with_reducible repeat (first | apply Kd.R_alloc | apply Kd.R_drewN | apply Kd.R_drew)); exact Kd.R_mono HO_8.out (fun _ hk => hk.1)⟩, ⟨by repeat (first | (with_reducible first | exact HB.out | apply below_alloc | apply pw_below_drewN | apply below_drew1) | exact HB.out)⟩⟩
                · replace c39 := Bool.eq_false_iff.mpr c39
                  subst c39
                  have H1 : (laws_FnExactSettleNames.j1 kj7 l0 t395 t396 t397 t403 true) = some r := by rw [if_neg (show ¬ (false = true) by decide)] at H; exact H
                  clear H
                  have H := H1
                  clear H1
                  have H' := Aside0.mk H
                  clear H
                  obtain ⟨Ao47, co47, eo47⟩ := Kd.R_slice HO_8.out
                  subst eo47
                  obtain ⟨Ao48, co48, eo48⟩ := Kd.R_slice HO_4.out
                  subst eo48
                  go_wp2_with (first | (go_at_call 20; (with_reducible refine (laws_eqOwnerS.calls kj7 _ _ t403 _ _ t395 false _ ?side1 ?side2 ?side3 ?side4 A38.out).mono ?_); (case side1 => repeat (first | exact (Kd.R_reads' HO_8.out).2.2 | (with_reducible refine Kd.C_alloc ?_ _) | (with_reducible refine Kd.C_drewN ?_ _) | (with_reducible refine Kd.C_drew ?_))); (case side2 => exact (Kd.R_reads' HO_8.out).2.1); (case side3 => repeat (first | exact (Kd.R_reads' HO_4.out).2.2 | (with_reducible refine Kd.C_alloc ?_ _) | (with_reducible refine Kd.C_drewN ?_ _) | (with_reducible refine Kd.C_drew ?_))); (case side4 => exact (Kd.R_reads' HO_4.out).2.1); rintro e w49 ⟨rfl, hb⟩; have n0_ := Aside0.mk (Kd.R_below (by (with_reducible repeat (first | apply Kd.R_alloc | apply Kd.R_drewN | apply Kd.R_drew)); exact HO_4.out) hb); have n1_ := Aside0.mk (Kd.R_below (by (with_reducible repeat (first | apply Kd.R_alloc | apply Kd.R_drewN | apply Kd.R_drew)); exact HO_7.out) hb); have n2_ := Aside0.mk (Kd.R_below (by (with_reducible repeat (first | apply Kd.R_alloc | apply Kd.R_drewN | apply Kd.R_drew)); exact HO_8.out) hb); have n3_ := Aside0.mk (Kd.R_below (by (with_reducible repeat (first | apply Kd.R_alloc | apply Kd.R_drewN | apply Kd.R_drew)); exact HO411.out) hb); have n4_ := Aside0.mk (below_step (by repeat (first | (with_reducible first | exact HB.out | apply below_alloc | apply pw_below_drewN | apply below_drew1) | exact HB.out)) hb); clear HO_4; clear HO_7; clear HO_8; clear HO411; clear HB; have HO_4 := n0_; have HO_7 := n1_; have HO_8 := n2_; have HO411 := n3_; have HB := n4_; clear n0_ n1_ n2_ n3_ n4_; (try clear hb); (try clear hb2); (try clear hk); (try clear hi)))
                  go_meet
                  case rel => exact ⟨_, (true), (by first | rfl | (simp; done) | (simp [*]; done)), H', ⟨by have := HJ7.out; first | omega | exact Nat.le_refl _⟩, ⟨by (with_reducible repeat (first | apply Kd.R_alloc | apply Kd.R_drewN | apply Kd.R_drew)); exact Kd.R_mono HO_4.out (fun _ hk => hk.2.1)⟩, ⟨by (with_reducible repeat (first | apply Kd.R_alloc | apply Kd.R_drewN | apply Kd.R_drew)); exact Kd.R_mono HO_8.out (fun _ hk => hk.1)⟩, ⟨by repeat (first | (with_reducible first | exact HB.out | apply below_alloc | apply pw_below_drewN | apply below_drew1) | exact HB.out)⟩⟩
            case rest =>
              clear HC32
              try clear c1
              try clear c2
              try clear p2
              try clear c3
              try clear c3b0
              try clear c4
              try clear c10
              try clear c16
              try clear c17
              try clear c17b0
              try clear c17b1
              try clear c18
              try clear c20
              try clear c27
              try clear c30
              try clear c31
              try clear c33
              try clear c34
              try clear c37
              try clear c37b0
              try clear c39
              try clear c40
              try clear c40b0
              try clear c40b1
              try clear p2
              obtain ⟨kq, x76_31, rfl, HA, HJ31, HO_4, HO_8, HB⟩ := hcut
              cases kq with
              | zero => exact absurd HA.out (by simp [laws_FnExactSettleNames.j1])
              | succ kj31 =>
                have H := HA.out
                clear HA
                simp only [laws_FnExactSettleNames.j1] at H
                by_cases c50 : x76_31 = true
                · subst c50
                  have H1 : (some false) = some r := by rw [if_pos rfl] at H; exact H
                  clear H
                  have H := H1
                  clear H1
                  obtain rfl := Option.some.inj H
                  go_wp2
                  go_ret
                  exact ⟨by first | rfl | (simp [errW_none, errW_some] <;> rfl) | (simp [*, errW_none, errW_some] <;> rfl), by repeat (first | (with_reducible first | exact HB.out | apply below_alloc | apply pw_below_drewN | apply below_drew1) | exact HB.out)⟩
                · replace c50 := Bool.eq_false_iff.mpr c50
                  subst c50
                  have H1 : ((laws_markOwnerS.f kj31 t403 1).bind fun bt416 => ((laws_heldOwnerS.f kj31 bt416.2 1).bind fun t418 => (if t418 < 0 then (some false) else (if t418 = bt416.1 then ((laws_toOwnerS.f kj31 l0).bind fun t419 => ((impl_SettleNames.f kj31 t419).bind fun bt422 => ((laws_eqOwnerS.f kj31 bt422.1 t395).bind fun t427 => (if t427 = true then (if bt422.2.1 = t396 then (laws_FnExactSettleNames.j2 kj31 bt416.2 bt416.1 (bt422.2.2 != t397)) else (laws_FnExactSettleNames.j2 kj31 bt416.2 bt416.1 true)) else (laws_FnExactSettleNames.j2 kj31 bt416.2 bt416.1 true))))) else (some false))))) = some r := by rw [if_neg (show ¬ (false = true) by decide)] at H; exact H
                  clear H
                  have H := H1
                  clear H1
                  replace H := Option.bind_eq_some_iff.mp H
                  obtain ⟨⟨t416, t417⟩, A510, H⟩ := H
                  replace H : ((laws_heldOwnerS.f kj31 t417 1).bind fun t418 => (if t418 < 0 then (some false) else (if t418 = t416 then ((laws_toOwnerS.f kj31 l0).bind fun t419 => ((impl_SettleNames.f kj31 t419).bind fun bt422 => ((laws_eqOwnerS.f kj31 bt422.1 t395).bind fun t427 => (if t427 = true then (if bt422.2.1 = t396 then (laws_FnExactSettleNames.j2 kj31 t417 t416 (bt422.2.2 != t397)) else (laws_FnExactSettleNames.j2 kj31 t417 t416 true)) else (laws_FnExactSettleNames.j2 kj31 t417 t416 true))))) else (some false)))) = some r := H
                  have A51 := Aside0.mk A510
                  clear A510
                  replace H := Option.bind_eq_some_iff.mp H
                  obtain ⟨t418, A520, H⟩ := H
                  replace H : (if t418 < 0 then (some false) else (if t418 = t416 then ((laws_toOwnerS.f kj31 l0).bind fun t419 => ((impl_SettleNames.f kj31 t419).bind fun bt422 => ((laws_eqOwnerS.f kj31 bt422.1 t395).bind fun t427 => (if t427 = true then (if bt422.2.1 = t396 then (laws_FnExactSettleNames.j2 kj31 t417 t416 (bt422.2.2 != t397)) else (laws_FnExactSettleNames.j2 kj31 t417 t416 true)) else (laws_FnExactSettleNames.j2 kj31 t417 t416 true))))) else (some false))) = some r := H
                  have A52 := Aside0.mk A520
                  clear A520
                  by_cases c53 : t418 < 0
                  · rw [if_pos c53] at H
                    have c53b0 : decide (t418 < 0) = true := decide_eq_true c53
                    clear c53
                    obtain rfl := Option.some.inj H
                    obtain ⟨Ao54, co54, eo54⟩ := Kd.R_slice HO_8.out
                    subst eo54
                    go_wp2_with (first | ((with_reducible refine gate_callee (f := 31) rfl ?_); refine goesL_ (some 79) rfl rfl Try.func31 (by kernel_rfl) rfl #[.slice Ao54 t403.length co54, .int .i64 1] rfl (by (try simp only [List.map_toArray, List.map_cons, List.map_nil]); first | done | rfl | (simp only [List.length_drop, List.length_take]; rfl)) ?_; (with_reducible refine (laws_markOwnerS.calls kj31 (fun k_ => some k_ = (.slice Ao54 t403.length co54 : Value).ownBlock) (.slice Ao54 t403.length co54) t403 1 t416 t417 w _ ?side1 ?side2 A51.out).mono ?_); (case side1 => repeat (first | (with_reducible first | exact HB.out | apply below_alloc | apply pw_below_drewN | apply below_drew1) | exact HB.out)); (case side2 => exact Kd.R_tight rfl HO_8.out); rintro e w55 ⟨rfl, hy0, hb, hkp⟩; refine ⟨_, rfl, ?_⟩; have n0_ := Aside0.mk (Kd.R_mono (ok' := fun k_ => some k_ ≠ (.slice Ao54 t403.length co54 : Value).ownBlock) (Kd.R_keptB (HO_4.out) hkp (fun k_ hk_ hs_ => (hk_) hs_)) (fun k_ hk_ => hk_.1)); have n1_ := Aside0.mk (Kd.R_reok rfl hy0 (fun k_ e_ => HO_8.out.1 k_ e_)); have n2_ := Aside0.mk (hb); clear HO_4; clear HO_8; clear HB; have HO_4 := n0_; have HO_8 := n1_; have HB := n2_; clear n0_ n1_ n2_; (try clear hb); (try clear hkp); (try clear hy0)) | ((with_reducible refine gate_callee (f := 32) rfl ?_); refine goesL_ (some 82) rfl rfl Try.func32 (by kernel_rfl) rfl #[.slice Ao54 t417.length co54, .int .i64 1] rfl (by (try simp only [List.map_toArray, List.map_cons, List.map_nil]); first | done | (rw [show t417.length = t403.length from (Kd.R_reads' HO_8.out).1.symm] <;> rfl) | rfl | (simp only [List.length_drop, List.length_take]; rfl)) ?_; (with_reducible refine (laws_heldOwnerS.calls kj31 _ _ t417 1 t418 _ ?side1 ?side2 A52.out).mono ?_); (case side1 => repeat (first | exact (Kd.R_reads' HO_8.out).2.2 | (with_reducible refine Kd.C_alloc ?_ _) | (with_reducible refine Kd.C_drewN ?_ _) | (with_reducible refine Kd.C_drew ?_))); (case side2 => rw [show t417.length = t403.length from (Kd.R_reads' HO_8.out).1.symm]; exact (Kd.R_reads' HO_8.out).2.1); rintro e w' ⟨rfl, ⟨nd, rfl⟩⟩; refine ⟨_, rfl, ?_⟩))
                    go_ret
                    exact ⟨by first | rfl | (simp [errW_none, errW_some] <;> rfl) | (simp [*, errW_none, errW_some] <;> rfl), by repeat (first | (with_reducible first | exact HB.out | apply below_alloc | apply pw_below_drewN | apply below_drew1) | exact HB.out)⟩
                  · rw [if_neg c53] at H
                    have c53b0 : decide (t418 < 0) = false := decide_eq_false c53
                    clear c53
                    by_cases c56 : t418 = t416
                    · rw [if_pos c56] at H
                      have c56b0 : (t418 == t416) = true := beq_iff_eq.mpr c56
                      have c56b1 : (t418 != t416) = false := bne_eq_false_iff_eq.mpr c56
                      clear c56
                      replace H := Option.bind_eq_some_iff.mp H
                      obtain ⟨t419, A570, H⟩ := H
                      replace H : ((impl_SettleNames.f kj31 t419).bind fun bt422 => ((laws_eqOwnerS.f kj31 bt422.1 t395).bind fun t427 => (if t427 = true then (if bt422.2.1 = t396 then (laws_FnExactSettleNames.j2 kj31 t417 t416 (bt422.2.2 != t397)) else (laws_FnExactSettleNames.j2 kj31 t417 t416 true)) else (laws_FnExactSettleNames.j2 kj31 t417 t416 true)))) = some r := H
                      have A57 := Aside0.mk A570
                      clear A570
                      replace H := Option.bind_eq_some_iff.mp H
                      obtain ⟨⟨t422, t423, t424⟩, A580, H⟩ := H
                      replace H : ((laws_eqOwnerS.f kj31 t422 t395).bind fun t427 => (if t427 = true then (if t423 = t396 then (laws_FnExactSettleNames.j2 kj31 t417 t416 (t424 != t397)) else (laws_FnExactSettleNames.j2 kj31 t417 t416 true)) else (laws_FnExactSettleNames.j2 kj31 t417 t416 true))) = some r := H
                      have A58 := Aside0.mk A580
                      clear A580
                      have HC59 := Aside0.mk H
                      clear H
                      obtain ⟨Ao60, co60, eo60⟩ := Kd.R_slice HO_8.out
                      subst eo60
                      go_upto_region 25 with (first | ((with_reducible refine gate_callee (f := 31) rfl ?_); refine goesL_ (some 79) rfl rfl Try.func31 (by kernel_rfl) rfl #[.slice Ao60 t403.length co60, .int .i64 1] rfl (by (try simp only [List.map_toArray, List.map_cons, List.map_nil]); first | done | rfl | (simp only [List.length_drop, List.length_take]; rfl)) ?_; (with_reducible refine (laws_markOwnerS.calls kj31 (fun k_ => some k_ = (.slice Ao60 t403.length co60 : Value).ownBlock) (.slice Ao60 t403.length co60) t403 1 t416 t417 w _ ?side1 ?side2 A51.out).mono ?_); (case side1 => repeat (first | (with_reducible first | exact HB.out | apply below_alloc | apply pw_below_drewN | apply below_drew1) | exact HB.out)); (case side2 => exact Kd.R_tight rfl HO_8.out); rintro e w61 ⟨rfl, hy0, hb, hkp⟩; refine ⟨_, rfl, ?_⟩; have n0_ := Aside0.mk (Kd.R_mono (ok' := fun k_ => some k_ ≠ (.slice Ao60 t403.length co60 : Value).ownBlock) (Kd.R_keptB (HO_4.out) hkp (fun k_ hk_ hs_ => (hk_) hs_)) (fun k_ hk_ => hk_.1)); have n1_ := Aside0.mk (Kd.R_reok rfl hy0 (fun k_ e_ => HO_8.out.1 k_ e_)); have n2_ := Aside0.mk (hb); clear HO_4; clear HO_8; clear HB; have HO_4 := n0_; have HO_8 := n1_; have HB := n2_; clear n0_ n1_ n2_; (try clear hb); (try clear hkp); (try clear hy0)) | ((with_reducible refine gate_callee (f := 32) rfl ?_); refine goesL_ (some 82) rfl rfl Try.func32 (by kernel_rfl) rfl #[.slice Ao60 t417.length co60, .int .i64 1] rfl (by (try simp only [List.map_toArray, List.map_cons, List.map_nil]); first | done | (rw [show t417.length = t403.length from (Kd.R_reads' HO_8.out).1.symm] <;> rfl) | rfl | (simp only [List.length_drop, List.length_take]; rfl)) ?_; (with_reducible refine (laws_heldOwnerS.calls kj31 _ _ t417 1 t418 _ ?side1 ?side2 A52.out).mono ?_); (case side1 => repeat (first | exact (Kd.R_reads' HO_8.out).2.2 | (with_reducible refine Kd.C_alloc ?_ _) | (with_reducible refine Kd.C_drewN ?_ _) | (with_reducible refine Kd.C_drew ?_))); (case side2 => rw [show t417.length = t403.length from (Kd.R_reads' HO_8.out).1.symm]; exact (Kd.R_reads' HO_8.out).2.1); rintro e w' ⟨rfl, ⟨nd, rfl⟩⟩; refine ⟨_, rfl, ?_⟩) | ((with_reducible refine gate_callee (f := 18) rfl ?_); refine goesL_ (some 90) rfl rfl Try.func18 (by kernel_rfl) rfl #[.slice A0 l0.length c0] rfl (by (try simp only [List.map_toArray, List.map_cons, List.map_nil]); first | done | rfl | (simp only [List.length_drop, List.length_take]; rfl)) ?_; (with_reducible refine (laws_toOwnerS.calls kj31 _ _ l0 t419 _ ?side1 ?side2 A57.out).mono ?_); (case side1 => repeat (first | exact (Kd.C_below HR0.out (by repeat (first | (with_reducible first | exact HB.out | apply below_alloc | apply pw_below_drewN | apply below_drew1) | exact HB.out))) | (with_reducible refine Kd.C_alloc ?_ _) | (with_reducible refine Kd.C_drewN ?_ _) | (with_reducible refine Kd.C_drew ?_))); (case side2 => exact HC0.out); rintro e w62 ⟨v420, rfl, ho0, hb⟩; refine ⟨_, rfl, ?_⟩; have n0_ := Aside0.mk (Kd.R_elder' (by (with_reducible repeat (first | apply Kd.R_alloc | apply Kd.R_drewN | apply Kd.R_drew)); exact HO_4.out) (Kd.R_base ho0) hb); have n1_ := Aside0.mk (Kd.R_elder' (by (with_reducible repeat (first | apply Kd.R_alloc | apply Kd.R_drewN | apply Kd.R_drew)); exact HO_8.out) (Kd.R_base ho0) hb); have n2_ := Aside0.mk (Kd.R_lower (Kd.R_new' (Kd.R_new' ho0 (Kd.R_lt (by (with_reducible repeat (first | apply Kd.R_alloc | apply Kd.R_drewN | apply Kd.R_drew)); exact HO_4.out))) (Kd.R_lt (by (with_reducible repeat (first | apply Kd.R_alloc | apply Kd.R_drewN | apply Kd.R_drew)); exact HO_8.out))) (below_size (by repeat (first | (with_reducible first | exact HB.out | apply below_alloc | apply pw_below_drewN | apply below_drew1) | exact HB.out)))); have n3_ := Aside0.mk (below_step (by repeat (first | (with_reducible first | exact HB.out | apply below_alloc | apply pw_below_drewN | apply below_drew1) | exact HB.out)) hb); clear HO_4; clear HO_8; clear HB; have HO_4 := n0_; have HO_8 := n1_; have HO421 := n2_; have HB := n3_; clear n0_ n1_ n2_ n3_; (try clear hb); (try clear hb2); (try clear hk); (try clear hi); (try clear ho0); obtain ⟨Ao63, co63, eo63⟩ := Kd.R_slice HO421.out; subst eo63) | ((with_reducible refine gate_callee (f := 34) rfl ?_); refine goesL_ (some 91) rfl rfl Try.func34 (by kernel_rfl) rfl #[.slice Ao63 t419.length co63] rfl (by (try simp only [List.map_toArray, List.map_cons, List.map_nil]); first | done | rfl | (simp only [List.length_drop, List.length_take]; rfl)) ?_; (with_reducible refine (impl_SettleNames.calls kj31 _ _ t419 t422 t423 t424 _ ?side1 ?side2 A58.out).mono ?_); (case side1 => repeat (first | exact (Kd.R_reads' HO421.out).2.2 | (with_reducible refine Kd.C_alloc ?_ _) | (with_reducible refine Kd.C_drewN ?_ _) | (with_reducible refine Kd.C_drew ?_))); (case side2 => exact (Kd.R_reads' HO421.out).2.1); rintro e w64 ⟨v425, rfl, ho0, hb⟩; refine ⟨_, rfl, ?_⟩; have n0_ := Aside0.mk (Kd.R_elder' (by (with_reducible repeat (first | apply Kd.R_alloc | apply Kd.R_drewN | apply Kd.R_drew)); exact HO_4.out) (Kd.R_base ho0) hb); have n1_ := Aside0.mk (Kd.R_elder' (by (with_reducible repeat (first | apply Kd.R_alloc | apply Kd.R_drewN | apply Kd.R_drew)); exact HO_8.out) (Kd.R_base ho0) hb); have n2_ := Aside0.mk (Kd.R_elder' (by (with_reducible repeat (first | apply Kd.R_alloc | apply Kd.R_drewN | apply Kd.R_drew)); exact HO421.out) (Kd.R_base ho0) hb); have n3_ := Aside0.mk (Kd.R_lower (Kd.R_new' (Kd.R_new' (Kd.R_new' ho0 (Kd.R_lt (by (with_reducible repeat (first | apply Kd.R_alloc | apply Kd.R_drewN | apply Kd.R_drew)); exact HO_4.out))) (Kd.R_lt (by (with_reducible repeat (first | apply Kd.R_alloc | apply Kd.R_drewN | apply Kd.R_drew)); exact HO_8.out))) (Kd.R_lt (by (with_reducible repeat (first | apply Kd.R_alloc | apply Kd.R_drewN | apply Kd.R_drew)); exact HO421.out))) (below_size (by repeat (first | (with_reducible first | exact HB.out | apply below_alloc | apply pw_below_drewN | apply below_drew1) | exact HB.out)))); have n4_ := Aside0.mk (below_step (by repeat (first | (with_reducible first | exact HB.out | apply below_alloc | apply pw_below_drewN | apply below_drew1) | exact HB.out)) hb); clear HO_4; clear HO_8; clear HO421; clear HB; have HO_4 := n0_; have HO_8 := n1_; have HO421 := n2_; have HO426 := n3_; have HB := n4_; clear n0_ n1_ n2_ n3_ n4_; (try clear hb); (try clear hb2); (try clear hk); (try clear hi); (try clear ho0)))
                      (try simp only [Act.put, List.setIfInBounds_toArray, List.set_cons_zero, List.set_cons_succ])
                      go_cut [108] (fun v108 wc => ∃ (kq : Nat) (x108_58 : Bool), v108 = .bool x108_58 ∧ Aside0 (laws_FnExactSettleNames.j2 kq t417 t416 x108_58 = some r) ∧ Aside0 (kq ≤ kj31) ∧ Aside0 (Kd.R k26 26 wc w.heap.size (fun _ => True) (.slice Ao60 t403.length co60) t417) ∧ Aside0 (Below w.heap.size w wc))
                      case first =>
                        have H := HC59.out
                        clear HC59
                        replace H := Option.bind_eq_some_iff.mp H
                        obtain ⟨t427, A650, H⟩ := H
                        replace H : (if t427 = true then (if t423 = t396 then (laws_FnExactSettleNames.j2 kj31 t417 t416 (t424 != t397)) else (laws_FnExactSettleNames.j2 kj31 t417 t416 true)) else (laws_FnExactSettleNames.j2 kj31 t417 t416 true)) = some r := H
                        have A65 := Aside0.mk A650
                        clear A650
                        by_cases c66 : t427 = true
                        · subst c66
                          have H1 : (if t423 = t396 then (laws_FnExactSettleNames.j2 kj31 t417 t416 (t424 != t397)) else (laws_FnExactSettleNames.j2 kj31 t417 t416 true)) = some r := by rw [if_pos rfl] at H; exact H
                          clear H
                          have H := H1
                          clear H1
                          by_cases c67 : t423 = t396
                          · rw [if_pos c67] at H
                            have c67b0 : (t423 == t396) = true := beq_iff_eq.mpr c67
                            have c67b1 : (t423 != t396) = false := bne_eq_false_iff_eq.mpr c67
                            clear c67
                            (first | rw [c67b0] | (simp only [i64_w, i32_w]; rw [c67b0]) | skip)
                            have H' := Aside0.mk H
                            clear H
                            obtain ⟨Ao68, co68, eo68⟩ := Kd.R_slice HO426.out
                            subst eo68
                            obtain ⟨Ao69, co69, eo69⟩ := Kd.R_slice HO_4.out
                            subst eo69
                            go_wp2_with (first | ((with_reducible refine gate_callee (f := 20) rfl ?_); refine goesL_ (some 97) rfl rfl Try.func20 (by kernel_rfl) rfl #[.slice Ao68 t422.length co68, .slice Ao69 t395.length co69] rfl (by (try simp only [List.map_toArray, List.map_cons, List.map_nil]); first | done | rfl | (simp only [List.length_drop, List.length_take]; rfl)) ?_; (with_reducible refine (laws_eqOwnerS.calls kj31 _ _ t422 _ _ t395 true _ ?side1 ?side2 ?side3 ?side4 A65.out).mono ?_); (case side1 => repeat (first | exact (Kd.R_reads' HO426.out).2.2 | (with_reducible refine Kd.C_alloc ?_ _) | (with_reducible refine Kd.C_drewN ?_ _) | (with_reducible refine Kd.C_drew ?_))); (case side2 => exact (Kd.R_reads' HO426.out).2.1); (case side3 => repeat (first | exact (Kd.R_reads' HO_4.out).2.2 | (with_reducible refine Kd.C_alloc ?_ _) | (with_reducible refine Kd.C_drewN ?_ _) | (with_reducible refine Kd.C_drew ?_))); (case side4 => exact (Kd.R_reads' HO_4.out).2.1); rintro e w70 ⟨rfl, hb⟩; refine ⟨_, rfl, ?_⟩; have n0_ := Aside0.mk (Kd.R_below (by (with_reducible repeat (first | apply Kd.R_alloc | apply Kd.R_drewN | apply Kd.R_drew)); exact HO_4.out) hb); have n1_ := Aside0.mk (Kd.R_below (by (with_reducible repeat (first | apply Kd.R_alloc | apply Kd.R_drewN | apply Kd.R_drew)); exact HO_8.out) hb); have n2_ := Aside0.mk (Kd.R_below (by (with_reducible repeat (first | apply Kd.R_alloc | apply Kd.R_drewN | apply Kd.R_drew)); exact HO421.out) hb); have n3_ := Aside0.mk (Kd.R_below (by (with_reducible repeat (first | apply Kd.R_alloc | apply Kd.R_drewN | apply Kd.R_drew)); exact HO426.out) hb); have n4_ := Aside0.mk (below_step (by repeat (first | (with_reducible first | exact HB.out | apply below_alloc | apply pw_below_drewN | apply below_drew1) | exact HB.out)) hb); clear HO_4; clear HO_8; clear HO421; clear HO426; clear HB; have HO_4 := n0_; have HO_8 := n1_; have HO421 := n2_; have HO426 := n3_; have HB := n4_; clear n0_ n1_ n2_ n3_ n4_; (try clear hb); (try clear hb2); (try clear hk); (try clear hi)))
                            go_meet
                            case rel => exact ⟨_, ((t424 != t397)), (by first | rfl | (simp; done) | (simp [*]; done)), H', ⟨by have := HJ7.out; have := HJ31.out; first | omega | exact Nat.le_refl _⟩, ⟨by (with_reducible repeat (first | apply Kd.R_alloc | apply Kd.R_drewN | apply Kd.R_drew)); exact Kd.R_mono HO_8.out (fun _ hk => trivial)⟩, ⟨by repeat (first | (with_reducible first | exact HB.out | apply below_alloc | apply pw_below_drewN | apply below_drew1) | exact HB.out)⟩⟩
                          · rw [if_neg c67] at H
                            have c67b0 : (t423 == t396) = false := beq_eq_false_iff_ne.mpr c67
                            have c67b1 : (t423 != t396) = true := bne_iff_ne.mpr c67
                            (first | rw [c67b0] | (simp only [i64_w, i32_w]; rw [c67b0]) | skip)
                            have H' := Aside0.mk H
                            clear H
                            obtain ⟨Ao71, co71, eo71⟩ := Kd.R_slice HO426.out
                            subst eo71
                            obtain ⟨Ao72, co72, eo72⟩ := Kd.R_slice HO_4.out
                            subst eo72
                            go_wp2_with (first | ((with_reducible refine gate_callee (f := 20) rfl ?_); refine goesL_ (some 97) rfl rfl Try.func20 (by kernel_rfl) rfl #[.slice Ao71 t422.length co71, .slice Ao72 t395.length co72] rfl (by (try simp only [List.map_toArray, List.map_cons, List.map_nil]); first | done | rfl | (simp only [List.length_drop, List.length_take]; rfl)) ?_; (with_reducible refine (laws_eqOwnerS.calls kj31 _ _ t422 _ _ t395 true _ ?side1 ?side2 ?side3 ?side4 A65.out).mono ?_); (case side1 => repeat (first | exact (Kd.R_reads' HO426.out).2.2 | (with_reducible refine Kd.C_alloc ?_ _) | (with_reducible refine Kd.C_drewN ?_ _) | (with_reducible refine Kd.C_drew ?_))); (case side2 => exact (Kd.R_reads' HO426.out).2.1); (case side3 => repeat (first | exact (Kd.R_reads' HO_4.out).2.2 | (with_reducible refine Kd.C_alloc ?_ _) | (with_reducible refine Kd.C_drewN ?_ _) | (with_reducible refine Kd.C_drew ?_))); (case side4 => exact (Kd.R_reads' HO_4.out).2.1); rintro e w73 ⟨rfl, hb⟩; refine ⟨_, rfl, ?_⟩; have n0_ := Aside0.mk (Kd.R_below (by (with_reducible repeat (first | apply Kd.R_alloc | apply Kd.R_drewN | apply Kd.R_drew)); exact HO_4.out) hb); have n1_ := Aside0.mk (Kd.R_below (by (with_reducible repeat (first | apply Kd.R_alloc | apply Kd.R_drewN | apply Kd.R_drew)); exact HO_8.out) hb); have n2_ := Aside0.mk (Kd.R_below (by (with_reducible repeat (first | apply Kd.R_alloc | apply Kd.R_drewN | apply Kd.R_drew)); exact HO421.out) hb); have n3_ := Aside0.mk (Kd.R_below (by (with_reducible repeat (first | apply Kd.R_alloc | apply Kd.R_drewN | apply Kd.R_drew)); exact HO426.out) hb); have n4_ := Aside0.mk (below_step (by repeat (first | (with_reducible first | exact HB.out | apply below_alloc | apply pw_below_drewN | apply below_drew1) | exact HB.out)) hb); clear HO_4; clear HO_8; clear HO421; clear HO426; clear HB; have HO_4 := n0_; have HO_8 := n1_; have HO421 := n2_; have HO426 := n3_; have HB := n4_; clear n0_ n1_ n2_ n3_ n4_; (try clear hb); (try clear hb2); (try clear hk); (try clear hi)))
                            go_meet
                            case rel => exact ⟨_, (true), (by first | rfl | (simp; done) | (simp [*]; done)), H', ⟨by have := HJ7.out; have := HJ31.out; first | omega | exact Nat.le_refl _⟩, ⟨by (with_reducible repeat (first | apply Kd.R_alloc | apply Kd.R_drewN | apply Kd.R_drew)); exact Kd.R_mono HO_8.out (fun _ hk => trivial)⟩, ⟨by repeat (first | (with_reducible first | exact HB.out | apply below_alloc | apply pw_below_drewN | apply below_drew1) | exact HB.out)⟩⟩
                        · replace c66 := Bool.eq_false_iff.mpr c66
                          subst c66
                          have H1 : (laws_FnExactSettleNames.j2 kj31 t417 t416 true) = some r := by rw [if_neg (show ¬ (false = true) by decide)] at H; exact H
                          clear H
                          have H := H1
                          clear H1
                          have H' := Aside0.mk H
                          clear H
                          obtain ⟨Ao74, co74, eo74⟩ := Kd.R_slice HO426.out
                          subst eo74
                          obtain ⟨Ao75, co75, eo75⟩ := Kd.R_slice HO_4.out
                          subst eo75
                          go_wp2_with (first | ((with_reducible refine gate_callee (f := 20) rfl ?_); refine goesL_ (some 97) rfl rfl Try.func20 (by kernel_rfl) rfl #[.slice Ao74 t422.length co74, .slice Ao75 t395.length co75] rfl (by (try simp only [List.map_toArray, List.map_cons, List.map_nil]); first | done | rfl | (simp only [List.length_drop, List.length_take]; rfl)) ?_; (with_reducible refine (laws_eqOwnerS.calls kj31 _ _ t422 _ _ t395 false _ ?side1 ?side2 ?side3 ?side4 A65.out).mono ?_); (case side1 => repeat (first | exact (Kd.R_reads' HO426.out).2.2 | (with_reducible refine Kd.C_alloc ?_ _) | (with_reducible refine Kd.C_drewN ?_ _) | (with_reducible refine Kd.C_drew ?_))); (case side2 => exact (Kd.R_reads' HO426.out).2.1); (case side3 => repeat (first | exact (Kd.R_reads' HO_4.out).2.2 | (with_reducible refine Kd.C_alloc ?_ _) | (with_reducible refine Kd.C_drewN ?_ _) | (with_reducible refine Kd.C_drew ?_))); (case side4 => exact (Kd.R_reads' HO_4.out).2.1); rintro e w76 ⟨rfl, hb⟩; refine ⟨_, rfl, ?_⟩; have n0_ := Aside0.mk (Kd.R_below (by (with_reducible repeat (first | apply Kd.R_alloc | apply Kd.R_drewN | apply Kd.R_drew)); exact HO_4.out) hb); have n1_ := Aside0.mk (Kd.R_below (by (with_reducible repeat (first | apply Kd.R_alloc | apply Kd.R_drewN | apply Kd.R_drew)); exact HO_8.out) hb); have n2_ := Aside0.mk (Kd.R_below (by (with_reducible repeat (first | apply Kd.R_alloc | apply Kd.R_drewN | apply Kd.R_drew)); exact HO421.out) hb); have n3_ := Aside0.mk (Kd.R_below (by (with_reducible repeat (first | apply Kd.R_alloc | apply Kd.R_drewN | apply Kd.R_drew)); exact HO426.out) hb); have n4_ := Aside0.mk (below_step (by repeat (first | (with_reducible first | exact HB.out | apply below_alloc | apply pw_below_drewN | apply below_drew1) | exact HB.out)) hb); clear HO_4; clear HO_8; clear HO421; clear HO426; clear HB; have HO_4 := n0_; have HO_8 := n1_; have HO421 := n2_; have HO426 := n3_; have HB := n4_; clear n0_ n1_ n2_ n3_ n4_; (try clear hb); (try clear hb2); (try clear hk); (try clear hi)))
                          go_meet
                          case rel => exact ⟨_, (true), (by first | rfl | (simp; done) | (simp [*]; done)), H', ⟨by have := HJ7.out; have := HJ31.out; first | omega | exact Nat.le_refl _⟩, ⟨by (with_reducible repeat (first | apply Kd.R_alloc | apply Kd.R_drewN | apply Kd.R_drew)); exact Kd.R_mono HO_8.out (fun _ hk => trivial)⟩, ⟨by repeat (first | (with_reducible first | exact HB.out | apply below_alloc | apply pw_below_drewN | apply below_drew1) | exact HB.out)⟩⟩
                      case rest =>
                        clear HC59
                        try clear c1
                        try clear c2
                        try clear p2
                        try clear c3
                        try clear c3b0
                        try clear c4
                        try clear c5
                        try clear c6
                        try clear c10
                        try clear c16
                        try clear c17
                        try clear c17b0
                        try clear c17b1
                        try clear c18
                        try clear c20
                        try clear c27
                        try clear c30
                        try clear c31
                        try clear c32
                        try clear c33
                        try clear c34
                        try clear c37
                        try clear c37b0
                        try clear c39
                        try clear c40
                        try clear c40b0
                        try clear c40b1
                        try clear c50
                        try clear c53
                        try clear c53b0
                        try clear c56
                        try clear c56b0
                        try clear c56b1
                        try clear c66
                        try clear c67
                        try clear c67b0
                        try clear c67b1
                        try clear p2
                        obtain ⟨kq, x108_58, rfl, HA, HJ58, HO_8, HB⟩ := hcut
                        have hl8_58 := (Kd.R_reads' HO_8.out).1
                        rw [hl8_58] at HO_8
                        (try simp only [hl8_58])
                        cases kq with
                        | zero => exact absurd HA.out (by simp [laws_FnExactSettleNames.j2])
                        | succ kj58 =>
                          have H := HA.out
                          clear HA
                          simp only [laws_FnExactSettleNames.j2] at H
                          by_cases c77 : x108_58 = true
                          · subst c77
                            have H1 : (some false) = some r := by rw [if_pos rfl] at H; exact H
                            clear H
                            have H := H1
                            clear H1
                            obtain rfl := Option.some.inj H
                            go_wp2
                            go_ret
                            exact ⟨by first | rfl | (simp [errW_none, errW_some] <;> rfl) | (simp [*, errW_none, errW_some] <;> rfl), by repeat (first | (with_reducible first | exact HB.out | apply below_alloc | apply pw_below_drewN | apply below_drew1) | exact HB.out)⟩
                          · replace c77 := Bool.eq_false_iff.mpr c77
                            subst c77
                            have H1 : ((laws_heldOwnerS.f kj58 t417 1).bind fun t428 => (if t428 < 0 then (some false) else (if t428 = t416 then (some true) else (some false)))) = some r := by rw [if_neg (show ¬ (false = true) by decide)] at H; exact H
                            clear H
                            have H := H1
                            clear H1
                            replace H := Option.bind_eq_some_iff.mp H
                            obtain ⟨t428, A780, H⟩ := H
                            replace H : (if t428 < 0 then (some false) else (if t428 = t416 then (some true) else (some false))) = some r := H
                            have A78 := Aside0.mk A780
                            clear A780
                            by_cases c79 : t428 < 0
                            · rw [if_pos c79] at H
                              have c79b0 : decide (t428 < 0) = true := decide_eq_true c79
                              clear c79
                              obtain rfl := Option.some.inj H
                              go_wp2_with (first | ((with_reducible refine gate_callee (f := 32) rfl ?_); refine goesL_ (some 111) rfl rfl Try.func32 (by kernel_rfl) rfl #[.slice Ao60 t417.length co60, .int .i64 1] rfl (by (try simp only [List.map_toArray, List.map_cons, List.map_nil]); first | done | rfl | (simp only [List.length_drop, List.length_take]; rfl)) ?_; (with_reducible refine (laws_heldOwnerS.calls kj58 _ _ t417 1 t428 _ ?side1 ?side2 A78.out).mono ?_); (case side1 => repeat (first | exact (Kd.R_reads' HO_8.out).2.2 | (with_reducible refine Kd.C_alloc ?_ _) | (with_reducible refine Kd.C_drewN ?_ _) | (with_reducible refine Kd.C_drew ?_))); (case side2 => exact (Kd.R_reads' HO_8.out).2.1); rintro e w' ⟨rfl, ⟨nd, rfl⟩⟩; refine ⟨_, rfl, ?_⟩))
                              go_ret
                              exact ⟨by first | rfl | (simp [errW_none, errW_some] <;> rfl) | (simp [*, errW_none, errW_some] <;> rfl), by repeat (first | (with_reducible first | exact HB.out | apply below_alloc | apply pw_below_drewN | apply below_drew1) | exact HB.out)⟩
                            · rw [if_neg c79] at H
                              have c79b0 : decide (t428 < 0) = false := decide_eq_false c79
                              clear c79
                              by_cases c80 : t428 = t416
                              · rw [if_pos c80] at H
                                have c80b0 : (t428 == t416) = true := beq_iff_eq.mpr c80
                                have c80b1 : (t428 != t416) = false := bne_eq_false_iff_eq.mpr c80
                                clear c80
                                obtain rfl := Option.some.inj H
                                go_wp2_with (first | ((with_reducible refine gate_callee (f := 32) rfl ?_); refine goesL_ (some 111) rfl rfl Try.func32 (by kernel_rfl) rfl #[.slice Ao60 t417.length co60, .int .i64 1] rfl (by (try simp only [List.map_toArray, List.map_cons, List.map_nil]); first | done | rfl | (simp only [List.length_drop, List.length_take]; rfl)) ?_; (with_reducible refine (laws_heldOwnerS.calls kj58 _ _ t417 1 t428 _ ?side1 ?side2 A78.out).mono ?_); (case side1 => repeat (first | exact (Kd.R_reads' HO_8.out).2.2 | (with_reducible refine Kd.C_alloc ?_ _) | (with_reducible refine Kd.C_drewN ?_ _) | (with_reducible refine Kd.C_drew ?_))); (case side2 => exact (Kd.R_reads' HO_8.out).2.1); rintro e w' ⟨rfl, ⟨nd, rfl⟩⟩; refine ⟨_, rfl, ?_⟩))
                                go_ret
                                exact ⟨by first | rfl | (simp [errW_none, errW_some] <;> rfl) | (simp [*, errW_none, errW_some] <;> rfl), by repeat (first | (with_reducible first | exact HB.out | apply below_alloc | apply pw_below_drewN | apply below_drew1) | exact HB.out)⟩
                              · rw [if_neg c80] at H
                                have c80b0 : (t428 == t416) = false := beq_eq_false_iff_ne.mpr c80
                                have c80b1 : (t428 != t416) = true := bne_iff_ne.mpr c80
                                obtain rfl := Option.some.inj H
                                go_wp2_with (first | ((with_reducible refine gate_callee (f := 32) rfl ?_); refine goesL_ (some 111) rfl rfl Try.func32 (by kernel_rfl) rfl #[.slice Ao60 t417.length co60, .int .i64 1] rfl (by (try simp only [List.map_toArray, List.map_cons, List.map_nil]); first | done | rfl | (simp only [List.length_drop, List.length_take]; rfl)) ?_; (with_reducible refine (laws_heldOwnerS.calls kj58 _ _ t417 1 t428 _ ?side1 ?side2 A78.out).mono ?_); (case side1 => repeat (first | exact (Kd.R_reads' HO_8.out).2.2 | (with_reducible refine Kd.C_alloc ?_ _) | (with_reducible refine Kd.C_drewN ?_ _) | (with_reducible refine Kd.C_drew ?_))); (case side2 => exact (Kd.R_reads' HO_8.out).2.1); rintro e w' ⟨rfl, ⟨nd, rfl⟩⟩; refine ⟨_, rfl, ?_⟩))
                                go_ret
                                exact ⟨by first | rfl | (simp [errW_none, errW_some] <;> rfl) | (simp [*, errW_none, errW_some] <;> rfl), by repeat (first | (with_reducible first | exact HB.out | apply below_alloc | apply pw_below_drewN | apply below_drew1) | exact HB.out)⟩
                    · rw [if_neg c56] at H
                      have c56b0 : (t418 == t416) = false := beq_eq_false_iff_ne.mpr c56
                      have c56b1 : (t418 != t416) = true := bne_iff_ne.mpr c56
                      obtain rfl := Option.some.inj H
                      obtain ⟨Ao81, co81, eo81⟩ := Kd.R_slice HO_8.out
                      subst eo81
                      go_wp2_with (first | ((with_reducible refine gate_callee (f := 31) rfl ?_); refine goesL_ (some 79) rfl rfl Try.func31 (by kernel_rfl) rfl #[.slice Ao81 t403.length co81, .int .i64 1] rfl (by (try simp only [List.map_toArray, List.map_cons, List.map_nil]); first | done | rfl | (simp only [List.length_drop, List.length_take]; rfl)) ?_; (with_reducible refine (laws_markOwnerS.calls kj31 (fun k_ => some k_ = (.slice Ao81 t403.length co81 : Value).ownBlock) (.slice Ao81 t403.length co81) t403 1 t416 t417 w _ ?side1 ?side2 A51.out).mono ?_); (case side1 => repeat (first | (with_reducible first | exact HB.out | apply below_alloc | apply pw_below_drewN | apply below_drew1) | exact HB.out)); (case side2 => exact Kd.R_tight rfl HO_8.out); rintro e w82 ⟨rfl, hy0, hb, hkp⟩; refine ⟨_, rfl, ?_⟩; have n0_ := Aside0.mk (Kd.R_mono (ok' := fun k_ => some k_ ≠ (.slice Ao81 t403.length co81 : Value).ownBlock) (Kd.R_keptB (HO_4.out) hkp (fun k_ hk_ hs_ => (hk_) hs_)) (fun k_ hk_ => hk_.1)); have n1_ := Aside0.mk (Kd.R_reok rfl hy0 (fun k_ e_ => HO_8.out.1 k_ e_)); have n2_ := Aside0.mk (hb); clear HO_4; clear HO_8; clear HB; have HO_4 := n0_; have HO_8 := n1_; have HB := n2_; clear n0_ n1_ n2_; (try clear hb); (try clear hkp); (try clear hy0)) | ((with_reducible refine gate_callee (f := 32) rfl ?_); refine goesL_ (some 82) rfl rfl Try.func32 (by kernel_rfl) rfl #[.slice Ao81 t417.length co81, .int .i64 1] rfl (by (try simp only [List.map_toArray, List.map_cons, List.map_nil]); first | done | (rw [show t417.length = t403.length from (Kd.R_reads' HO_8.out).1.symm] <;> rfl) | rfl | (simp only [List.length_drop, List.length_take]; rfl)) ?_; (with_reducible refine (laws_heldOwnerS.calls kj31 _ _ t417 1 t418 _ ?side1 ?side2 A52.out).mono ?_); (case side1 => repeat (first | exact (Kd.R_reads' HO_8.out).2.2 | (with_reducible refine Kd.C_alloc ?_ _) | (with_reducible refine Kd.C_drewN ?_ _) | (with_reducible refine Kd.C_drew ?_))); (case side2 => rw [show t417.length = t403.length from (Kd.R_reads' HO_8.out).1.symm]; exact (Kd.R_reads' HO_8.out).2.1); rintro e w' ⟨rfl, ⟨nd, rfl⟩⟩; refine ⟨_, rfl, ?_⟩))
                      go_ret
                      exact ⟨by first | rfl | (simp [errW_none, errW_some] <;> rfl) | (simp [*, errW_none, errW_some] <;> rfl), by repeat (first | (with_reducible first | exact HB.out | apply below_alloc | apply pw_below_drewN | apply below_drew1) | exact HB.out)⟩
          · replace c30 := Bool.eq_false_iff.mpr c30
            subst c30
            have H1 : (some false) = some r := by rw [if_neg (show ¬ (false = true) by decide)] at H; exact H
            clear H
            have H := H1
            clear H1
            obtain rfl := Option.some.inj H
            go_wp2_with (first | ((with_reducible refine gate_callee (f := 18) rfl ?_); refine goesL_ (some 53) rfl rfl Try.func18 (by kernel_rfl) rfl #[.slice A0 l0.length c0] rfl (by (try simp only [List.map_toArray, List.map_cons, List.map_nil]); first | done | rfl | (simp only [List.length_drop, List.length_take]; rfl)) ?_; (with_reducible refine (laws_toOwnerS.calls kj7 _ _ l0 t409 _ ?side1 ?side2 A28.out).mono ?_); (case side1 => repeat (first | exact (Kd.C_below HR0.out HB.out) | (with_reducible refine Kd.C_alloc ?_ _) | (with_reducible refine Kd.C_drewN ?_ _) | (with_reducible refine Kd.C_drew ?_))); (case side2 => exact HC0.out); rintro e w83 ⟨v410, rfl, ho0, hb⟩; refine ⟨_, rfl, ?_⟩; have n0_ := Aside0.mk (Kd.R_elder' (by (with_reducible repeat (first | apply Kd.R_alloc | apply Kd.R_drewN | apply Kd.R_drew)); exact HO_4.out) (Kd.R_base ho0) hb); have n1_ := Aside0.mk (Kd.R_elder' (by (with_reducible repeat (first | apply Kd.R_alloc | apply Kd.R_drewN | apply Kd.R_drew)); exact HO_7.out) (Kd.R_base ho0) hb); have n2_ := Aside0.mk (Kd.R_elder' (by (with_reducible repeat (first | apply Kd.R_alloc | apply Kd.R_drewN | apply Kd.R_drew)); exact HO_8.out) (Kd.R_base ho0) hb); have n3_ := Aside0.mk (Kd.R_lower (Kd.R_new' (Kd.R_new' (Kd.R_new' ho0 (Kd.R_lt (by (with_reducible repeat (first | apply Kd.R_alloc | apply Kd.R_drewN | apply Kd.R_drew)); exact HO_4.out))) (Kd.R_lt (by (with_reducible repeat (first | apply Kd.R_alloc | apply Kd.R_drewN | apply Kd.R_drew)); exact HO_7.out))) (Kd.R_lt (by (with_reducible repeat (first | apply Kd.R_alloc | apply Kd.R_drewN | apply Kd.R_drew)); exact HO_8.out))) (below_size (by repeat (first | (with_reducible first | exact HB.out | apply below_alloc | apply pw_below_drewN | apply below_drew1) | exact HB.out)))); have n4_ := Aside0.mk (below_step (by repeat (first | (with_reducible first | exact HB.out | apply below_alloc | apply pw_below_drewN | apply below_drew1) | exact HB.out)) hb); clear HO_4; clear HO_7; clear HO_8; clear HB; have HO_4 := n0_; have HO_7 := n1_; have HO_8 := n2_; have HO411 := n3_; have HB := n4_; clear n0_ n1_ n2_ n3_ n4_; (try clear hb); (try clear hb2); (try clear hk); (try clear hi); (try clear ho0); obtain ⟨Ao84, co84, eo84⟩ := Kd.R_slice HO411.out; subst eo84) | ((with_reducible refine gate_callee (f := 20) rfl ?_); refine goesL_ (some 54) rfl rfl Try.func20 (by kernel_rfl) rfl #[.slice Ao13 t400.length co13, .slice Ao84 t409.length co84] rfl (by (try simp only [List.map_toArray, List.map_cons, List.map_nil]); first | done | rfl | (simp only [List.length_drop, List.length_take]; rfl)) ?_; (with_reducible refine (laws_eqOwnerS.calls kj7 _ _ t400 _ _ t409 false _ ?side1 ?side2 ?side3 ?side4 A29.out).mono ?_); (case side1 => repeat (first | exact (Kd.R_reads' HO_7.out).2.2 | (with_reducible refine Kd.C_alloc ?_ _) | (with_reducible refine Kd.C_drewN ?_ _) | (with_reducible refine Kd.C_drew ?_))); (case side2 => exact (Kd.R_reads' HO_7.out).2.1); (case side3 => repeat (first | exact (Kd.R_reads' HO411.out).2.2 | (with_reducible refine Kd.C_alloc ?_ _) | (with_reducible refine Kd.C_drewN ?_ _) | (with_reducible refine Kd.C_drew ?_))); (case side4 => exact (Kd.R_reads' HO411.out).2.1); rintro e w85 ⟨rfl, hb⟩; refine ⟨_, rfl, ?_⟩; have n0_ := Aside0.mk (Kd.R_below (by (with_reducible repeat (first | apply Kd.R_alloc | apply Kd.R_drewN | apply Kd.R_drew)); exact HO_4.out) hb); have n1_ := Aside0.mk (Kd.R_below (by (with_reducible repeat (first | apply Kd.R_alloc | apply Kd.R_drewN | apply Kd.R_drew)); exact HO_7.out) hb); have n2_ := Aside0.mk (Kd.R_below (by (with_reducible repeat (first | apply Kd.R_alloc | apply Kd.R_drewN | apply Kd.R_drew)); exact HO_8.out) hb); have n3_ := Aside0.mk (Kd.R_below (by (with_reducible repeat (first | apply Kd.R_alloc | apply Kd.R_drewN | apply Kd.R_drew)); exact HO411.out) hb); have n4_ := Aside0.mk (below_step (by repeat (first | (with_reducible first | exact HB.out | apply below_alloc | apply pw_below_drewN | apply below_drew1) | exact HB.out)) hb); clear HO_4; clear HO_7; clear HO_8; clear HO411; clear HB; have HO_4 := n0_; have HO_7 := n1_; have HO_8 := n2_; have HO411 := n3_; have HB := n4_; clear n0_ n1_ n2_ n3_ n4_; (try clear hb); (try clear hb2); (try clear hk); (try clear hi)))
            go_ret
            exact ⟨by first | rfl | (simp [errW_none, errW_some] <;> rfl) | (simp [*, errW_none, errW_some] <;> rfl), by repeat (first | (with_reducible first | exact HB.out | apply below_alloc | apply pw_below_drewN | apply below_drew1) | exact HB.out)⟩
end Go.Proofs.Ytljdenmmlkjapaa.P

namespace Go.Proofs.Ytljdenmmlkjapaa.P
open Go.RowKit Go.Proofs.YtljdenmmlkjapaaW.PrintWords Go.Proofs.YtljdenmmlkjapaaW.PrintLast
def wfS23 (s : S23) : Prop := (fun n : Int => (Lit.int .i64 n).wf = true) s.f0 ∧ (fun n : Int => (Lit.int .i64 n).wf = true) s.f1 ∧ (fun n : Int => (Lit.int .i64 n).wf = true) s.f2
/-- The one pure statement of laws_FnExactSettleNames. -/
def laws_FnExactSettleNames.Pure : Prop := ∀ (l0 : List (S23)), (fun l : List (S23) => l.length ≤ maxLen ∧ ∀ x ∈ l, wfS23 x) l0 → ∃ k, laws_FnExactSettleNames.f k l0 = some true
end Go.Proofs.Ytljdenmmlkjapaa.P

namespace Go.Proofs.Ytljdenmmlkjapaa.P
open Go.RowKit Go.Proofs.YtljdenmmlkjapaaW.PrintWords
set_option linter.unusedVariables false
set_option linter.unusedSimpArgs false
theorem wrap_id {x : Int} (h0 : -9223372036854775808 ≤ x) (h1 : x ≤ 9223372036854775807) : wrap64 x = x := by unfold wrap64; omega
theorem Ev.succ {α : Type} {g : Nat → Option α} {r : α} (h : Ev (fun k => g (k + 1)) r) : Ev g r := Ev.step (fun _ => rfl) h
theorem Ev.some_ {α : Type} {r s : α} (h : r = s) : Ev (fun _ => some r) s := h ▸ Ev.now r
theorem getD_mid {α : Type} (d : α) (pre : List α) (x : α) (suf : List α) : (pre ++ x :: suf).getD ((pre.length : Int)).toNat d = x := by simp
theorem set_mid {α : Type} (pre : List α) (x y : α) (suf : List α) : (pre ++ x :: suf).set ((pre.length : Int)).toNat y = pre ++ y :: suf := by simp
theorem app_one {α : Type} (pre : List α) (x : α) (suf : List α) : pre ++ x :: suf = (pre ++ [x]) ++ suf := by simp
theorem len_one {α : Type} (pre : List α) (x : α) : ((pre ++ [x]).length : Int) = pre.length + 1 := by simp
theorem nil_or_snoc {α : Type} (l : List α) : l = [] ∨ ∃ p y, l = p ++ [y] := by
  rcases List.eq_nil_or_concat l with rfl | ⟨p, y, rfl⟩
  · exact .inl rfl
  · exact .inr ⟨p, y, by simp⟩
end Go.Proofs.Ytljdenmmlkjapaa.P

namespace Go.Proofs.Ytljdenmmlkjapaa.P
open Go.RowKit Go.Proofs.YtljdenmmlkjapaaW.PrintWords Go.Proofs.YtljdenmmlkjapaaW.PrintLast
set_option linter.unusedVariables false
set_option linter.unusedSimpArgs false
theorem rdOwner_mid (pre : List S26) (x : S26) (suf : List S26) : rd_T26 (pre ++ x :: suf) (pre.length : Int) = x := getD_mid _ pre x suf
theorem rdLOwner_mid (pre : List S23) (x : S23) (suf : List S23) : rd_T23 (pre ++ x :: suf) (pre.length : Int) = x := getD_mid _ pre x suf
instance decOwner : DecidableEq S26 := fun a b => decidable_of_iff (a.f0 = b.f0 ∧ a.f1 = b.f1 ∧ a.f2 = b.f2) (by cases a; cases b; simp)
def cvOwner (x : S23) : S26 := ⟨x.f0, x.f1, x.f2⟩
theorem toOwnerS_l (suf : List S23) : ∀ (pre : List S23) (k : Nat), suf.length < k → (pre.length : Int) + suf.length ≤ 1099511627776 →
    laws_toOwnerS.l0 k (pre ++ suf) (pre.map cvOwner ++ List.replicate suf.length z26) (pre.length : Int) = some ((pre ++ suf).map cvOwner) := by
  induction suf with
  | nil =>
    intro pre k hk hb
    obtain ⟨k, rfl⟩ : ∃ m, k = m + 1 := ⟨k - 1, by omega⟩
    simp only [laws_toOwnerS.l0]
    rw [if_neg (by simp)]
    simp
  | cons x suf ih =>
    intro pre k hk hb
    simp only [List.length_cons] at hk hb
    obtain ⟨k, rfl⟩ : ∃ m, k = m + 1 := ⟨k - 1, by omega⟩
    have h := ih (pre ++ [x]) k (by omega) (by simp; omega)
    simp only [laws_toOwnerS.l0]
    rw [if_pos (by simp; omega), if_pos (by omega), rdLOwner_mid]
    simp only [laws_toOwner.f, Option.bind_some]
    rw [if_pos (by simp; omega), wrap_id (by omega) (by omega)]
    have e : (pre.map cvOwner ++ List.replicate (x :: suf).length z26).set ((pre.length : Int)).toNat (⟨x.f0, x.f1, x.f2⟩ : S26) = (pre ++ [x]).map cvOwner ++ List.replicate suf.length z26 := by
      simp [List.replicate_succ, cvOwner]
    rw [e]
    simpa using h
theorem toOwnerS_ev (l : List S23) (hl : l.length ≤ 1048576) : Ev (fun k => laws_toOwnerS.f k l) (l.map cvOwner) := by
  refine ⟨l.length + 1, fun k hk => ?_⟩
  have h := toOwnerS_l l [] k (by omega) (by simp; omega)
  show laws_toOwnerS.f k l = _
  unfold laws_toOwnerS.f
  rw [if_pos (by omega), if_pos (by simp; omega)]
  simpa using h
theorem eqOwner_is (a b : S26) : laws_eqOwner.f a.f0 a.f1 a.f2 b.f0 b.f1 b.f2 = some (decide (a = b)) := by
  cases a; cases b
  unfold laws_eqOwner.f
  simp only [S26.mk.injEq]
  split
  · split
    · split
      · rename_i h1 h2 h3; simp [h1, h2, h3]
      · rename_i h1 h2 h3; simp [h3]
    · rename_i h1 h2; simp [h2]
  · rename_i h1; simp [h1]
theorem eqOwnerS_l (s : List S26) : ∀ (t pre qre : List S26) (k : Nat), s.length < k → pre.length = qre.length → s.length = t.length → (pre.length : Int) + s.length ≤ 1099511627776 →
    laws_eqOwnerS.l0 k (pre ++ s) (qre ++ t) (pre.length : Int) = some (decide (s = t)) := by
  induction s with
  | nil =>
    intro t pre qre k hk hq hl hb
    obtain ⟨k, rfl⟩ : ∃ m, k = m + 1 := ⟨k - 1, by omega⟩
    obtain rfl : t = [] := List.eq_nil_of_length_eq_zero (by simpa using hl.symm)
    simp only [laws_eqOwnerS.l0]
    rw [if_neg (by simp)]
    simp
  | cons x s ih =>
    intro t pre qre k hk hq hl hb
    cases t with
    | nil => simp at hl
    | cons y t =>
      simp only [List.length_cons] at hk hl hb
      obtain ⟨k, rfl⟩ : ∃ m, k = m + 1 := ⟨k - 1, by omega⟩
      have h := ih t (pre ++ [x]) (qre ++ [y]) k (by omega) (by simp; omega) (by omega) (by simp; omega)
      have hy : rd_T26 (qre ++ y :: t) (pre.length : Int) = y := by rw [hq]; exact rdOwner_mid qre y t
      simp only [laws_eqOwnerS.l0]
      rw [if_pos (by simp; omega), if_pos (by omega), if_pos (by simp; omega), rdOwner_mid, hy, eqOwner_is, wrap_id (by omega) (by omega)]
      simp only [Option.bind_some]
      by_cases e : x = y
      · subst e
        rw [if_pos (by simp)]
        simpa using h
      · rw [if_neg (by simpa using e)]
        simp [e]
theorem eqOwnerS_ev (s t : List S26) (hs : s.length ≤ 1099511627776) : Ev (fun k => laws_eqOwnerS.f k s t) (decide (s = t)) := by
  refine ⟨s.length + 1, fun k hk => ?_⟩
  show laws_eqOwnerS.f k s t = _
  unfold laws_eqOwnerS.f
  by_cases hl : s.length = t.length
  · rw [if_pos (by omega)]
    exact eqOwnerS_l s t [] [] k (by omega) rfl hl (by simp; omega)
  · rw [if_neg (by omega)]
    have : s ≠ t := fun e => hl (by rw [e])
    simp [this]
theorem szOwnerS_is (l : List S23) (hl : l.length ≤ maxLen) (a : Int) (h0 : 0 ≤ a) (h1 : a ≤ 1048576) : laws_szOwnerS.f l a = some (if a - l.length < 0 then -1 else a - l.length) := by
  have hm : l.length ≤ 9223372036854775807 := by unfold maxLen at hl; exact hl
  unfold laws_szOwnerS.f
  rw [wrap_id (by omega) (by omega)]
  split <;> rfl
end Go.Proofs.Ytljdenmmlkjapaa.P

namespace Go.Proofs.Ytljdenmmlkjapaa.P
open Go.RowKit Go.Proofs.YtljdenmmlkjapaaW.PrintWords Go.Proofs.YtljdenmmlkjapaaW.PrintLast
set_option linter.unusedVariables false
set_option linter.unusedSimpArgs false
def isOwn (x : S26) : Bool := decide (1 ≤ x.f0 ∧ x.f0 ≤ 1000 ∧ 1 ≤ x.f1 ∧ x.f1 ≤ 50 ∧ 0 ≤ x.f2 ∧ x.f2 ≤ 255)
def goodOwnF : Option S26 → List S26 → Bool
  | _, [] => true
  | none, x :: r => isOwn x && goodOwnF (some x) r
  | some y, x :: r => isOwn x && (decide (y.f0 < x.f0) && goodOwnF (some x) r)
def goodOwn (l : List S26) : Bool := goodOwnF none l && decide (1 ≤ l.length ∧ l.length ≤ 10)
theorem specIn (a b c : Int) : spec_l1In.f a b c = some (decide (b ≤ a ∧ a ≤ c)) := by
  unfold spec_l1In.f
  by_cases h : b ≤ a <;> simp [h]
theorem specOwner (x : S26) : spec_l11Owner.f x.f0 x.f1 x.f2 = some (isOwn x) := by
  unfold spec_l11Owner.f isOwn
  simp only [specIn, Option.bind_some]
  by_cases h : 1 ≤ x.f0 ∧ x.f0 ≤ 1000
  · rw [if_pos (by simp [h])]
    by_cases h2 : 1 ≤ x.f1 ∧ x.f1 ≤ 50
    · rw [if_pos (by simp [h2])]
      simp [h, h2]
    · rw [if_neg (by simpa using h2)]
      simp only [Option.some.injEq, Bool.false_eq, decide_eq_false_iff_not]
      exact fun h3 => h2 ⟨h3.2.2.1, h3.2.2.2.1⟩
  · rw [if_neg (by simpa using h)]
    simp only [Option.some.injEq, Bool.false_eq, decide_eq_false_iff_not]
    exact fun h3 => h ⟨h3.1, h3.2.1⟩
theorem specGoodOwners_l (suf : List S26) : ∀ (pre : List S26) (k : Nat), suf.length < k → (pre.length : Int) + suf.length ≤ 1099511627776 →
    spec_GoodOwners.l0 k (pre ++ suf) (pre ++ suf) ((pre ++ suf).length : Int) (pre.length : Int) = some (goodOwnF pre.getLast? suf && decide (1 ≤ (pre ++ suf).length ∧ (pre ++ suf).length ≤ 10)) := by
  induction suf with
  | nil =>
    intro pre k hk hb
    obtain ⟨k, rfl⟩ : ∃ m, k = m + 1 := ⟨k - 1, by omega⟩
    simp only [spec_GoodOwners.l0]
    rw [if_neg (by simp), specIn]
    simp only [Option.bind_some, Option.some.injEq]
    have : goodOwnF pre.getLast? [] = true := by cases pre.getLast? <;> rfl
    rw [this, Bool.true_and]
    congr 1
    simp only [eq_iff_iff]
    omega
  | cons x suf ih =>
    intro pre k hk hb
    simp only [List.length_cons] at hk hb
    obtain ⟨k, rfl⟩ : ∃ m, k = m + 1 := ⟨k - 1, by omega⟩
    have h := ih (pre ++ [x]) k (by omega) (by simp <;> omega)
    rw [← app_one, len_one, List.getLast?_concat] at h
    simp only [spec_GoodOwners.l0]
    rw [if_pos (by simp <;> omega), if_pos (by omega), if_pos (by simp <;> omega), rdOwner_mid, specOwner, wrap_id (x := (pre.length : Int) + 1) (by omega) (by omega)]
    simp only [Option.bind_some]
    rcases nil_or_snoc pre with rfl | ⟨pre', y, rfl⟩
    · cases hx : isOwn x with
      | true =>
        rw [if_pos rfl, if_neg (by simp), h]
        simp [goodOwnF, hx]
      | false =>
        rw [if_neg (by decide)]
        simp [goodOwnF, hx]
    · have hy : rd_T26 ((pre' ++ [y]) ++ x :: suf) (wrap64 (((pre' ++ [y]).length : Int) - 1)) = y := by
        rw [wrap_id (by simp <;> omega) (by simp at hb ⊢ <;> omega)]
        rw [show ((pre' ++ [y]) ++ x :: suf) = pre' ++ y :: (x :: suf) by simp, show (((pre' ++ [y]).length : Int) - 1) = (pre'.length : Int) by simp]
        exact rdOwner_mid _ _ _
      cases hx : isOwn x with
      | true =>
        rw [if_pos rfl, if_pos (by simp <;> omega), if_pos (by rw [wrap_id (by simp <;> omega) (by simp at hb ⊢ <;> omega)]; simp), if_pos (by rw [wrap_id (by simp <;> omega) (by simp at hb ⊢ <;> omega)]; simp; omega), hy]
        by_cases hlt : y.f0 < x.f0
        · rw [if_neg (by omega), h]
          simp [goodOwnF, hx, hlt]
        · rw [if_pos (by omega)]
          simp [goodOwnF, hx, hlt]
      | false =>
        rw [if_neg (by decide)]
        simp [goodOwnF, hx]
theorem specGoodOwners_ev (l : List S26) (hl : l.length ≤ 1048576) : Ev (fun k => spec_GoodOwners.f k l) (goodOwn l) := by
  refine ⟨l.length + 1, fun k hk => ?_⟩
  show spec_GoodOwners.f k l = _
  unfold spec_GoodOwners.f
  exact specGoodOwners_l l [] k (by omega) (by simp <;> omega)
theorem goodOwners_same : ∀ k a b c d, impl_GoodOwners.l0 k a b c d = spec_GoodOwners.l0 k a b c d
  | 0, _, _, _, _ => rfl
  | k + 1, a, b, c, d => by
    have e : impl_isOwner.f = spec_l11Owner.f := rfl
    have e2 : impl_in.f = spec_l1In.f := rfl
    simp only [impl_GoodOwners.l0, spec_GoodOwners.l0, goodOwners_same k, e, e2]
theorem implGoodOwners_ev (l : List S26) (hl : l.length ≤ 1048576) : Ev (fun k => impl_GoodOwners.f k l) (goodOwn l) := by
  refine Ev.congr (fun k => ?_) (specGoodOwners_ev l hl)
  exact goodOwners_same k _ _ _ _
theorem goodOwn_len {l : List S26} (h : goodOwn l = true) : 1 ≤ l.length ∧ l.length ≤ 10 := by
  unfold goodOwn at h
  simp only [Bool.and_eq_true, decide_eq_true_eq] at h
  exact h.2
theorem goodOwnF_all : ∀ (l : List S26) (o : Option S26), goodOwnF o l = true → ∀ x ∈ l, isOwn x = true
  | [], _, _, x, hx => by simp at hx
  | y :: r, o, h, x, hx => by
    have h2 : isOwn y = true ∧ goodOwnF (some y) r = true := by
      cases o with
      | none => simpa [goodOwnF] using h
      | some z =>
        simp only [goodOwnF, Bool.and_eq_true] at h
        exact ⟨h.1, h.2.2⟩
    rcases List.mem_cons.1 hx with rfl | hx
    · exact h2.1
    · exact goodOwnF_all r _ h2.2 x hx
theorem goodOwn_all {l : List S26} (h : goodOwn l = true) : ∀ x ∈ l, isOwn x = true := by
  unfold goodOwn at h
  simp only [Bool.and_eq_true] at h
  exact goodOwnF_all l none h.1
theorem isOwn_iff (x : S26) : isOwn x = true ↔ (1 ≤ x.f0 ∧ x.f0 ≤ 1000 ∧ 1 ≤ x.f1 ∧ x.f1 ≤ 50 ∧ 0 ≤ x.f2 ∧ x.f2 ≤ 255) := by unfold isOwn; simp only [decide_eq_true_eq]
end Go.Proofs.Ytljdenmmlkjapaa.P

namespace Go.Proofs.Ytljdenmmlkjapaa.P
open Go.RowKit Go.Proofs.YtljdenmmlkjapaaW.PrintWords Go.Proofs.YtljdenmmlkjapaaW.PrintLast
set_option linter.unusedVariables false
set_option linter.unusedSimpArgs false
def fstSame (nm : Int) : List S26 → Int → Option Int
  | [], _ => none
  | x :: r, j => if x.f1 = nm then some j else fstSame nm r (j + 1)
def clashM : List S26 → Int → Option (Int × Int)
  | [], _ => none
  | x :: r, i => match fstSame x.f1 r (i + 1) with
    | some j => some (i, j)
    | none => clashM r (i + 1)
def clash2 : Option (Int × Int) → Int × Int
  | none => (-1, -1)
  | some p => p
def clash3 : Option (Int × Int) → Int × Int × Bool
  | none => (0, 0, false)
  | some p => (p.1, p.2, true)
theorem specClash_l1 (i a nm c : Int) (r : Int × Int) (suf : List S26) : ∀ (pre : List S26), (pre.length : Int) + suf.length ≤ 1099511627776 →
    (match fstSame nm suf (pre.length : Int) with | some j => r = (i, j) | none => Ev (fun k => spec_l11Clash.l0 k (pre ++ suf) (pre ++ suf) ((pre ++ suf).length : Int) (wrap64 (i + 1))) r) →
    Ev (fun k => spec_l11Clash.l1 k (pre ++ suf) i (pre.length : Int) (pre ++ suf) ((pre ++ suf).length : Int) i a nm c) r := by
  induction suf with
  | nil =>
    intro pre hb h
    refine Ev.succ ?_
    simp only [spec_l11Clash.l1]
    simp only [if_neg (show ¬ (pre.length : Int) < ((pre ++ ([] : List S26)).length : Int) by simp)]
    exact h
  | cons x suf ih =>
    intro pre hb h
    simp only [List.length_cons] at hb
    refine Ev.succ ?_
    simp only [spec_l11Clash.l1]
    simp only [if_pos (show (pre.length : Int) < ((pre ++ x :: suf).length : Int) by simp <;> omega), if_pos (show (0 : Int) ≤ (pre.length : Int) by omega), rdOwner_mid, wrap_id (x := (pre.length : Int) + 1) (by omega) (by omega)]
    by_cases hx : x.f1 = nm
    · simp only [if_pos hx]
      simp only [fstSame, if_pos hx] at h
      exact Ev.some_ h.symm
    · simp only [if_neg hx]
      simp only [fstSame, if_neg hx] at h
      have := ih (pre ++ [x]) (by simp <;> omega) (by rw [← app_one, len_one]; exact h)
      rw [← app_one, len_one] at this
      exact this
theorem specClash_l0 (suf : List S26) : ∀ (pre : List S26), (pre.length : Int) + suf.length ≤ 1099511627776 →
    Ev (fun k => spec_l11Clash.l0 k (pre ++ suf) (pre ++ suf) ((pre ++ suf).length : Int) (pre.length : Int)) (clash2 (clashM suf (pre.length : Int))) := by
  induction suf with
  | nil =>
    intro pre hb
    refine Ev.succ ?_
    simp only [spec_l11Clash.l0]
    simp only [if_neg (show ¬ (pre.length : Int) < ((pre ++ ([] : List S26)).length : Int) by simp)]
    exact Ev.now _
  | cons x suf ih =>
    intro pre hb
    simp only [List.length_cons] at hb
    refine Ev.succ ?_
    simp only [spec_l11Clash.l0]
    have c1 : (pre.length : Int) < ((pre ++ x :: suf).length : Int) := by simp <;> omega
    simp only [if_pos c1, if_pos (show (0 : Int) ≤ (pre.length : Int) by omega), rdOwner_mid, wrap_id (x := (pre.length : Int) + 1) (by omega) (by omega)]
    have h := ih (pre ++ [x]) (by simp <;> omega)
    rw [← app_one, len_one] at h
    have h2 := specClash_l1 (pre.length : Int) x.f0 x.f1 x.f2 (clash2 (clashM (x :: suf) (pre.length : Int))) suf (pre ++ [x]) (by simp <;> omega)
    rw [← app_one, len_one] at h2
    refine h2 ?_
    cases hf : fstSame x.f1 suf ((pre.length : Int) + 1) with
    | some j => simp [clashM, hf, clash2]
    | none =>
      simp only [wrap_id (x := (pre.length : Int) + 1) (by omega) (by omega)]
      simpa [clashM, hf] using h
theorem specClash_ev (l : List S26) (hl : l.length ≤ 1048576) : Ev (fun k => spec_l11Clash.f k l) (clash2 (clashM l 0)) := by
  unfold spec_l11Clash.f
  exact specClash_l0 l [] (by simp <;> omega)
theorem implClash_l1 (i a nm c : Int) (r : Int × Int × Bool) (suf : List S26) : ∀ (pre : List S26), (pre.length : Int) + suf.length ≤ 1099511627776 →
    (match fstSame nm suf (pre.length : Int) with | some j => r = (i, j, true) | none => Ev (fun k => impl_clash.l0 k (pre ++ suf) (pre ++ suf) ((pre ++ suf).length : Int) (wrap64 (i + 1))) r) →
    Ev (fun k => impl_clash.l1 k (pre ++ suf) i (pre.length : Int) (pre ++ suf) ((pre ++ suf).length : Int) i a nm c) r := by
  induction suf with
  | nil =>
    intro pre hb h
    refine Ev.succ ?_
    simp only [impl_clash.l1]
    simp only [if_neg (show ¬ (pre.length : Int) < ((pre ++ ([] : List S26)).length : Int) by simp)]
    exact h
  | cons x suf ih =>
    intro pre hb h
    simp only [List.length_cons] at hb
    refine Ev.succ ?_
    simp only [impl_clash.l1]
    simp only [if_pos (show (pre.length : Int) < ((pre ++ x :: suf).length : Int) by simp <;> omega), if_pos (show (0 : Int) ≤ (pre.length : Int) by omega), rdOwner_mid, wrap_id (x := (pre.length : Int) + 1) (by omega) (by omega)]
    by_cases hx : x.f1 = nm
    · simp only [if_pos hx.symm]
      simp only [fstSame, if_pos hx] at h
      exact Ev.some_ h.symm
    · simp only [if_neg (fun e => hx (Eq.symm e) : ¬ nm = x.f1)]
      simp only [fstSame, if_neg hx] at h
      have := ih (pre ++ [x]) (by simp <;> omega) (by rw [← app_one, len_one]; exact h)
      rw [← app_one, len_one] at this
      exact this
theorem implClash_l0 (suf : List S26) : ∀ (pre : List S26), (pre.length : Int) + suf.length ≤ 1099511627776 →
    Ev (fun k => impl_clash.l0 k (pre ++ suf) (pre ++ suf) ((pre ++ suf).length : Int) (pre.length : Int)) (clash3 (clashM suf (pre.length : Int))) := by
  induction suf with
  | nil =>
    intro pre hb
    refine Ev.succ ?_
    simp only [impl_clash.l0]
    simp only [if_neg (show ¬ (pre.length : Int) < ((pre ++ ([] : List S26)).length : Int) by simp)]
    exact Ev.now _
  | cons x suf ih =>
    intro pre hb
    simp only [List.length_cons] at hb
    refine Ev.succ ?_
    simp only [impl_clash.l0]
    have c1 : (pre.length : Int) < ((pre ++ x :: suf).length : Int) := by simp <;> omega
    simp only [if_pos c1, if_pos (show (0 : Int) ≤ (pre.length : Int) by omega), rdOwner_mid, wrap_id (x := (pre.length : Int) + 1) (by omega) (by omega)]
    have h := ih (pre ++ [x]) (by simp <;> omega)
    rw [← app_one, len_one] at h
    have h2 := implClash_l1 (pre.length : Int) x.f0 x.f1 x.f2 (clash3 (clashM (x :: suf) (pre.length : Int))) suf (pre ++ [x]) (by simp <;> omega)
    rw [← app_one, len_one] at h2
    refine h2 ?_
    cases hf : fstSame x.f1 suf ((pre.length : Int) + 1) with
    | some j => simp [clashM, hf, clash3]
    | none =>
      simp only [wrap_id (x := (pre.length : Int) + 1) (by omega) (by omega)]
      simpa [clashM, hf] using h
theorem implClash_ev (l : List S26) (hl : l.length ≤ 1048576) : Ev (fun k => impl_clash.f k l) (clash3 (clashM l 0)) := by
  unfold impl_clash.f
  exact implClash_l0 l [] (by simp <;> omega)
/-- Where the two lie, and what is said of them. -/
theorem fstSame_some (nm : Int) : ∀ (l : List S26) (b j : Int), fstSame nm l b = some j → ∃ n : Nat, j = b + n ∧ n < l.length ∧ (l.getD n z26).f1 = nm
  | [], _, _, h => by simp [fstSame] at h
  | x :: r, b, j, h => by
    by_cases hx : x.f1 = nm
    · simp only [fstSame, if_pos hx, Option.some.injEq] at h
      exact ⟨0, by omega, by simp, by simpa using hx⟩
    · simp only [fstSame, if_neg hx] at h
      obtain ⟨n, h1, h2, h3⟩ := fstSame_some nm r (b + 1) j h
      exact ⟨n + 1, by omega, by simpa using h2, by simpa using h3⟩
theorem clashM_some : ∀ (l : List S26) (b i j : Int), clashM l b = some (i, j) → ∃ n m : Nat, i = b + n ∧ j = b + m ∧ n < m ∧ m < l.length ∧ (l.getD n z26).f1 = (l.getD m z26).f1
  | [], _, _, _, h => by simp [clashM] at h
  | x :: r, b, i, j, h => by
    cases hf : fstSame x.f1 r (b + 1) with
    | some q =>
      simp only [clashM, hf, Option.some.injEq, Prod.mk.injEq] at h
      obtain ⟨n, h1, h2, h3⟩ := fstSame_some _ _ _ _ hf
      exact ⟨0, n + 1, by omega, by omega, by omega, by simpa using h2, by simpa using h3.symm⟩
    | none =>
      simp only [clashM, hf] at h
      obtain ⟨n, m, h1, h2, h3, h4, h5⟩ := clashM_some r (b + 1) i j h
      exact ⟨n + 1, m + 1, by omega, by omega, by omega, by simpa using h4, by simpa using h5⟩
end Go.Proofs.Ytljdenmmlkjapaa.P

namespace Go.Proofs.Ytljdenmmlkjapaa.P
open Go.RowKit Go.Proofs.YtljdenmmlkjapaaW.PrintWords Go.Proofs.YtljdenmmlkjapaaW.PrintLast
set_option linter.unusedVariables false
set_option linter.unusedSimpArgs false
def betterOf (a b : S26) : Bool := decide (a.f2 > b.f2) || (decide (a.f2 = b.f2) && decide (a.f0 > b.f0))
theorem specBetter (a b : S26) : spec_l11Better.f a.f0 a.f1 a.f2 b.f0 b.f1 b.f2 = some (betterOf a b) := by
  unfold spec_l11Better.f betterOf
  by_cases h : a.f2 > b.f2
  · rw [if_pos h]; simp [h]
  · rw [if_neg h]
    by_cases h2 : a.f2 = b.f2
    · rw [if_pos h2]; simp [h2]
    · rw [if_neg h2]; simp [h, h2]
theorem implBetter (a b : S26) : impl_hasBetter.f a.f0 a.f1 a.f2 b.f0 b.f1 b.f2 = some (betterOf a b) := specBetter a b
end Go.Proofs.Ytljdenmmlkjapaa.P

namespace Go.Proofs.Ytljdenmmlkjapaa.P
open Go.RowKit Go.Proofs.YtljdenmmlkjapaaW.PrintWords Go.Proofs.YtljdenmmlkjapaaW.PrintLast
set_option linter.unusedVariables false
set_option linter.unusedSimpArgs false
theorem erase_len_le {α : Type} [DecidableEq α] {x : α} : ∀ {M : List α}, x ∈ M → (M.erase x).length + 1 = M.length := by
  intro M h
  have := List.length_erase_of_mem h
  have h2 : 0 < M.length := List.length_pos_of_mem h
  omega
theorem nodup_le {α : Type} [DecidableEq α] : ∀ (L M : List α), L.Nodup → (∀ x ∈ L, x ∈ M) → L.length ≤ M.length
  | [], _, _, _ => Nat.zero_le _
  | x :: L, M, hn, hs => by
    have hx : x ∈ M := hs x (by simp)
    rw [List.nodup_cons] at hn
    have h := nodup_le L (M.erase x) hn.2 (fun y hy => by
      have : y ≠ x := fun e => hn.1 (e ▸ hy)
      exact (List.mem_erase_of_ne this).2 (hs y (by simp [hy])))
    have := erase_len_le hx
    simp only [List.length_cons]
    omega
end Go.Proofs.Ytljdenmmlkjapaa.P

namespace Go.Proofs.Ytljdenmmlkjapaa.P
open Go.RowKit Go.Proofs.YtljdenmmlkjapaaW.PrintWords Go.Proofs.YtljdenmmlkjapaaW.PrintLast
set_option linter.unusedVariables false
set_option linter.unusedSimpArgs false
def nx (a : Int) : Int := a % 50 + 1
def nxi : Nat → Int → Int
  | 0, a => a
  | n + 1, a => nxi n (nx a)
def hasName (l : List S26) (m : Int) : Bool := l.any (fun x => x.f1 == m)
def nfM : Nat → List S26 → Int → Int
  | 0, _, a => a
  | n + 1, l, a => if hasName l (nx a) = true then nfM n l (nx a) else nx a
def nextFreeM (l : List S26) (a : Int) : Int := nfM 50 l a
theorem nx_tmod {a : Int} (h0 : 0 ≤ a) (h1 : a ≤ 4294967296) : wrap64 (Int.tmod a 50 + 1) = nx a := by
  rw [Int.tmod_eq_emod_of_nonneg h0, wrap_id (by omega) (by omega)]
  rfl
theorem nx_range {a : Int} (h0 : 0 ≤ a) : 1 ≤ nx a ∧ nx a ≤ 50 := by unfold nx; omega
theorem nxi_range : ∀ (n : Nat) (a : Int), 1 ≤ a → a ≤ 50 → 1 ≤ nxi n a ∧ nxi n a ≤ 50
  | 0, a, h0, h1 => ⟨h0, h1⟩
  | n + 1, a, h0, h1 => nxi_range n (nx a) (nx_range (by omega)).1 (nx_range (by omega)).2
theorem nxi_is : ∀ (n : Nat) (a : Int), 1 ≤ a → a ≤ 50 → nxi n a = (a - 1 + n) % 50 + 1
  | 0, a, h0, h1 => by simp only [nxi]; omega
  | n + 1, a, h0, h1 => by
    simp only [nxi]
    rw [nxi_is n (nx a) (nx_range (by omega)).1 (nx_range (by omega)).2]
    unfold nx
    omega
def names (a : Int) (n : Nat) : List Int := (List.range n).map fun j => nxi (j + 1) a
theorem names_nodup {a : Int} (h0 : 1 ≤ a) (h1 : a ≤ 50) {n : Nat} (hn : n ≤ 50) : (names a n).Nodup := by
  unfold names
  rw [List.Nodup, List.pairwise_map]
  refine List.Pairwise.imp_of_mem ?_ List.nodup_range
  intro i j hi hj hne he
  rw [List.mem_range] at hi hj
  rw [nxi_is _ _ h0 h1, nxi_is _ _ h0 h1] at he
  omega
/-- Of eleven names that stand one behind the other one is free. -/
theorem some_free (l : List S26) (hl : l.length ≤ 10) {a : Int} (h0 : 1 ≤ a) (h1 : a ≤ 50) : ∃ n, n < 11 ∧ hasName l (nxi (n + 1) a) = false := by
  refine Classical.byContradiction fun hc => ?_
  have hall : ∀ n, n < 11 → hasName l (nxi (n + 1) a) = true := fun n hn => by
    cases h : hasName l (nxi (n + 1) a) with
    | true => rfl
    | false => exact absurd ⟨n, hn, h⟩ hc
  have h := nodup_le (names a 11) (l.map (fun x => x.f1)) (names_nodup h0 h1 (by omega)) (fun m hm => by
    unfold names at hm
    obtain ⟨j, hj, rfl⟩ := List.mem_map.1 hm
    rw [List.mem_range] at hj
    have := hall j hj
    unfold hasName at this
    obtain ⟨x, hx, he⟩ := List.any_eq_true.1 this
    exact List.mem_map.2 ⟨x, hx, by simpa using he⟩)
  unfold names at h
  simp only [List.length_map, List.length_range] at h
  omega
theorem nfM_ok (l : List S26) : ∀ (n : Nat) (a : Int), 1 ≤ a → a ≤ 50 → (∃ j, j < n ∧ hasName l (nxi (j + 1) a) = false) → hasName l (nfM n l a) = false ∧ 1 ≤ nfM n l a ∧ nfM n l a ≤ 50
  | 0, a, _, _, ⟨j, hj, _⟩ => absurd hj (Nat.not_lt_zero _)
  | n + 1, a, h0, h1, ⟨j, hj, hf⟩ => by
    have hr := nx_range (a := a) (by omega)
    cases hh : hasName l (nx a) with
    | false =>
      simp only [nfM, hh, Bool.false_eq_true, if_false]
      exact ⟨trivial, hr.1, hr.2⟩
    | true =>
      simp only [nfM, hh, if_true]
      cases j with
      | zero =>
        have hf : hasName l (nx a) = false := hf
        rw [hh] at hf; cases hf
      | succ j => exact nfM_ok l n (nx a) hr.1 hr.2 ⟨j, by omega, hf⟩
theorem specFree_l1 (m : Int) (r : Int) (suf : List S26) : ∀ (pre : List S26) (b : Bool), (pre.length : Int) + suf.length ≤ 1099511627776 →
    (if (b || suf.any (fun x => x.f1 == m)) = true then Ev (fun k => spec_l11Free.l0 k (pre ++ suf) m) r else r = m) →
    Ev (fun k => spec_l11Free.l1 k (pre ++ suf) m b (pre ++ suf) ((pre ++ suf).length : Int) (pre.length : Int)) r := by
  induction suf with
  | nil =>
    intro pre b hb h
    refine Ev.succ ?_
    simp only [spec_l11Free.l1]
    simp only [if_neg (show ¬ (pre.length : Int) < ((pre ++ ([] : List S26)).length : Int) by simp)]
    cases b with
    | true =>
      simp only [if_true]
      simpa using h
    | false =>
      simp only [Bool.false_eq_true, if_false]
      have h : r = m := by simpa using h
      exact Ev.some_ h.symm
  | cons x suf ih =>
    intro pre b hb h
    simp only [List.length_cons] at hb
    refine Ev.succ ?_
    simp only [spec_l11Free.l1]
    have c1 : (pre.length : Int) < ((pre ++ x :: suf).length : Int) := by simp <;> omega
    have c0 : (0 : Int) ≤ (pre.length : Int) := by omega
    simp only [if_pos c1, if_pos c0, rdOwner_mid, wrap_id (x := (pre.length : Int) + 1) (by omega) (by omega)]
    have h2 := ih (pre ++ [x])
    rw [← app_one, len_one] at h2
    cases b with
    | true =>
      simp only [if_true]
      exact h2 true (by omega) (by simpa using h)
    | false =>
      simp only [Bool.false_eq_true, if_false]
      refine h2 (x.f1 == m) (by omega) ?_
      simpa only [List.any_cons, Bool.false_or] using h
theorem specFree_l0 (l : List S26) (hl : l.length ≤ 1048576) : ∀ (n : Nat) (a : Int), 1 ≤ a → a ≤ 50 → (∃ j, j < n ∧ hasName l (nxi (j + 1) a) = false) → Ev (fun k => spec_l11Free.l0 k l a) (nfM n l a)
  | 0, a, _, _, ⟨j, hj, _⟩ => absurd hj (Nat.not_lt_zero _)
  | n + 1, a, h0, h1, ⟨j, hj, hf⟩ => by
    have hr := nx_range (a := a) (by omega)
    refine Ev.succ ?_
    simp only [spec_l11Free.l0]
    rw [nx_tmod (by omega) (by omega)]
    refine specFree_l1 (nx a) _ l [] false (by simp <;> omega) ?_
    cases hh : hasName l (nx a) with
    | false =>
      have hh2 : l.any (fun x => x.f1 == nx a) = false := hh
      simp only [hh2, Bool.or_false, Bool.false_eq_true, if_false]
      simp only [nfM, hh, Bool.false_eq_true, if_false]
    | true =>
      have hh2 : l.any (fun x => x.f1 == nx a) = true := hh
      simp only [hh2, Bool.false_or, if_true, nfM, hh, List.nil_append]
      cases j with
      | zero =>
        have hf : hasName l (nx a) = false := hf
        rw [hh] at hf; cases hf
      | succ j => exact specFree_l0 l hl n (nx a) hr.1 hr.2 ⟨j, by omega, hf⟩
theorem implFree_l0 (l : List S26) : ∀ (n : Nat) (a : Int), 1 ≤ a → a ≤ 50 → (∃ j, j < n ∧ hasName l (nxi (j + 1) a) = false) → Ev (fun k => impl_nextFree.l0 k l a) (nfM n l a)
  | 0, a, _, _, ⟨j, hj, _⟩ => absurd hj (Nat.not_lt_zero _)
  | n + 1, a, h0, h1, ⟨j, hj, hf⟩ => by
    have hr := nx_range (a := a) (by omega)
    refine Ev.succ ?_
    simp only [impl_nextFree.l0]
    rw [nx_tmod (by omega) (by omega)]
    cases hh : hasName l (nx a) with
    | false =>
      have hh2 : l.any (fun x => x.f1 == nx a) = false := hh
      simp only [hh2, Bool.false_eq_true, if_false, nfM, hh]
      exact Ev.now _
    | true =>
      have hh2 : l.any (fun x => x.f1 == nx a) = true := hh
      simp only [hh2, if_true, nfM, hh]
      cases j with
      | zero =>
        have hf : hasName l (nx a) = false := hf
        rw [hh] at hf; cases hf
      | succ j => exact implFree_l0 l n (nx a) hr.1 hr.2 ⟨j, by omega, hf⟩
theorem free_within (l : List S26) (hl : l.length ≤ 10) {a : Int} (h0 : 1 ≤ a) (h1 : a ≤ 50) : ∃ j, j < 50 ∧ hasName l (nxi (j + 1) a) = false := by
  obtain ⟨n, hn, h⟩ := some_free l hl h0 h1
  exact ⟨n, by omega, h⟩
theorem specFree_ev (l : List S26) (hl : l.length ≤ 10) (a : Int) (h0 : 1 ≤ a) (h1 : a ≤ 50) : Ev (fun k => spec_l11Free.f k l a) (nextFreeM l a) := by
  unfold spec_l11Free.f
  exact specFree_l0 l (by omega) 50 a h0 h1 (free_within l hl h0 h1)
theorem implFree_ev (l : List S26) (hl : l.length ≤ 10) (a : Int) (h0 : 1 ≤ a) (h1 : a ≤ 50) : Ev (fun k => impl_nextFree.f k l a) (nextFreeM l a) := by
  unfold impl_nextFree.f
  exact implFree_l0 l 50 a h0 h1 (free_within l hl h0 h1)
theorem nextFreeM_ok (l : List S26) (hl : l.length ≤ 10) {a : Int} (h0 : 1 ≤ a) (h1 : a ≤ 50) : hasName l (nextFreeM l a) = false ∧ 1 ≤ nextFreeM l a ∧ nextFreeM l a ≤ 50 :=
  nfM_ok l 50 a h0 h1 (free_within l hl h0 h1)
end Go.Proofs.Ytljdenmmlkjapaa.P

namespace Go.Proofs.Ytljdenmmlkjapaa.P
open Go.RowKit Go.Proofs.YtljdenmmlkjapaaW.PrintWords Go.Proofs.YtljdenmmlkjapaaW.PrintLast
set_option linter.unusedVariables false
set_option linter.unusedSimpArgs false
def loserOf (l : List S26) (p : Int × Int) : Int := if betterOf (rd_T26 l p.1) (rd_T26 l p.2) = true then p.2 else p.1
def renamed (l : List S26) (w : Int) : List S26 := l.set w.toNat ⟨(rd_T26 l w).f0, nextFreeM l (rd_T26 l w).f1, (rd_T26 l w).f2⟩
def giveM (l : List S26) : Option (List S26 × Int) :=
  match clashM l 0 with
  | none => none
  | some p => some (renamed l (loserOf l p), (rd_T26 l (loserOf l p)).f0)
theorem rd_mem (l : List S26) (w : Int) (h0 : 0 ≤ w) (h1 : w < (l.length : Int)) : rd_T26 l w ∈ l := by
  unfold rd_T26
  rw [List.getD_eq_getElem?_getD, List.getElem?_eq_getElem (by omega)]
  exact List.getElem_mem _
theorem rd_set (l : List S26) (w : Int) (x : S26) (h0 : 0 ≤ w) (h1 : w < (l.length : Int)) : rd_T26 (l.set w.toNat x) w = x := by
  unfold rd_T26
  rw [List.getD_eq_getElem?_getD, List.getElem?_set_self (by omega)]
  rfl
theorem specGive_ev (l : List S26) (hg : goodOwn l = true) : Ev (fun k => spec_l11Give.f k l) (match giveM l with | none => (0, l) | some p => (p.2, p.1)) := by
  have hl := (goodOwn_len hg).2
  unfold spec_l11Give.f giveM
  refine Ev.bind (specClash_ev l (by omega)) ?_
  cases hc : clashM l 0 with
  | none =>
    rw [show clash2 none = (-1, -1) from rfl]
    simp only [if_pos (show (-1 : Int) < 0 by decide)]
    exact Ev.now _
  | some p =>
    obtain ⟨i, j⟩ := p
    obtain ⟨n, m, h1, h2, h3, h4, _⟩ := clashM_some l 0 i j hc
    have hi : isOwn (rd_T26 l i) = true := goodOwn_all hg _ (rd_mem l i (by omega) (by omega))
    have hj : isOwn (rd_T26 l j) = true := goodOwn_all hg _ (rd_mem l j (by omega) (by omega))
    rw [isOwn_iff] at hi hj
    rw [show clash2 (some (i, j)) = (i, j) from rfl]
    simp only [if_neg (show ¬ i < 0 by omega), if_pos (show 0 ≤ i by omega), if_pos (show i < (l.length : Int) by omega), if_pos (show 0 ≤ j by omega), if_pos (show j < (l.length : Int) by omega), specBetter, Option.bind_some]
    cases hb : betterOf (rd_T26 l i) (rd_T26 l j) with
    | true =>
      simp only [if_true]
      refine Ev.bind (specFree_ev l hl _ hj.2.2.1 hj.2.2.2.1) ?_
      refine Ev.some_ ?_
      rw [rd_set l j _ (by omega) (by omega)]
      simp only [loserOf, hb, if_true, renamed]
    | false =>
      simp only [Bool.false_eq_true, if_false]
      refine Ev.bind (specFree_ev l hl _ hi.2.2.1 hi.2.2.2.1) ?_
      refine Ev.some_ ?_
      rw [rd_set l i _ (by omega) (by omega)]
      simp only [loserOf, hb, Bool.false_eq_true, if_false, renamed]
def giveWay (l : List S26) : List S26 × Int × Bool :=
  if goodOwn l = true then (match giveM l with | none => ([], 0, false) | some p => (p.1, p.2, true)) else ([], 0, false)
theorem giveM_id {l y : List S26} {id : Int} (hg : goodOwn l = true) (h : giveM l = some (y, id)) : 1 ≤ id := by
  unfold giveM at h
  cases hc : clashM l 0 with
  | none => rw [hc] at h; cases h
  | some p =>
    obtain ⟨i, j⟩ := p
    rw [hc] at h
    simp only [Option.some.injEq, Prod.mk.injEq] at h
    obtain ⟨n, m, h1, h2, h3, h4, _⟩ := clashM_some l 0 i j hc
    have hi : isOwn (rd_T26 l i) = true := goodOwn_all hg _ (rd_mem l i (by omega) (by omega))
    have hj : isOwn (rd_T26 l j) = true := goodOwn_all hg _ (rd_mem l j (by omega) (by omega))
    rw [isOwn_iff] at hi hj
    rw [← h.2]
    unfold loserOf
    split
    · exact hj.1
    · exact hi.1
theorem implGiveWay_ev (l : List S26) (hl : l.length ≤ 1048576) : Ev (fun k => impl_GiveWay.f k l) (giveWay l) := by
  unfold impl_GiveWay.f
  refine Ev.bind (implGoodOwners_ev l hl) ?_
  unfold giveWay
  cases hg : goodOwn l with
  | false =>
    simp only [Bool.false_eq_true, if_false]
    exact Ev.now _
  | true =>
    simp only [if_true]
    refine Ev.bind (implClash_ev l hl) ?_
    unfold giveM
    cases hc : clashM l 0 with
    | none =>
      rw [show clash3 none = (0, 0, false) from rfl]
      simp only [Bool.false_eq_true, if_false]
      exact Ev.now _
    | some p =>
      obtain ⟨i, j⟩ := p
      obtain ⟨n, m, h1, h2, h3, h4, _⟩ := clashM_some l 0 i j hc
      have hl10 := (goodOwn_len hg).2
      have hi : isOwn (rd_T26 l i) = true := goodOwn_all hg _ (rd_mem l i (by omega) (by omega))
      have hj : isOwn (rd_T26 l j) = true := goodOwn_all hg _ (rd_mem l j (by omega) (by omega))
      rw [isOwn_iff] at hi hj
      rw [show clash3 (some (i, j)) = (i, j, true) from rfl]
      have hcl : slices_Clone_Owner.f l = some l := by unfold slices_Clone_Owner.f; rw [if_pos (by omega)]
      simp only [if_true, if_pos (show 0 ≤ i by omega), if_pos (show i < (l.length : Int) by omega), if_pos (show 0 ≤ j by omega), if_pos (show j < (l.length : Int) by omega), implBetter, Option.bind_some, hcl]
      cases hb : betterOf (rd_T26 l i) (rd_T26 l j) with
      | true =>
        simp only [if_true]
        refine Ev.bind (implFree_ev l hl10 _ hj.2.2.1 hj.2.2.2.1) ?_
        refine Ev.some_ ?_
        simp only [loserOf, hb, if_true, renamed]
      | false =>
        simp only [Bool.false_eq_true, if_false]
        refine Ev.bind (implFree_ev l hl10 _ hi.2.2.1 hi.2.2.2.1) ?_
        refine Ev.some_ ?_
        simp only [loserOf, hb, Bool.false_eq_true, if_false, renamed]
theorem renamed_len (l : List S26) (w : Int) : (renamed l w).length = l.length := by unfold renamed; simp
end Go.Proofs.Ytljdenmmlkjapaa.P

namespace Go.Proofs.Ytljdenmmlkjapaa.P
open Go.RowKit Go.Proofs.YtljdenmmlkjapaaW.PrintWords Go.Proofs.YtljdenmmlkjapaaW.PrintLast
set_option linter.unusedVariables false
set_option linter.unusedSimpArgs false
/-- How many have a name that one behind them has. -/
def dups : List S26 → Nat
  | [] => 0
  | x :: r => (if hasName r x.f1 = true then 1 else 0) + dups r
theorem dups_le : ∀ (l : List S26), dups l ≤ l.length - 1
  | [] => Nat.le_refl _
  | [x] => by simp [dups, hasName]
  | x :: y :: r => by
    have := dups_le (y :: r)
    simp only [List.length_cons] at this ⊢
    simp only [dups] at this ⊢
    split <;> omega
theorem hasName_set (x : S26) (q : Int) : ∀ (l : List S26) (n : Nat), n < l.length → hasName (l.set n x) q = (x.f1 == q || hasName (l.eraseIdx n) q)
  | [], n, h => absurd h (Nat.not_lt_zero _)
  | y :: r, 0, _ => by simp [hasName]
  | y :: r, n + 1, h => by
    have := hasName_set x q r n (by simpa using h)
    unfold hasName at this ⊢
    simp only [List.set_cons_succ, List.any_cons, List.eraseIdx_cons_succ]
    rw [this]
    cases (y.f1 == q) <;> cases (x.f1 == q) <;> rfl
theorem hasName_at (q : Int) : ∀ (l : List S26) (n : Nat), n < l.length → hasName l q = ((l.getD n z26).f1 == q || hasName (l.eraseIdx n) q)
  | [], n, h => absurd h (Nat.not_lt_zero _)
  | y :: r, 0, _ => by simp [hasName]
  | y :: r, n + 1, h => by
    have := hasName_at q r n (by simpa using h)
    unfold hasName at this ⊢
    simp only [List.getD_cons_succ, List.any_cons, List.eraseIdx_cons_succ]
    rw [this]
    cases (y.f1 == q) <;> cases ((r.getD n z26).f1 == q) <;> rfl
theorem dups_set (x : S26) : ∀ (l : List S26) (n : Nat), n < l.length → hasName l x.f1 = false →
    dups (l.set n x) + (if hasName (l.eraseIdx n) (l.getD n z26).f1 = true then 1 else 0) = dups l
  | [], n, h, _ => absurd h (Nat.not_lt_zero _)
  | y :: r, 0, _, hf => by
    have hr : hasName r x.f1 = false := by
      unfold hasName at hf ⊢
      simp only [List.any_cons, Bool.or_eq_false_iff] at hf
      exact hf.2
    simp only [List.set_cons_zero, dups, hr, Bool.false_eq_true, if_false, List.eraseIdx_cons_zero, List.getD_cons_zero]
    omega
  | y :: r, n + 1, h, hf => by
    have hlt : n < r.length := by simpa using h
    have hy : (y.f1 == x.f1) = false ∧ hasName r x.f1 = false := by
      unfold hasName at hf ⊢
      simpa only [List.any_cons, Bool.or_eq_false_iff] using hf
    have ih := dups_set x r n hlt hy.2
    have hxy : (x.f1 == y.f1) = false := by
      have := hy.1
      simp only [beq_eq_false_iff_ne, ne_eq] at this ⊢
      exact fun e => this e.symm
    have e1 := hasName_set x y.f1 r n hlt
    have e2 := hasName_at y.f1 r n hlt
    rw [hxy, Bool.false_or] at e1
    simp only [List.set_cons_succ, dups, List.eraseIdx_cons_succ, List.getD_cons_succ]
    rw [e1, e2]
    have e3 : hasName (y :: r.eraseIdx n) (r.getD n z26).f1 = (y.f1 == (r.getD n z26).f1 || hasName (r.eraseIdx n) (r.getD n z26).f1) := by simp [hasName]
    rw [e3]
    by_cases he : y.f1 = (r.getD n z26).f1
    · have h1 : (y.f1 == (r.getD n z26).f1) = true := by simpa using he
      have h2 : ((r.getD n z26).f1 == y.f1) = true := by simpa using he.symm
      simp only [h1, h2, Bool.true_or, if_true]
      rw [he]
      omega
    · have h1 : (y.f1 == (r.getD n z26).f1) = false := by simpa using he
      have h2 : ((r.getD n z26).f1 == y.f1) = false := by simpa using fun e => he (Eq.symm e)
      simp only [h1, h2, Bool.false_or]
      omega
theorem hasName_erase (q : Int) : ∀ (l : List S26) (n m : Nat), n ≠ m → m < l.length → (l.getD m z26).f1 = q → hasName (l.eraseIdx n) q = true
  | [], n, m, _, h, _ => absurd h (Nat.not_lt_zero _)
  | y :: r, 0, 0, hne, _, _ => absurd rfl hne
  | y :: r, 0, m + 1, _, h, he => by
    unfold hasName
    rw [List.eraseIdx_cons_zero, List.any_eq_true]
    have hlt : m < r.length := by simpa using h
    refine ⟨r.getD m z26, ?_, by simpa using he⟩
    rw [List.getD_eq_getElem?_getD, List.getElem?_eq_getElem hlt]
    exact List.getElem_mem _
  | y :: r, n + 1, 0, _, _, he => by
    have he : y.f1 = q := by simpa using he
    simp [hasName, he]
  | y :: r, n + 1, m + 1, hne, h, he => by
    have := hasName_erase q r n m (by omega) (by simpa using h) (by simpa using he)
    unfold hasName at this ⊢
    simp only [List.eraseIdx_cons_succ, List.any_cons, this, Bool.or_true]
theorem goodOwnF_set (x : S26) (hx : isOwn x = true) : ∀ (l : List S26) (n : Nat) (o : Option S26), n < l.length → x.f0 = (l.getD n z26).f0 → goodOwnF o l = true → goodOwnF o (l.set n x) = true
  | [], n, _, h, _, _ => absurd h (Nat.not_lt_zero _)
  | y :: r, 0, o, _, he, hg => by
    have he : x.f0 = y.f0 := by simpa using he
    have key : ∀ (s : List S26), goodOwnF (some x) s = goodOwnF (some y) s := fun s => by
      cases s with
      | nil => rfl
      | cons a s => simp only [goodOwnF, he]
    cases o with
    | none =>
      simp only [goodOwnF, Bool.and_eq_true, List.set_cons_zero] at hg ⊢
      exact ⟨hx, by rw [key]; exact hg.2⟩
    | some a =>
      simp only [goodOwnF, Bool.and_eq_true, List.set_cons_zero] at hg ⊢
      exact ⟨hx, by rw [he]; exact hg.2.1, by rw [key]; exact hg.2.2⟩
  | y :: r, n + 1, o, h, he, hg => by
    have ih := goodOwnF_set x hx r n (some y) (by simpa using h) (by simpa using he)
    cases o with
    | none =>
      simp only [goodOwnF, Bool.and_eq_true, List.set_cons_succ] at hg ⊢
      exact ⟨hg.1, ih hg.2⟩
    | some a =>
      simp only [goodOwnF, Bool.and_eq_true, List.set_cons_succ] at hg ⊢
      exact ⟨hg.1, hg.2.1, ih hg.2.2⟩
/-- Who gives way: a place in the list, of a pair with one name, without the better right. -/
theorem giveM_some {l y : List S26} {id : Int} (hg : goodOwn l = true) (h : giveM l = some (y, id)) :
    ∃ (w o : Nat), w < l.length ∧ o < l.length ∧ w ≠ o ∧ (l.getD w z26).f1 = (l.getD o z26).f1 ∧ betterOf (l.getD w z26) (l.getD o z26) = false ∧
      id = (l.getD w z26).f0 ∧ y = l.set w ⟨(l.getD w z26).f0, nextFreeM l (l.getD w z26).f1, (l.getD w z26).f2⟩ ∧
      (∃ i j : Nat, clashM l 0 = some ((i : Int), (j : Int)) ∧ i < j ∧ j < l.length ∧ (w = i ∧ o = j ∨ w = j ∧ o = i)) := by
  unfold giveM at h
  cases hc : clashM l 0 with
  | none => rw [hc] at h; cases h
  | some p =>
    obtain ⟨i, j⟩ := p
    rw [hc] at h
    simp only [Option.some.injEq, Prod.mk.injEq] at h
    obtain ⟨n, m, h1, h2, h3, h4, h5⟩ := clashM_some l 0 i j hc
    have en : i = (n : Int) := by omega
    have em : j = (m : Int) := by omega
    subst en em
    have rn : rd_T26 l (n : Int) = l.getD n z26 := by unfold rd_T26; rw [Int.toNat_natCast]
    have rm : rd_T26 l (m : Int) = l.getD m z26 := by unfold rd_T26; rw [Int.toNat_natCast]
    unfold loserOf renamed at h
    cases hb : betterOf (l.getD n z26) (l.getD m z26) with
    | true =>
      simp only [rn, rm, hb, if_true, Int.toNat_natCast] at h
      refine ⟨m, n, h4, by omega, by omega, h5.symm, ?_, h.2.symm, h.1.symm, n, m, rfl, h3, h4, .inr ⟨rfl, rfl⟩⟩
      unfold betterOf at hb ⊢
      simp only [Bool.or_eq_true, Bool.and_eq_true, decide_eq_true_eq, Bool.or_eq_false_iff, Bool.and_eq_false_iff, decide_eq_false_iff_not] at hb ⊢
      omega
    | false =>
      simp only [rn, hb, rm, Bool.false_eq_true, if_false, Int.toNat_natCast] at h
      exact ⟨n, m, by omega, h4, by omega, h5, hb, h.2.symm, h.1.symm, n, m, rfl, h3, h4, .inl ⟨rfl, rfl⟩⟩
theorem giveM_good {l y : List S26} {id : Int} (hg : goodOwn l = true) (h : giveM l = some (y, id)) : goodOwn y = true ∧ dups y + 1 = dups l ∧ y.length = l.length := by
  obtain ⟨w, o, hw, ho, hne, hnm, hb, hid, rfl, _⟩ := giveM_some hg h
  have hl := (goodOwn_len hg).2
  have hmem : l.getD w z26 ∈ l := by
    rw [List.getD_eq_getElem?_getD, List.getElem?_eq_getElem hw]
    exact List.getElem_mem _
  have hown := (isOwn_iff _).1 (goodOwn_all hg _ hmem)
  have hfree := nextFreeM_ok l hl hown.2.2.1 hown.2.2.2.1
  refine ⟨?_, ?_, by simp⟩
  · unfold goodOwn at hg ⊢
    simp only [Bool.and_eq_true, decide_eq_true_eq, List.length_set] at hg ⊢
    refine ⟨goodOwnF_set _ ?_ l w none hw rfl hg.1, hg.2⟩
    rw [isOwn_iff]
    exact ⟨hown.1, hown.2.1, hfree.2.1, hfree.2.2, hown.2.2.2.2⟩
  · have h1 := dups_set ⟨(l.getD w z26).f0, nextFreeM l (l.getD w z26).f1, (l.getD w z26).f2⟩ l w hw hfree.1
    rw [if_pos (hasName_erase _ l w o hne ho hnm.symm)] at h1
    exact h1
def settleF : Nat → List S26 → Int → List S26 × Int × Bool
  | 0, l, n => (l, n, true)
  | f + 1, l, n => match giveM l with
    | none => (l, n, true)
    | some p => settleF f p.1 (n + 1)
def settleNm (l : List S26) : List S26 × Int × Bool := if goodOwn l = true then settleF 10 l 0 else ([], 0, false)
theorem specSettle_l : ∀ (f : Nat) (l : List S26) (n : Int), goodOwn l = true → dups l < f → 0 ≤ n → n + f ≤ 1099511627776 → Ev (fun k => spec_SettleNames.l0 k l n) (settleF f l n)
  | 0, l, n, _, hd, _, _ => absurd hd (Nat.not_lt_zero _)
  | f + 1, l, n, hg, hd, h0, h1 => by
    refine Ev.succ ?_
    simp only [spec_SettleNames.l0, settleF]
    refine Ev.bind (specGive_ev l hg) ?_
    cases hm : giveM l with
    | none =>
      simp only [if_neg (show ¬ (0 : Int) > 0 by omega)]
      exact Ev.now _
    | some p =>
      obtain ⟨y, id⟩ := p
      have hid := giveM_id hg hm
      obtain ⟨hgy, hdy, _⟩ := giveM_good hg hm
      simp only [if_pos (show id > 0 by omega), wrap_id (x := n + 1) (by omega) (by omega)]
      exact specSettle_l f y (n + 1) hgy (by omega) (by omega) (by omega)
theorem implSettle_l : ∀ (f : Nat) (l : List S26) (n : Int), goodOwn l = true → dups l < f → 0 ≤ n → n + f ≤ 1099511627776 → Ev (fun k => impl_SettleNames.l0 k l n) (settleF f l n)
  | 0, l, n, _, hd, _, _ => absurd hd (Nat.not_lt_zero _)
  | f + 1, l, n, hg, hd, h0, h1 => by
    have hl := (goodOwn_len hg).2
    refine Ev.succ ?_
    simp only [impl_SettleNames.l0, settleF]
    refine Ev.bind (implGiveWay_ev l (by omega)) ?_
    unfold giveWay
    simp only [hg, if_true]
    cases hm : giveM l with
    | none =>
      simp only [Bool.false_eq_true, if_false]
      exact Ev.now _
    | some p =>
      obtain ⟨y, id⟩ := p
      obtain ⟨hgy, hdy, _⟩ := giveM_good hg hm
      simp only [if_true, wrap_id (x := n + 1) (by omega) (by omega)]
      exact implSettle_l f y (n + 1) hgy (by omega) (by omega) (by omega)
theorem specSettleNames_ev (l : List S26) (hl : l.length ≤ 1048576) : Ev (fun k => spec_SettleNames.f k l) (settleNm l) := by
  unfold spec_SettleNames.f
  refine Ev.bind (specGoodOwners_ev l hl) ?_
  unfold settleNm
  cases hg : goodOwn l with
  | false =>
    simp only [Bool.false_eq_true, if_false]
    exact Ev.now _
  | true =>
    have := dups_le l
    have := (goodOwn_len hg).2
    simp only [if_true, Option.bind_some, List.nil_append, List.length_nil, Nat.zero_add]
    simp only [if_pos (show l.length < 5864062014805 by omega)]
    exact specSettle_l 10 l 0 hg (by omega) (by omega) (by omega)
theorem implSettleNames_ev (l : List S26) (hl : l.length ≤ 1048576) : Ev (fun k => impl_SettleNames.f k l) (settleNm l) := by
  unfold impl_SettleNames.f
  refine Ev.bind (implGoodOwners_ev l hl) ?_
  unfold settleNm
  cases hg : goodOwn l with
  | false =>
    simp only [Bool.false_eq_true, if_false]
    exact Ev.now _
  | true =>
    have := dups_le l
    have := (goodOwn_len hg).2
    have hcl : slices_Clone_Owner.f l = some l := by unfold slices_Clone_Owner.f; rw [if_pos (by omega)]
    simp only [if_true, hcl, Option.bind_some]
    exact implSettle_l 10 l 0 hg (by omega) (by omega) (by omega)
theorem settleF_len : ∀ (f : Nat) (l : List S26) (n : Int), (settleF f l n).1.length = l.length
  | 0, _, _ => rfl
  | f + 1, l, n => by
    simp only [settleF, giveM]
    cases clashM l 0 with
    | none => rfl
    | some p =>
      simp only
      rw [settleF_len f, renamed_len]
theorem settleNm_len (l : List S26) : (settleNm l).1.length ≤ l.length := by
  unfold settleNm
  split
  · rw [settleF_len]; exact Nat.le_refl _
  · simp
end Go.Proofs.Ytljdenmmlkjapaa.P

namespace Go.Proofs.Ytljdenmmlkjapaa.P
open Go.RowKit Go.Proofs.YtljdenmmlkjapaaW.PrintWords Go.Proofs.YtljdenmmlkjapaaW.PrintLast
set_option linter.unusedVariables false
set_option linter.unusedSimpArgs false
def marksOwner : Nat → Int → List S26
  | 0, _ => []
  | n + 1, q => ⟨q, q + 1, q + 2⟩ :: marksOwner n (q + 3)
theorem markOwnerS_l (suf : List S26) : ∀ (pre : List S26) (k : Nat) (q : Int), suf.length < k → (pre.length : Int) + suf.length ≤ 1099511627776 → 0 ≤ q → q + 3 * suf.length ≤ 4611686018427387904 →
    laws_markOwnerS.l0 k (pre ++ suf) q (pre.length : Int) = some (q + 3 * suf.length, pre ++ marksOwner suf.length q) := by
  induction suf with
  | nil =>
    intro pre k q hk hb h0 h1
    obtain ⟨k, rfl⟩ : ∃ m, k = m + 1 := ⟨k - 1, by omega⟩
    simp only [laws_markOwnerS.l0]
    rw [if_neg (by simp)]
    simp [marksOwner]
  | cons x suf ih =>
    intro pre k q hk hb h0 h1
    simp only [List.length_cons] at hk hb h1
    obtain ⟨k, rfl⟩ : ∃ m, k = m + 1 := ⟨k - 1, by omega⟩
    have h := ih (pre ++ [⟨q, q + 1, q + 2⟩]) k (q + 3) (by omega) (by simp <;> omega) (by omega) (by omega)
    simp only [laws_markOwnerS.l0]
    rw [if_pos (by simp <;> omega), if_pos (by omega)]
    simp only [Option.bind_some, set_mid, rdOwner_mid]
    rw [wrap_id (x := q + 1) (by omega) (by omega), wrap_id (x := q + 1 + 1) (by omega) (by omega), wrap_id (x := q + 1 + 1 + 1) (by omega) (by omega), wrap_id (x := (pre.length : Int) + 1) (by omega) (by omega)]
    rw [show q + 1 + 1 = q + 2 from by omega, show q + 2 + 1 = q + 3 from by omega]
    rw [show ((pre ++ [(⟨q, q + 1, q + 2⟩ : S26)]).length : Int) = (pre.length : Int) + 1 from by simp] at h
    rw [app_one, h]
    simp only [marksOwner, List.length_cons, List.append_assoc, List.cons_append, List.nil_append, Option.some.injEq, Prod.mk.injEq, and_true]
    omega
theorem markOwnerS_ev (l : List S26) (q : Int) (hl : l.length ≤ 1099511627776) (h0 : 0 ≤ q) (h1 : q ≤ 1099511627776) : Ev (fun k => laws_markOwnerS.f k l q) (q + 3 * l.length, marksOwner l.length q) := by
  refine ⟨l.length + 1, fun k hk => ?_⟩
  show laws_markOwnerS.f k l q = _
  unfold laws_markOwnerS.f
  simpa using markOwnerS_l l [] k q (by omega) (by simp <;> omega) h0 (by omega)
theorem heldOwnerS_l (n : Nat) : ∀ (pre : List S26) (k : Nat) (q : Int), n < k → (pre.length : Int) + n ≤ 1099511627776 → 0 ≤ q → q + 3 * n ≤ 4611686018427387904 →
    laws_heldOwnerS.l0 k (pre ++ marksOwner n q) q (pre.length : Int) = some (q + 3 * n) := by
  induction n with
  | zero =>
    intro pre k q hk hb h0 h1
    obtain ⟨k, rfl⟩ : ∃ m, k = m + 1 := ⟨k - 1, by omega⟩
    simp only [laws_heldOwnerS.l0]
    rw [show marksOwner 0 q = [] from rfl, if_neg (by simp)]
    simp
  | succ n ih =>
    intro pre k q hk hb h0 h1
    obtain ⟨k, rfl⟩ : ∃ m, k = m + 1 := ⟨k - 1, by omega⟩
    have h := ih (pre ++ [⟨q, q + 1, q + 2⟩]) k (q + 3) (by omega) (by simp <;> omega) (by omega) (by omega)
    simp only [laws_heldOwnerS.l0]
    rw [show marksOwner (n + 1) q = ⟨q, q + 1, q + 2⟩ :: marksOwner n (q + 3) from rfl]
    rw [if_pos (by simp <;> omega), if_pos (by omega)]
    simp only [rdOwner_mid]
    rw [wrap_id (x := q + 1) (by omega) (by omega), wrap_id (x := q + 1 + 1) (by omega) (by omega), wrap_id (x := q + 1 + 1 + 1) (by omega) (by omega), wrap_id (x := (pre.length : Int) + 1) (by omega) (by omega)]
    rw [show q + 1 + 1 = q + 2 from by omega, show q + 2 + 1 = q + 3 from by omega, if_pos rfl, if_pos rfl, if_pos trivial]
    rw [show ((pre ++ [(⟨q, q + 1, q + 2⟩ : S26)]).length : Int) = (pre.length : Int) + 1 from by simp] at h
    rw [app_one, h]
    simp only [Option.some.injEq]
    omega
theorem heldOwnerS_ev (n : Nat) (q : Int) (hl : n ≤ 1099511627776) (h0 : 0 ≤ q) (h1 : q ≤ 1099511627776) : Ev (fun k => laws_heldOwnerS.f k (marksOwner n q) q) (q + 3 * n) := by
  refine ⟨n + 1, fun k hk => ?_⟩
  show laws_heldOwnerS.f k (marksOwner n q) q = _
  unfold laws_heldOwnerS.f
  exact heldOwnerS_l n [] k q (by omega) (by simp <;> omega) h0 (by omega)
end Go.Proofs.Ytljdenmmlkjapaa.P

namespace Go.Proofs.Ytljdenmmlkjapaa.Pure
open Go.RowKit Go.Proofs.Ytljdenmmlkjapaa.P Go.Proofs.YtljdenmmlkjapaaW.PrintWords Go.Proofs.YtljdenmmlkjapaaW.PrintLast
set_option linter.unusedVariables false
set_option linter.unusedSimpArgs false
theorem FnExactSettleNames : laws_FnExactSettleNames.Pure := by
  intro l ⟨hm, _⟩
  refine Ev.rounds ?_
  unfold laws_FnExactSettleNames.f
  rw [szOwnerS_is l hm 1048576 (by omega) (by omega)]
  simp only [Option.bind_some]
  by_cases h : (1048576 : Int) - l.length < 0
  · simp only [if_pos h]
    exact Ev.now _
  · have hl : l.length ≤ 1048576 := by omega
    have hl2 : (l.map cvOwner).length ≤ 1048576 := by simpa using hl
    have hr := settleNm_len (l.map cvOwner)
    simp only [if_neg h]
    refine Ev.bind (toOwnerS_ev l hl) ?_
    refine Ev.bind (specSettleNames_ev _ hl2) ?_
    refine Ev.bind (toOwnerS_ev l hl) ?_
    refine Ev.bind (implSettleNames_ev _ hl2) ?_
    have hi := implSettleNames_ev _ hl2
    generalize settleNm (l.map cvOwner) = r at hr hi
    refine Ev.bind (eqOwnerS_ev _ _ (by omega)) ?_
    simp only [decide_true, if_true, bne_self_eq_false]
    refine Ev.succ ?_
    simp only [laws_FnExactSettleNames.j0, Bool.false_eq_true, if_false]
    refine Ev.bind (toOwnerS_ev l hl) ?_
    refine Ev.bind (eqOwnerS_ev _ _ (by omega)) ?_
    simp only [decide_true, if_true]
    refine Ev.bind (markOwnerS_ev _ 1 (by omega) (by omega) (by omega)) ?_
    simp only [if_neg (show ¬ (1 + 3 * ((l.map cvOwner).length : Int)) < 0 by omega)]
    refine Ev.bind (eqOwnerS_ev _ _ (by omega)) ?_
    simp only [decide_true, if_true, bne_self_eq_false]
    refine Ev.succ ?_
    simp only [laws_FnExactSettleNames.j1, Bool.false_eq_true, if_false]
    refine Ev.bind (markOwnerS_ev _ 1 (by omega) (by omega) (by omega)) ?_
    refine Ev.bind (heldOwnerS_ev _ 1 (by omega) (by omega) (by omega)) ?_
    simp only [if_neg (show ¬ (1 + 3 * (r.1.length : Int)) < 0 by omega), if_true]
    refine Ev.bind (toOwnerS_ev l hl) ?_
    refine Ev.bind hi ?_
    refine Ev.bind (eqOwnerS_ev _ _ (by omega)) ?_
    simp only [decide_true, if_true, bne_self_eq_false]
    refine Ev.succ ?_
    simp only [laws_FnExactSettleNames.j2, Bool.false_eq_true, if_false]
    refine Ev.bind (heldOwnerS_ev _ 1 (by omega) (by omega) (by omega)) ?_
    simp only [if_neg (show ¬ (1 + 3 * (r.1.length : Int)) < 0 by omega), if_true]
    exact Ev.now _
end Go.Proofs.Ytljdenmmlkjapaa.Pure
