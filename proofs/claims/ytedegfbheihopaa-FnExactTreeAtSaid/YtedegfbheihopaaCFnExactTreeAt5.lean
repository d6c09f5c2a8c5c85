/- Functions, walks and plain lemmas that the law FnExactTreeAt reaches, part 5. -/
import Derived.Test.YtedegfbheihopaaCFnExactTreeAt4
import Derived.WalkKit
import Derived.ProofKit
import Derived.OpenShut
import Derived.ChangeOld
import Derived.Below
import Derived.SizedLaws
import Derived.ChangeArms
import Derived.DataElems
import Derived.Deep.Draws
import Derived.Deep.AppendLies
import Derived.Maps.AppendAt
import Derived.OwnWalk
import Derived.Laws.BytesArg
import Derived.Laws.MakeOwn
import Derived.Laws.OwnMore
import Derived.Deep.OwnRows
import Derived.Tactics
import Derived.Lib.ConvBytes
import Derived.Laws.Slices
import Derived.KernelRfl
import Derived.RowKit3
import Derived.Deep.LoopGhost
import Derived.Deep.QuietTactic
import Derived.BigQuiet
import Derived.WideLaws
import Derived.Deep.DeepCutAuto
import Derived.Deep.CutBlock
import Derived.Deep.RegionHeld3
import Derived.Laws.Rows
import Derived.Lib.AppendStr
import Derived.ArgAppend
import Derived.Laws.IdiomCopy
import Derived.OrdersHeld
import Derived.Laws.BitsLemmas
import Derived.RowKit
import Derived.WalkSpells
import Derived.Lib.SliceRun
import Derived.Shelf.Abstract
import Derived.ShutString
namespace Go.Proofs.Ytedegfbheihopaa.P
open Go.RowKit Go.Proofs.YtedegfbheihopaaW.PrintWords Go.Proofs.YtedegfbheihopaaW.PrintLast Go.Proofs.YtedegfbheihopaaW.PrintMore
attribute [local go_sem] max2_int min2_int max_two min_two max_three min_three max_four min_four   -- for this text's walks alone
set_option linter.unusedVariables false
set_option linter.unusedSimpArgs false
def impl_hops.l0 : Nat → List (S79) → Int → List Int → List Int → List Int → Int → Int → Option (List Int)
  | 0, _, _, _, _, _, _, _ => none
  | k + 1, x1, x2, x3, x9, x15, x16, x17 => if x17 < x16 then (if 0 ≤ x17 then (if x17 < (x15.length : Int) then (if 0 ≤ x2 then (if x2 < (x3.length : Int) then (if (rd x3 x2) < 100000 then (if 0 ≤ (rd x15 x17) then (if (rd x15 x17) < (x3.length : Int) then ((impl_cost.f k x1 x2 (rd x15 x17)).bind fun t510 => (if (wrap64 ((rd x3 (rd x15 x17)) + t510)) = (rd x3 x2) then (if x9.length < 17592186044416 then (impl_hops.l0 k x1 x2 x3 (x9 ++ [rd x15 x17]) x15 x16 (wrap64 (x17 + 1))) else (none)) else (impl_hops.l0 k x1 x2 x3 x9 x15 x16 (wrap64 (x17 + 1))))) else (none)) else (none)) else (impl_hops.l0 k x1 x2 x3 x9 x15 x16 (wrap64 (x17 + 1)))) else (none)) else (none)) else (none)) else (none)) else (some x9)
def impl_hops.f (k : Nat) (a0 : Int) (l1 : List (S79)) (a2 : Int) (l3 : List Int) : Option (List Int) := (impl_near.f k a0 l1 a2).bind fun t504 => (impl_hops.l0 k l1 a2 l3 ([] : List Int) t504 (t504.length : Int) 0)
def impl_hops.T5 : Bool × List (List Nat × List Nat) := (true, [([], []), ([], []), ([0, 1], [0, 1]), ([2], [2]), ([3], [3]), ([4], [4]), ([5], [5]), ([5], [5]), ([6, 7, 5], [5, 6, 7]), ([8, 5], [5, 8]), ([5], [5]), ([5], [5]), ([5], [5]), ([10, 11, 12, 5, 5], [5, 10, 11, 12]), ([9, 13, 5], [5, 9, 13]), ([5], [5]), ([5], [5]), ([15, 16, 5], [5, 15, 16]), ([17, 5], [5, 17]), ([14, 18, 5], [5, 14, 18]), ([5, 19], [5, 19])])
def impl_hops.B5 : List Nat := [0, 0, 3, 7, 15, 31, 63, 63, 255, 511, 63, 63, 63, 7231, 16383, 63, 63, 98367, 229439, 524287, 1048575]
theorem impl_hops.tab5 : rtab .any (opsOf Try.f98 5) = impl_hops.T5 := by kernel_rfl
theorem impl_hops.bits5 : waitsOk impl_hops.T5.2 impl_hops.B5 = true := by kernel_rfl
set_option maxHeartbeats 8000000 in
set_option maxRecDepth 100000 in
theorem impl_hops.calls (k : Nat) (a0 : Int) (A1 : Option Addr) (c1 : Nat) (l1 : List (S79)) (a2 : Int) (A3 : Option Addr) (c3 : Nat) (l3 : List Int) (r : List Int) (w : World) (hr1 : Kd.C k79 w A1 l1.length l1) (hc1 : l1.length ≤ c1) (hr3 : Kd.C (Kd.int .i64) w A3 l3.length l3) (hc3 : l3.length ≤ c3) (h : impl_hops.f k a0 l1 a2 l3 = some r) :
    Calls Try.prog 98 #[.int .i64 a0, .slice A1 l1.length c1, .int .i64 a2, .slice A3 l3.length c3] w fun e w' => ∃ v0_ : Value, e = .returned (v0_) ∧ Kd.R (Kd.int .i64) 3 w' w.heap.size (fun _ => True) v0_ r ∧ Below w.heap.size w w' := by
  have HR1 := Aside0.mk hr1
  have HC1 := Aside0.mk hc1
  clear hr1 hc1
  have HR3 := Aside0.mk hr3
  have HC3 := Aside0.mk hc3
  clear hr3 hc3
  have HB := Aside0.mk (Below.refl w.heap.size w)
  have H : ((impl_near.f k a0 l1 a2).bind fun t504 => (impl_hops.l0 k l1 a2 l3 ([] : List Int) t504 (t504.length : Int) 0)) = some r := h
  clear h
  replace H := Option.bind_eq_some_iff.mp H
  obtain ⟨t504, A50, H⟩ := H
  replace H : (impl_hops.l0 k l1 a2 l3 ([] : List Int) t504 (t504.length : Int) 0) = some r := H
  have A5 := Aside0.mk A50
  clear A50
  have H' := Aside0.mk H
  clear H
  go_enter Try.func98, Try.ntmps98
  go_wp2_with (first | ((with_reducible refine gate_callee (f := 107) rfl ?_); refine goesL_ (some 15) rfl rfl Try.func107 (by kernel_rfl) rfl #[.int .i64 a0, .slice A1 l1.length c1, .int .i64 a2] rfl (by (try simp only [List.map_toArray, List.map_cons, List.map_nil]); first | done | rfl | (simp only [List.length_drop, List.length_take]; rfl)) ?_; (with_reducible refine (impl_near.calls k a0 _ _ l1 a2 t504 _ ?side1 ?side2 A5.out).mono ?_); (case side1 => repeat (first | exact HR1.out | (with_reducible refine Kd.C_alloc ?_ _) | (with_reducible refine Kd.C_drewN ?_ _) | (with_reducible refine Kd.C_drew ?_))); (case side2 => exact HC1.out); rintro e w6 ⟨v505, rfl, ho0, hb⟩; refine ⟨_, rfl, ?_⟩; have n0_ := Aside0.mk (Kd.R_lower ho0 (below_size (by repeat (first | (with_reducible first | exact HB.out | apply below_alloc | apply pw_below_drewN | apply below_drew1) | exact HB.out)))); have n1_ := Aside0.mk (below_step (by repeat (first | (with_reducible first | exact HB.out | apply below_alloc | apply pw_below_drewN | apply below_drew1) | exact HB.out)) hb); clear HB; have HO506 := n0_; have HB := n1_; clear n0_ n1_; (try clear hb); (try clear hb2); (try clear hk); (try clear hi); (try clear ho0); obtain ⟨Ao7, co7, eo7⟩ := Kd.R_slice HO506.out; subst eo7))
  go_loopg [9, 17] k (fun kq v9 v17 w' => ∃ (x9_1 : List Int) (x17_1 : Int), v17 = .int .i64 x17_1 ∧ Aside0 (impl_hops.l0 kq l1 a2 l3 x9_1 t504 (t504.length : Int) x17_1 = some r) ∧ Aside0 (kq ≤ k) ∧ Aside0 (Kd.R (Kd.int .i64) 3 w' w.heap.size (fun k_ => some k_ ≠ ((.slice Ao7 t504.length co7) : Value).ownBlock) v9 x9_1) ∧ Aside0 (Kd.R (Kd.int .i64) 3 w' w.heap.size (fun k_ => some k_ ≠ (v9 : Value).ownBlock) (.slice Ao7 t504.length co7) t504) ∧ Aside0 (Below w.heap.size w w'))
  case atStart => exact ⟨(([] : List Int)), (0), (by first | rfl | (simp; done) | (simp [*]; done)), H', ⟨Nat.le_refl _⟩, ⟨by first | exact Kd.R_nil _ _ _ _ _ | exact Kd.N_nil _ _ _ _ _ | exact Kd.V_nil _ _ _ _ _ | exact Kd.Q_nil _ _ _ _ _ | exact Kd.S_nil _ _ _ _ _⟩, ⟨by (with_reducible repeat (first | apply Kd.R_alloc | apply Kd.R_drewN | apply Kd.R_drew)); exact Kd.R_mono HO506.out (fun _ hk => (by simp [Value.ownBlock]))⟩, ⟨by repeat (first | (with_reducible first | exact HB.out | apply below_alloc | apply pw_below_drewN | apply below_drew1) | exact HB.out)⟩⟩
  case round =>
    clear H'
    try clear c1
    try clear p2
    try clear c3
    obtain ⟨x9_1, x17_1, rfl, HA, HK1, HO_9, HO_15, HB⟩ := hrel
    cases gk with
    | zero => exact absurd HA.out (by simp [impl_hops.l0])
    | succ k1 =>
      have H := HA.out
      clear HA
      simp only [impl_hops.l0] at H
      by_cases c8 : x17_1 < (t504.length : Int)
      · rw [if_pos c8] at H
        have c8b0 : decide (x17_1 < (t504.length : Int)) = true := decide_eq_true c8
        clear c8
        by_cases c9 : 0 ≤ x17_1
        · rw [if_pos c9] at H
          have c9b0 : decide (0 ≤ x17_1) = true := decide_eq_true c9
          clear c9
          by_cases c10 : x17_1 < (t504.length : Int)
          · rw [if_pos c10] at H
            have c10b0 : decide (x17_1 < (t504.length : Int)) = true := decide_eq_true c10
            clear c10
            by_cases c11 : 0 ≤ a2
            · rw [if_pos c11] at H
              have c11b0 : decide (0 ≤ a2) = true := decide_eq_true c11
              clear c11
              by_cases c12 : a2 < (l3.length : Int)
              · rw [if_pos c12] at H
                have c12b0 : decide (a2 < (l3.length : Int)) = true := decide_eq_true c12
                clear c12
                by_cases c13 : (rd l3 a2) < 100000
                · rw [if_pos c13] at H
                  have c13b0 : decide ((rd l3 a2) < 100000) = true := decide_eq_true c13
                  clear c13
                  by_cases c14 : 0 ≤ (rd t504 x17_1)
                  · rw [if_pos c14] at H
                    have c14b0 : decide (0 ≤ (rd t504 x17_1)) = true := decide_eq_true c14
                    clear c14
                    by_cases c15 : (rd t504 x17_1) < (l3.length : Int)
                    · rw [if_pos c15] at H
                      have c15b0 : decide ((rd t504 x17_1) < (l3.length : Int)) = true := decide_eq_true c15
                      clear c15
                      replace H := Option.bind_eq_some_iff.mp H
                      obtain ⟨t510, A160, H⟩ := H
                      replace H : (if (wrap64 ((rd l3 (rd t504 x17_1)) + t510)) = (rd l3 a2) then (if x9_1.length < 17592186044416 then (impl_hops.l0 k1 l1 a2 l3 (x9_1 ++ [rd t504 x17_1]) t504 (t504.length : Int) (wrap64 (x17_1 + 1))) else (none)) else (impl_hops.l0 k1 l1 a2 l3 x9_1 t504 (t504.length : Int) (wrap64 (x17_1 + 1)))) = some r := H
                      have A16 := Aside0.mk A160
                      clear A160
                      by_cases c17 : (wrap64 ((rd l3 (rd t504 x17_1)) + t510)) = (rd l3 a2)
                      · rw [if_pos c17] at H
                        have c17b0 : ((wrap64 ((rd l3 (rd t504 x17_1)) + t510)) == (rd l3 a2)) = true := beq_iff_eq.mpr c17
                        have c17b1 : ((wrap64 ((rd l3 (rd t504 x17_1)) + t510)) != (rd l3 a2)) = false := bne_eq_false_iff_eq.mpr c17
                        clear c17
                        by_cases c18 : x9_1.length < 17592186044416
                        · rw [if_pos c18] at H
                          have LMc18 := Aside0.mk c18
                          clear c18
                          obtain ⟨y512, hy512⟩ : ∃ y_ : List Int, y_ = (x9_1 ++ [rd t504 x17_1]) := ⟨_, rfl⟩
                          replace H : (impl_hops.l0 k1 l1 a2 l3 y512 t504 (t504.length : Int) (wrap64 (x17_1 + 1))) = some r := by first | (rw [hy512]; with_reducible exact H) | (have H2_ := (Option.bind_some _ _).symm.trans H; rw [hy512]; with_reducible exact H2_) | (have H2_ := (Option.bind_some _ _).symm.trans H; with_reducible exact H2_) | with_reducible exact H | (rw [hy512]; exact H) | exact H
                          have Ny512 := Aside0.mk hy512
                          clear hy512
                          have H' := Aside0.mk H
                          clear H
                          have p507 : 0 ≤ (x17_1 : Int) := of_decide_eq_true (by first | (with_reducible assumption) | assumption)
                          have q507 : x17_1 < (t504.length : Int) := of_decide_eq_true (by first | (with_reducible assumption) | assumption)
                          obtain ⟨ad507, e507, hx507_0⟩ := Kd.at_int (Kd.R_reads' HO_15.out).2.2 x17_1 p507 q507
                          cases e507
                          replace p507 := eq_true p507
                          replace q507 := eq_true q507
                          try go_wp2
                          have n0_ := Aside0.mk (Kd.R_drew HO_9.out)
                          have n1_ := Aside0.mk (Kd.R_drew HO_15.out)
                          have n2_ := Aside0.mk (below_drew1 HB.out)
                          clear HO_9
                          clear HO_15
                          clear HB
                          have HO_9 := n0_
                          have HO_15 := n1_
                          have HB := n2_
                          clear n0_ n1_ n2_
                          have p508 : 0 ≤ (a2 : Int) := of_decide_eq_true (by first | (with_reducible assumption) | assumption)
                          have q508 : a2 < (l3.length : Int) := of_decide_eq_true (by first | (with_reducible assumption) | assumption)
                          obtain ⟨ad508, e508, hx508_0⟩ := Kd.at_int HR3.out a2 p508 q508
                          have hw508_0 := hx508_0
                          cases e508
                          replace hx508_0 := (HB.out.cell (World.block_lt_of_cell? w _ hx508_0)).trans hx508_0
                          replace p508 := eq_true p508
                          replace q508 := eq_true q508
                          have p509 : 0 ≤ ((rd t504 x17_1) : Int) := of_decide_eq_true (by first | (with_reducible assumption) | assumption)
                          have q509 : (rd t504 x17_1) < (l3.length : Int) := of_decide_eq_true (by first | (with_reducible assumption) | assumption)
                          obtain ⟨ad509, e509, hx509_0⟩ := Kd.at_int HR3.out (rd t504 x17_1) p509 q509
                          have hw509_0 := hx509_0
                          obtain rfl : ad508 = ad509 := (by injection e509)
                          replace hx509_0 := (HB.out.cell (World.block_lt_of_cell? w _ hx509_0)).trans hx509_0
                          replace p509 := eq_true p509
                          replace q509 := eq_true q509
                          have p511 : 0 ≤ (a2 : Int) := of_decide_eq_true (by first | (with_reducible assumption) | assumption)
                          have q511 : a2 < (l3.length : Int) := of_decide_eq_true (by first | (with_reducible assumption) | assumption)
                          obtain ⟨ad511, e511, hx511_0⟩ := Kd.at_int HR3.out a2 p511 q511
                          have hw511_0 := hx511_0
                          obtain rfl : ad508 = ad511 := (by injection e511)
                          replace hx511_0 := (HB.out.cell (World.block_lt_of_cell? w _ hx511_0)).trans hx511_0
                          replace p511 := eq_true p511
                          replace q511 := eq_true q511
                          refine start_ (n := 21) (S := fun w' => w'.cell? (ad508.add (a2).toNat) = some (.int .i64 (rd l3 a2)) ∧ w'.cell? (ad508.add ((rd t504 x17_1)).toNat) = some (.int .i64 (rd l3 (rd t504 x17_1))) ∧ w'.cell? (ad508.add (a2).toNat) = some (.int .i64 (rd l3 a2))) (ds := []) #[false, false, false, false, false, false, false, false, false, false, false, false, false, false, false, false, false, false, false, false, false] (by kernel_rfl) rfl rfl ⟨((HB.out.cell (World.block_lt_of_cell? w _ hw508_0)).trans hw508_0), ((HB.out.cell (World.block_lt_of_cell? w _ hw509_0)).trans hw509_0), ((HB.out.cell (World.block_lt_of_cell? w _ hw511_0)).trans hw511_0)⟩ (fun hHeld => ?_); refine with_tabW impl_hops.tab5 impl_hops.bits5 (fun HT_ HW_ => ?_)
                          generalize wr.drew = w19 at HO_9 HO_15 HB hx508_0 hx509_0 hx511_0 hHeld ⊢
                          refine pure_ (i := 0) (N := some 21) (v := ?_) (a' := ?_) #[true, false, false, false, false, false, false, false, false, false, false, false, false, false, false, false, false, false, false, false, false] rfl rfl (any_of HT_.out (by kernel_rfl)) (fun _ _ _ h => h) (Or.inl ⟨by rfl, ?_⟩) ?_ ?_
                          rotate_left
                          · intro w'
                            go_simp
                            with_reducible rfl
                          rotate_left
                          · simp only [Act.put, List.setIfInBounds_toArray, List.set_cons_zero, List.set_cons_succ, i64_w, i32_w]
                            rfl
                          refine pure_ (i := 1) (N := some 22) (v := ?_) (a' := ?_) #[true, true, false, false, false, false, false, false, false, false, false, false, false, false, false, false, false, false, false, false, false] rfl rfl (any_of HT_.out (by kernel_rfl)) (fun _ _ _ h => h) (Or.inl ⟨by rfl, ?_⟩) ?_ ?_
                          rotate_left
                          · intro w'
                            go_simp
                            with_reducible rfl
                          rotate_left
                          · simp only [Act.put, List.setIfInBounds_toArray, List.set_cons_zero, List.set_cons_succ, i64_w, i32_w]
                            rfl
                          refine pure_ (i := 2) (N := some 23) (v := ?_) (a' := ?_) #[true, true, true, false, false, false, false, false, false, false, false, false, false, false, false, false, false, false, false, false, false] rfl rfl (any_of HT_.out (by kernel_rfl)) (fun _ _ _ h => h) (Or.inl ⟨by rfl, ?_⟩) ?_ ?_
                          rotate_left
                          · intro w'
                            go_simp
                            with_reducible rfl
                          rotate_left
                          · simp only [Act.put, List.setIfInBounds_toArray, List.set_cons_zero, List.set_cons_succ, i64_w, i32_w]
                            rfl
                          refine take_ (i := 3) (N := some 24) (v := ?_) (a' := ?_) #[true, true, true, true, false, false, false, false, false, false, false, false, false, false, false, false, false, false, false, false, false] rfl rfl (take_ofW HT_.out HW_.out (by kernel_rfl)) (fun _ _ _ h => h) (Or.inl ⟨by rfl, ?_⟩) hHeld ?_ ?_
                          rotate_left
                          · rintro w' ⟨s0, s1, s2⟩
                            go_simp
                            with_reducible rfl
                          rotate_left
                          · simp only [Act.put, List.setIfInBounds_toArray, List.set_cons_zero, List.set_cons_succ, i64_w, i32_w]
                            rfl
                          refine pure_ (i := 4) (N := some 25) (v := ?_) (a' := ?_) #[true, true, true, true, true, false, false, false, false, false, false, false, false, false, false, false, false, false, false, false, false] rfl rfl (any_of HT_.out (by kernel_rfl)) (fun _ _ _ h => h) (Or.inl ⟨by rfl, ?_⟩) ?_ ?_
                          rotate_left
                          · intro w'
                            go_simp
                            with_reducible rfl
                          rotate_left
                          · simp only [Act.put, List.setIfInBounds_toArray, List.set_cons_zero, List.set_cons_succ, i64_w, i32_w]
                            rfl
                          refine pure_ (i := 5) (N := some 26) (v := ?_) (a' := ?_) #[true, true, true, true, true, true, false, false, false, false, false, false, false, false, false, false, false, false, false, false, false] rfl rfl (any_of HT_.out (by kernel_rfl)) (fun _ _ _ h => h) (Or.inl ⟨by rfl, ?_⟩) ?_ ?_
                          rotate_left
                          · intro w'
                            go_simp
                            with_reducible rfl
                          rotate_left
                          · simp only [Act.put, List.setIfInBounds_toArray, List.set_cons_zero, List.set_cons_succ, i64_w, i32_w]
                            rfl
                          refine pure_ (i := 6) (N := some 27) (v := ?_) (a' := ?_) #[true, true, true, true, true, true, true, false, false, false, false, false, false, false, false, false, false, false, false, false, false] rfl rfl (any_of HT_.out (by kernel_rfl)) (fun _ _ _ h => h) (Or.inl ⟨by rfl, ?_⟩) ?_ ?_
                          rotate_left
                          · intro w'
                            go_simp
                            with_reducible rfl
                          rotate_left
                          · simp only [Act.put, List.setIfInBounds_toArray, List.set_cons_zero, List.set_cons_succ, i64_w, i32_w]
                            rfl
                          refine pure_ (i := 7) (N := some 28) (v := ?_) (a' := ?_) #[true, true, true, true, true, true, true, true, false, false, false, false, false, false, false, false, false, false, false, false, false] rfl rfl (any_of HT_.out (by kernel_rfl)) (fun _ _ _ h => h) (Or.inl ⟨by rfl, ?_⟩) ?_ ?_
                          rotate_left
                          · intro w'
                            go_simp
                            with_reducible rfl
                          rotate_left
                          · simp only [Act.put, List.setIfInBounds_toArray, List.set_cons_zero, List.set_cons_succ, i64_w, i32_w]
                            rfl
                          refine pure_ (i := 8) (N := some 29) (v := ?_) (a' := ?_) #[true, true, true, true, true, true, true, true, true, false, false, false, false, false, false, false, false, false, false, false, false] rfl rfl (any_of HT_.out (by kernel_rfl)) (fun _ _ _ h => h) (Or.inl ⟨by rfl, ?_⟩) ?_ ?_
                          rotate_left
                          · intro w'
                            go_simp
                            with_reducible rfl
                          rotate_left
                          · simp only [Act.put, List.setIfInBounds_toArray, List.set_cons_zero, List.set_cons_succ, i64_w, i32_w]
                            rfl
                          refine pure_ (i := 10) (N := some 31) (v := ?_) (a' := ?_) #[true, true, true, true, true, true, true, true, true, false, true, false, false, false, false, false, false, false, false, false, false] rfl rfl (any_of HT_.out (by kernel_rfl)) (fun _ _ _ h => h) (Or.inl ⟨by rfl, ?_⟩) ?_ ?_
                          rotate_left
                          · intro w'
                            go_simp
                            with_reducible rfl
                          rotate_left
                          · simp only [Act.put, List.setIfInBounds_toArray, List.set_cons_zero, List.set_cons_succ, i64_w, i32_w]
                            rfl
                          refine pure_ (i := 11) (N := some 32) (v := ?_) (a' := ?_) #[true, true, true, true, true, true, true, true, true, false, true, true, false, false, false, false, false, false, false, false, false] rfl rfl (any_of HT_.out (by kernel_rfl)) (fun _ _ _ h => h) (Or.inl ⟨by rfl, ?_⟩) ?_ ?_
                          rotate_left
                          · intro w'
                            go_simp
                            with_reducible rfl
                          rotate_left
                          · simp only [Act.put, List.setIfInBounds_toArray, List.set_cons_zero, List.set_cons_succ, i64_w, i32_w]
                            rfl
                          refine pure_ (i := 12) (N := some 33) (v := ?_) (a' := ?_) #[true, true, true, true, true, true, true, true, true, false, true, true, true, false, false, false, false, false, false, false, false] rfl rfl (any_of HT_.out (by kernel_rfl)) (fun _ _ _ h => h) (Or.inl ⟨by rfl, ?_⟩) ?_ ?_
                          rotate_left
                          · intro w'
                            go_simp
                            with_reducible rfl
                          rotate_left
                          · simp only [Act.put, List.setIfInBounds_toArray, List.set_cons_zero, List.set_cons_succ, i64_w, i32_w]
                            rfl
                          refine pure_ (i := 15) (N := some 36) (v := ?_) (a' := ?_) #[true, true, true, true, true, true, true, true, true, false, true, true, true, false, false, true, false, false, false, false, false] rfl rfl (any_of HT_.out (by kernel_rfl)) (fun _ _ _ h => h) (Or.inl ⟨by rfl, ?_⟩) ?_ ?_
                          rotate_left
                          · intro w'
                            go_simp
                            with_reducible rfl
                          rotate_left
                          · simp only [Act.put, List.setIfInBounds_toArray, List.set_cons_zero, List.set_cons_succ, i64_w, i32_w]
                            rfl
                          refine pure_ (i := 16) (N := some 37) (v := ?_) (a' := ?_) #[true, true, true, true, true, true, true, true, true, false, true, true, true, false, false, true, true, false, false, false, false] rfl rfl (any_of HT_.out (by kernel_rfl)) (fun _ _ _ h => h) (Or.inl ⟨by rfl, ?_⟩) ?_ ?_
                          rotate_left
                          · intro w'
                            go_simp
                            with_reducible rfl
                          rotate_left
                          · simp only [Act.put, List.setIfInBounds_toArray, List.set_cons_zero, List.set_cons_succ, i64_w, i32_w]
                            rfl
                          refine pure_ (i := 17) (N := some 38) (v := ?_) (a' := ?_) #[true, true, true, true, true, true, true, true, true, false, true, true, true, false, false, true, true, true, false, false, false] rfl rfl (any_of HT_.out (by kernel_rfl)) (fun _ _ _ h => h) (Or.inl ⟨by rfl, ?_⟩) ?_ ?_
                          rotate_left
                          · intro w'
                            go_simp
                            with_reducible rfl
                          rotate_left
                          · simp only [Act.put, List.setIfInBounds_toArray, List.set_cons_zero, List.set_cons_succ, i64_w, i32_w]
                            rfl
                          refine take_ (i := 9) (N := some 30) (v := ?_) (a' := ?_) #[true, true, true, true, true, true, true, true, true, true, true, true, true, false, false, true, true, true, false, false, false] rfl rfl (take_ofW HT_.out HW_.out (by kernel_rfl)) (fun _ _ _ h => h) (Or.inl ⟨by rfl, ?_⟩) hHeld ?_ ?_
                          rotate_left
                          · rintro w' ⟨s0, s1, s2⟩
                            go_simp
                            with_reducible rfl
                          rotate_left
                          · simp only [Act.put, List.setIfInBounds_toArray, List.set_cons_zero, List.set_cons_succ, i64_w, i32_w]
                            rfl
                          refine take_ (i := 18) (N := some 39) (v := ?_) (a' := ?_) #[true, true, true, true, true, true, true, true, true, true, true, true, true, false, false, true, true, true, true, false, false] rfl rfl (take_ofW HT_.out HW_.out (by kernel_rfl)) (fun _ _ _ h => h) (Or.inl ⟨by rfl, ?_⟩) hHeld ?_ ?_
                          rotate_left
                          · rintro w' ⟨s0, s1, s2⟩
                            go_simp
                            with_reducible rfl
                          rotate_left
                          · simp only [Act.put, List.setIfInBounds_toArray, List.set_cons_zero, List.set_cons_succ, i64_w, i32_w]
                            rfl
                          refine one_ (i := 13) (N := some 34) #[true, true, true, true, true, true, true, true, true, true, true, true, true, true, false, true, true, true, true, false, false] rfl rfl (one_of HT_.out (by kernel_rfl)) (by decide) (fun K hK => ?_)
                          refine goes_ Try.func70 (by kernel_rfl) rfl #[.slice A1 l1.length c1, .int .i64 a2, .int .i64 (rd t504 x17_1)] (by rfl) rfl rfl (by (try simp only [List.map_toArray, List.map_cons, List.map_nil]); first | done | rfl | (simp only [List.length_drop, List.length_take]; rfl)) ?_
                          with_reducible refine (impl_cost.calls k1 _ _ l1 a2 (rd t504 x17_1) t510 _ ?side1 ?side2 A16.out).mono ?_
                          (case side1 => repeat (first | exact (Kd.C_below HR1.out HB.out) | (with_reducible refine Kd.C_alloc ?_ _) | (with_reducible refine Kd.C_drewN ?_ _) | (with_reducible refine Kd.C_drew ?_)))
                          (case side2 => exact HC1.out)
                          rintro e w20 ⟨rfl, hb⟩
                          refine ⟨_, rfl, ?_⟩
                          have n0_ := Aside0.mk (Kd.R_below (by (with_reducible repeat (first | apply Kd.R_alloc | apply Kd.R_drewN | apply Kd.R_drew)); exact HO_9.out) hb)
                          have n1_ := Aside0.mk (Kd.R_below (by (with_reducible repeat (first | apply Kd.R_alloc | apply Kd.R_drewN | apply Kd.R_drew)); exact HO_15.out) hb)
                          have n2_ := Aside0.mk (below_step (by repeat (first | (with_reducible first | exact HB.out | apply below_alloc | apply pw_below_drewN | apply below_drew1) | exact HB.out)) hb)
                          clear HO_9
                          clear HO_15
                          clear HB
                          have HO_9 := n0_
                          have HO_15 := n1_
                          have HB := n2_
                          clear n0_ n1_ n2_
                          (try clear hb)
                          (try clear hb2)
                          (try clear hk)
                          (try clear hi)
                          refine hK.out _ _ ⟨((HB.out.cell (World.block_lt_of_cell? w _ hw508_0)).trans hw508_0), ((HB.out.cell (World.block_lt_of_cell? w _ hw509_0)).trans hw509_0), ((HB.out.cell (World.block_lt_of_cell? w _ hw511_0)).trans hw511_0)⟩ (fun hHeld => ?_)
                          clear hK K
                          refine norm_ (a' := ?_) ?_ ?_
                          rotate_left
                          · show Act.put _ (some 34) _ = _
                            simp only [Act.put, List.setIfInBounds_toArray, List.set_cons_zero, List.set_cons_succ, i64_w, i32_w]
                            rfl
                          refine pure_ (i := 14) (N := some 35) (v := ?_) (a' := ?_) #[true, true, true, true, true, true, true, true, true, true, true, true, true, true, true, true, true, true, true, false, false] rfl rfl (any_of HT_.out (by kernel_rfl)) (fun _ _ _ h => h) (Or.inl ⟨by rfl, ?_⟩) ?_ ?_
                          rotate_left
                          · intro w'
                            go_simp
                            with_reducible rfl
                          rotate_left
                          · simp only [Act.put, List.setIfInBounds_toArray, List.set_cons_zero, List.set_cons_succ, i64_w, i32_w]
                            rfl
                          refine pure_ (i := 19) (N := some 40) (v := ?_) (a' := ?_) #[true, true, true, true, true, true, true, true, true, true, true, true, true, true, true, true, true, true, true, true, false] rfl rfl (any_of HT_.out (by kernel_rfl)) (fun _ _ _ h => h) (Or.inl ⟨by rfl, ?_⟩) ?_ ?_
                          rotate_left
                          · intro w'
                            go_simp
                            with_reducible rfl
                          rotate_left
                          · simp only [Act.put, List.setIfInBounds_toArray, List.set_cons_zero, List.set_cons_succ, i64_w, i32_w]
                            rfl
                          refine pure_ (i := 20) (N := some 41) (v := ?_) (a' := ?_) #[true, true, true, true, true, true, true, true, true, true, true, true, true, true, true, true, true, true, true, true, true] rfl rfl (any_of HT_.out (by kernel_rfl)) (fun _ _ _ h => h) (Or.inl ⟨by rfl, ?_⟩) ?_ ?_
                          rotate_left
                          · intro w'
                            go_simp
                            with_reducible rfl
                          rotate_left
                          · simp only [Act.put, List.setIfInBounds_toArray, List.set_cons_zero, List.set_cons_succ, i64_w, i32_w]
                            rfl
                          refine done_ (done_of HT_.out (by kernel_rfl)) ?_
                          try go_wp2_with (first | ((with_reducible refine gate_builtin (b := .append) (xs := #[.tmp 42, .tmp 44]) rfl ?_); at_builtin; refine Kd.R_append (Kd.int .i64) (w0 := w) w.heap.size rfl (.tmp 42) (.tmp 44) 22 3 (.int .i64 0) 8 rfl Try.underlying22 info3 rfl (by decide) (by omega) u9 x9_1 (rd t504 x17_1) [.int .i64 (rd t504 x17_1)] (fun k_ => some k_ ≠ (.slice (some ad507) t504.length co7 : Value).ownBlock) (fun _ => False) rfl rfl ?aP (fun _ hk => hk.elim) ?aF ?aO ?aB ?aS ?aL ?_; (case aP => exact rfl); (case aB => exact (by repeat (first | (with_reducible first | exact HB.out | apply below_alloc | apply pw_below_drewN | apply below_drew1) | exact HB.out))); (case aF => exact (fun k_ hk => Kd.fresh' (Kd.R_lt (by (with_reducible repeat (first | apply Kd.R_alloc | apply Kd.R_drewN | apply Kd.R_drew)); exact HO_15.out)) k_ hk)); (case aO => exact (by (with_reducible repeat (first | apply Kd.R_alloc | apply Kd.R_drewN | apply Kd.R_drew)); exact HO_9.out)); (case aS => exact (below_size (by repeat (first | (with_reducible first | exact HB.out | apply below_alloc | apply pw_below_drewN | apply below_drew1) | exact HB.out)))); (case aL => have := LMc18.out; omega); intro v513 w21 ho hb hg hat; rw [← Ny512.out] at ho; have n0_ := Aside0.mk (Kd.R_after (ok := (fun _ => True)) (by (with_reducible repeat (first | apply Kd.R_alloc | apply Kd.R_drewN | apply Kd.R_drew)); exact Kd.R_mono HO_15.out (fun _ hk => ⟨trivial, hk⟩)) hg hat); have n1_ := Aside0.mk (hb); have n2_ := Aside0.mk (ho); clear HO_15; clear HB; clear HO_9; have HO_15 := n0_; have HB := n1_; have HO514 := n2_; clear n0_ n1_ n2_; clear ho hb hg hat))
                          go_roundg k1
                          case measure => have := HK1.out; omega
                          case rel => exact ⟨(y512), (wrap64 (x17_1 + 1)), (by first | rfl | (simp; done) | (simp [*]; done)), H', ⟨by have := HK1.out; omega⟩, ⟨by (with_reducible repeat (first | apply Kd.R_alloc | apply Kd.R_drewN | apply Kd.R_drew)); exact HO514.out⟩, ⟨by (with_reducible repeat (first | apply Kd.R_alloc | apply Kd.R_drewN | apply Kd.R_drew)); exact Kd.R_mono HO_15.out (fun _ hk => hk.2)⟩, ⟨by repeat (first | (with_reducible first | exact HB.out | apply below_alloc | apply pw_below_drewN | apply below_drew1) | exact HB.out)⟩⟩
                        · rw [if_neg c18] at H
                          exact absurd H (by simp)
                      · rw [if_neg c17] at H
                        have c17b0 : ((wrap64 ((rd l3 (rd t504 x17_1)) + t510)) == (rd l3 a2)) = false := beq_eq_false_iff_ne.mpr c17
                        have c17b1 : ((wrap64 ((rd l3 (rd t504 x17_1)) + t510)) != (rd l3 a2)) = true := bne_iff_ne.mpr c17
                        have H' := Aside0.mk H
                        clear H
                        have p507 : 0 ≤ (x17_1 : Int) := of_decide_eq_true (by first | (with_reducible assumption) | assumption)
                        have q507 : x17_1 < (t504.length : Int) := of_decide_eq_true (by first | (with_reducible assumption) | assumption)
                        obtain ⟨ad507, e507, hx507_0⟩ := Kd.at_int (Kd.R_reads' HO_15.out).2.2 x17_1 p507 q507
                        cases e507
                        replace p507 := eq_true p507
                        replace q507 := eq_true q507
                        try go_wp2
                        have n0_ := Aside0.mk (Kd.R_drew HO_9.out)
                        have n1_ := Aside0.mk (Kd.R_drew HO_15.out)
                        have n2_ := Aside0.mk (below_drew1 HB.out)
                        clear HO_9
                        clear HO_15
                        clear HB
                        have HO_9 := n0_
                        have HO_15 := n1_
                        have HB := n2_
                        clear n0_ n1_ n2_
                        have p508 : 0 ≤ (a2 : Int) := of_decide_eq_true (by first | (with_reducible assumption) | assumption)
                        have q508 : a2 < (l3.length : Int) := of_decide_eq_true (by first | (with_reducible assumption) | assumption)
                        obtain ⟨ad508, e508, hx508_0⟩ := Kd.at_int HR3.out a2 p508 q508
                        have hw508_0 := hx508_0
                        cases e508
                        replace hx508_0 := (HB.out.cell (World.block_lt_of_cell? w _ hx508_0)).trans hx508_0
                        replace p508 := eq_true p508
                        replace q508 := eq_true q508
                        have p509 : 0 ≤ ((rd t504 x17_1) : Int) := of_decide_eq_true (by first | (with_reducible assumption) | assumption)
                        have q509 : (rd t504 x17_1) < (l3.length : Int) := of_decide_eq_true (by first | (with_reducible assumption) | assumption)
                        obtain ⟨ad509, e509, hx509_0⟩ := Kd.at_int HR3.out (rd t504 x17_1) p509 q509
                        have hw509_0 := hx509_0
                        obtain rfl : ad508 = ad509 := (by injection e509)
                        replace hx509_0 := (HB.out.cell (World.block_lt_of_cell? w _ hx509_0)).trans hx509_0
                        replace p509 := eq_true p509
                        replace q509 := eq_true q509
                        have p511 : 0 ≤ (a2 : Int) := of_decide_eq_true (by first | (with_reducible assumption) | assumption)
                        have q511 : a2 < (l3.length : Int) := of_decide_eq_true (by first | (with_reducible assumption) | assumption)
                        obtain ⟨ad511, e511, hx511_0⟩ := Kd.at_int HR3.out a2 p511 q511
                        have hw511_0 := hx511_0
                        obtain rfl : ad508 = ad511 := (by injection e511)
                        replace hx511_0 := (HB.out.cell (World.block_lt_of_cell? w _ hx511_0)).trans hx511_0
                        replace p511 := eq_true p511
                        replace q511 := eq_true q511
                        refine start_ (n := 21) (S := fun w' => w'.cell? (ad508.add (a2).toNat) = some (.int .i64 (rd l3 a2)) ∧ w'.cell? (ad508.add ((rd t504 x17_1)).toNat) = some (.int .i64 (rd l3 (rd t504 x17_1))) ∧ w'.cell? (ad508.add (a2).toNat) = some (.int .i64 (rd l3 a2))) (ds := []) #[false, false, false, false, false, false, false, false, false, false, false, false, false, false, false, false, false, false, false, false, false] (by kernel_rfl) rfl rfl ⟨((HB.out.cell (World.block_lt_of_cell? w _ hw508_0)).trans hw508_0), ((HB.out.cell (World.block_lt_of_cell? w _ hw509_0)).trans hw509_0), ((HB.out.cell (World.block_lt_of_cell? w _ hw511_0)).trans hw511_0)⟩ (fun hHeld => ?_); refine with_tabW impl_hops.tab5 impl_hops.bits5 (fun HT_ HW_ => ?_)
                        generalize wr.drew = w22 at HO_9 HO_15 HB hx508_0 hx509_0 hx511_0 hHeld ⊢
                        refine pure_ (i := 0) (N := some 21) (v := ?_) (a' := ?_) #[true, false, false, false, false, false, false, false, false, false, false, false, false, false, false, false, false, false, false, false, false] rfl rfl (any_of HT_.out (by kernel_rfl)) (fun _ _ _ h => h) (Or.inl ⟨by rfl, ?_⟩) ?_ ?_
                        rotate_left
                        · intro w'
                          go_simp
                          with_reducible rfl
                        rotate_left
                        · simp only [Act.put, List.setIfInBounds_toArray, List.set_cons_zero, List.set_cons_succ, i64_w, i32_w]
                          rfl
                        refine pure_ (i := 1) (N := some 22) (v := ?_) (a' := ?_) #[true, true, false, false, false, false, false, false, false, false, false, false, false, false, false, false, false, false, false, false, false] rfl rfl (any_of HT_.out (by kernel_rfl)) (fun _ _ _ h => h) (Or.inl ⟨by rfl, ?_⟩) ?_ ?_
                        rotate_left
                        · intro w'
                          go_simp
                          with_reducible rfl
                        rotate_left
                        · simp only [Act.put, List.setIfInBounds_toArray, List.set_cons_zero, List.set_cons_succ, i64_w, i32_w]
                          rfl
                        refine pure_ (i := 2) (N := some 23) (v := ?_) (a' := ?_) #[true, true, true, false, false, false, false, false, false, false, false, false, false, false, false, false, false, false, false, false, false] rfl rfl (any_of HT_.out (by kernel_rfl)) (fun _ _ _ h => h) (Or.inl ⟨by rfl, ?_⟩) ?_ ?_
                        rotate_left
                        · intro w'
                          go_simp
                          with_reducible rfl
                        rotate_left
                        · simp only [Act.put, List.setIfInBounds_toArray, List.set_cons_zero, List.set_cons_succ, i64_w, i32_w]
                          rfl
                        refine take_ (i := 3) (N := some 24) (v := ?_) (a' := ?_) #[true, true, true, true, false, false, false, false, false, false, false, false, false, false, false, false, false, false, false, false, false] rfl rfl (take_ofW HT_.out HW_.out (by kernel_rfl)) (fun _ _ _ h => h) (Or.inl ⟨by rfl, ?_⟩) hHeld ?_ ?_
                        rotate_left
                        · rintro w' ⟨s0, s1, s2⟩
                          go_simp
                          with_reducible rfl
                        rotate_left
                        · simp only [Act.put, List.setIfInBounds_toArray, List.set_cons_zero, List.set_cons_succ, i64_w, i32_w]
                          rfl
                        refine pure_ (i := 4) (N := some 25) (v := ?_) (a' := ?_) #[true, true, true, true, true, false, false, false, false, false, false, false, false, false, false, false, false, false, false, false, false] rfl rfl (any_of HT_.out (by kernel_rfl)) (fun _ _ _ h => h) (Or.inl ⟨by rfl, ?_⟩) ?_ ?_
                        rotate_left
                        · intro w'
                          go_simp
                          with_reducible rfl
                        rotate_left
                        · simp only [Act.put, List.setIfInBounds_toArray, List.set_cons_zero, List.set_cons_succ, i64_w, i32_w]
                          rfl
                        refine pure_ (i := 5) (N := some 26) (v := ?_) (a' := ?_) #[true, true, true, true, true, true, false, false, false, false, false, false, false, false, false, false, false, false, false, false, false] rfl rfl (any_of HT_.out (by kernel_rfl)) (fun _ _ _ h => h) (Or.inl ⟨by rfl, ?_⟩) ?_ ?_
                        rotate_left
                        · intro w'
                          go_simp
                          with_reducible rfl
                        rotate_left
                        · simp only [Act.put, List.setIfInBounds_toArray, List.set_cons_zero, List.set_cons_succ, i64_w, i32_w]
                          rfl
                        refine pure_ (i := 6) (N := some 27) (v := ?_) (a' := ?_) #[true, true, true, true, true, true, true, false, false, false, false, false, false, false, false, false, false, false, false, false, false] rfl rfl (any_of HT_.out (by kernel_rfl)) (fun _ _ _ h => h) (Or.inl ⟨by rfl, ?_⟩) ?_ ?_
                        rotate_left
                        · intro w'
                          go_simp
                          with_reducible rfl
                        rotate_left
                        · simp only [Act.put, List.setIfInBounds_toArray, List.set_cons_zero, List.set_cons_succ, i64_w, i32_w]
                          rfl
                        refine pure_ (i := 7) (N := some 28) (v := ?_) (a' := ?_) #[true, true, true, true, true, true, true, true, false, false, false, false, false, false, false, false, false, false, false, false, false] rfl rfl (any_of HT_.out (by kernel_rfl)) (fun _ _ _ h => h) (Or.inl ⟨by rfl, ?_⟩) ?_ ?_
                        rotate_left
                        · intro w'
                          go_simp
                          with_reducible rfl
                        rotate_left
                        · simp only [Act.put, List.setIfInBounds_toArray, List.set_cons_zero, List.set_cons_succ, i64_w, i32_w]
                          rfl
                        refine pure_ (i := 8) (N := some 29) (v := ?_) (a' := ?_) #[true, true, true, true, true, true, true, true, true, false, false, false, false, false, false, false, false, false, false, false, false] rfl rfl (any_of HT_.out (by kernel_rfl)) (fun _ _ _ h => h) (Or.inl ⟨by rfl, ?_⟩) ?_ ?_
                        rotate_left
                        · intro w'
                          go_simp
                          with_reducible rfl
                        rotate_left
                        · simp only [Act.put, List.setIfInBounds_toArray, List.set_cons_zero, List.set_cons_succ, i64_w, i32_w]
                          rfl
                        refine pure_ (i := 10) (N := some 31) (v := ?_) (a' := ?_) #[true, true, true, true, true, true, true, true, true, false, true, false, false, false, false, false, false, false, false, false, false] rfl rfl (any_of HT_.out (by kernel_rfl)) (fun _ _ _ h => h) (Or.inl ⟨by rfl, ?_⟩) ?_ ?_
                        rotate_left
                        · intro w'
                          go_simp
                          with_reducible rfl
                        rotate_left
                        · simp only [Act.put, List.setIfInBounds_toArray, List.set_cons_zero, List.set_cons_succ, i64_w, i32_w]
                          rfl
                        refine pure_ (i := 11) (N := some 32) (v := ?_) (a' := ?_) #[true, true, true, true, true, true, true, true, true, false, true, true, false, false, false, false, false, false, false, false, false] rfl rfl (any_of HT_.out (by kernel_rfl)) (fun _ _ _ h => h) (Or.inl ⟨by rfl, ?_⟩) ?_ ?_
                        rotate_left
                        · intro w'
                          go_simp
                          with_reducible rfl
                        rotate_left
                        · simp only [Act.put, List.setIfInBounds_toArray, List.set_cons_zero, List.set_cons_succ, i64_w, i32_w]
                          rfl
                        refine pure_ (i := 12) (N := some 33) (v := ?_) (a' := ?_) #[true, true, true, true, true, true, true, true, true, false, true, true, true, false, false, false, false, false, false, false, false] rfl rfl (any_of HT_.out (by kernel_rfl)) (fun _ _ _ h => h) (Or.inl ⟨by rfl, ?_⟩) ?_ ?_
                        rotate_left
                        · intro w'
                          go_simp
                          with_reducible rfl
                        rotate_left
                        · simp only [Act.put, List.setIfInBounds_toArray, List.set_cons_zero, List.set_cons_succ, i64_w, i32_w]
                          rfl
                        refine pure_ (i := 15) (N := some 36) (v := ?_) (a' := ?_) #[true, true, true, true, true, true, true, true, true, false, true, true, true, false, false, true, false, false, false, false, false] rfl rfl (any_of HT_.out (by kernel_rfl)) (fun _ _ _ h => h) (Or.inl ⟨by rfl, ?_⟩) ?_ ?_
                        rotate_left
                        · intro w'
                          go_simp
                          with_reducible rfl
                        rotate_left
                        · simp only [Act.put, List.setIfInBounds_toArray, List.set_cons_zero, List.set_cons_succ, i64_w, i32_w]
                          rfl
                        refine pure_ (i := 16) (N := some 37) (v := ?_) (a' := ?_) #[true, true, true, true, true, true, true, true, true, false, true, true, true, false, false, true, true, false, false, false, false] rfl rfl (any_of HT_.out (by kernel_rfl)) (fun _ _ _ h => h) (Or.inl ⟨by rfl, ?_⟩) ?_ ?_
                        rotate_left
                        · intro w'
                          go_simp
                          with_reducible rfl
                        rotate_left
                        · simp only [Act.put, List.setIfInBounds_toArray, List.set_cons_zero, List.set_cons_succ, i64_w, i32_w]
                          rfl
                        refine pure_ (i := 17) (N := some 38) (v := ?_) (a' := ?_) #[true, true, true, true, true, true, true, true, true, false, true, true, true, false, false, true, true, true, false, false, false] rfl rfl (any_of HT_.out (by kernel_rfl)) (fun _ _ _ h => h) (Or.inl ⟨by rfl, ?_⟩) ?_ ?_
                        rotate_left
                        · intro w'
                          go_simp
                          with_reducible rfl
                        rotate_left
                        · simp only [Act.put, List.setIfInBounds_toArray, List.set_cons_zero, List.set_cons_succ, i64_w, i32_w]
                          rfl
                        refine take_ (i := 9) (N := some 30) (v := ?_) (a' := ?_) #[true, true, true, true, true, true, true, true, true, true, true, true, true, false, false, true, true, true, false, false, false] rfl rfl (take_ofW HT_.out HW_.out (by kernel_rfl)) (fun _ _ _ h => h) (Or.inl ⟨by rfl, ?_⟩) hHeld ?_ ?_
                        rotate_left
                        · rintro w' ⟨s0, s1, s2⟩
                          go_simp
                          with_reducible rfl
                        rotate_left
                        · simp only [Act.put, List.setIfInBounds_toArray, List.set_cons_zero, List.set_cons_succ, i64_w, i32_w]
                          rfl
                        refine take_ (i := 18) (N := some 39) (v := ?_) (a' := ?_) #[true, true, true, true, true, true, true, true, true, true, true, true, true, false, false, true, true, true, true, false, false] rfl rfl (take_ofW HT_.out HW_.out (by kernel_rfl)) (fun _ _ _ h => h) (Or.inl ⟨by rfl, ?_⟩) hHeld ?_ ?_
                        rotate_left
                        · rintro w' ⟨s0, s1, s2⟩
                          go_simp
                          with_reducible rfl
                        rotate_left
                        · simp only [Act.put, List.setIfInBounds_toArray, List.set_cons_zero, List.set_cons_succ, i64_w, i32_w]
                          rfl
                        refine one_ (i := 13) (N := some 34) #[true, true, true, true, true, true, true, true, true, true, true, true, true, true, false, true, true, true, true, false, false] rfl rfl (one_of HT_.out (by kernel_rfl)) (by decide) (fun K hK => ?_)
                        refine goes_ Try.func70 (by kernel_rfl) rfl #[.slice A1 l1.length c1, .int .i64 a2, .int .i64 (rd t504 x17_1)] (by rfl) rfl rfl (by (try simp only [List.map_toArray, List.map_cons, List.map_nil]); first | done | rfl | (simp only [List.length_drop, List.length_take]; rfl)) ?_
                        with_reducible refine (impl_cost.calls k1 _ _ l1 a2 (rd t504 x17_1) t510 _ ?side1 ?side2 A16.out).mono ?_
                        (case side1 => repeat (first | exact (Kd.C_below HR1.out HB.out) | (with_reducible refine Kd.C_alloc ?_ _) | (with_reducible refine Kd.C_drewN ?_ _) | (with_reducible refine Kd.C_drew ?_)))
                        (case side2 => exact HC1.out)
                        rintro e w23 ⟨rfl, hb⟩
                        refine ⟨_, rfl, ?_⟩
                        have n0_ := Aside0.mk (Kd.R_below (by (with_reducible repeat (first | apply Kd.R_alloc | apply Kd.R_drewN | apply Kd.R_drew)); exact HO_9.out) hb)
                        have n1_ := Aside0.mk (Kd.R_below (by (with_reducible repeat (first | apply Kd.R_alloc | apply Kd.R_drewN | apply Kd.R_drew)); exact HO_15.out) hb)
                        have n2_ := Aside0.mk (below_step (by repeat (first | (with_reducible first | exact HB.out | apply below_alloc | apply pw_below_drewN | apply below_drew1) | exact HB.out)) hb)
                        clear HO_9
                        clear HO_15
                        clear HB
                        have HO_9 := n0_
                        have HO_15 := n1_
                        have HB := n2_
                        clear n0_ n1_ n2_
                        (try clear hb)
                        (try clear hb2)
                        (try clear hk)
                        (try clear hi)
                        refine hK.out _ _ ⟨((HB.out.cell (World.block_lt_of_cell? w _ hw508_0)).trans hw508_0), ((HB.out.cell (World.block_lt_of_cell? w _ hw509_0)).trans hw509_0), ((HB.out.cell (World.block_lt_of_cell? w _ hw511_0)).trans hw511_0)⟩ (fun hHeld => ?_)
                        clear hK K
                        refine norm_ (a' := ?_) ?_ ?_
                        rotate_left
                        · show Act.put _ (some 34) _ = _
                          simp only [Act.put, List.setIfInBounds_toArray, List.set_cons_zero, List.set_cons_succ, i64_w, i32_w]
                          rfl
                        refine pure_ (i := 14) (N := some 35) (v := ?_) (a' := ?_) #[true, true, true, true, true, true, true, true, true, true, true, true, true, true, true, true, true, true, true, false, false] rfl rfl (any_of HT_.out (by kernel_rfl)) (fun _ _ _ h => h) (Or.inl ⟨by rfl, ?_⟩) ?_ ?_
                        rotate_left
                        · intro w'
                          go_simp
                          with_reducible rfl
                        rotate_left
                        · simp only [Act.put, List.setIfInBounds_toArray, List.set_cons_zero, List.set_cons_succ, i64_w, i32_w]
                          rfl
                        refine pure_ (i := 19) (N := some 40) (v := ?_) (a' := ?_) #[true, true, true, true, true, true, true, true, true, true, true, true, true, true, true, true, true, true, true, true, false] rfl rfl (any_of HT_.out (by kernel_rfl)) (fun _ _ _ h => h) (Or.inl ⟨by rfl, ?_⟩) ?_ ?_
                        rotate_left
                        · intro w'
                          go_simp
                          with_reducible rfl
                        rotate_left
                        · simp only [Act.put, List.setIfInBounds_toArray, List.set_cons_zero, List.set_cons_succ, i64_w, i32_w]
                          rfl
                        refine pure_ (i := 20) (N := some 41) (v := ?_) (a' := ?_) #[true, true, true, true, true, true, true, true, true, true, true, true, true, true, true, true, true, true, true, true, true] rfl rfl (any_of HT_.out (by kernel_rfl)) (fun _ _ _ h => h) (Or.inl ⟨by rfl, ?_⟩) ?_ ?_
                        rotate_left
                        · intro w'
                          go_simp
                          with_reducible rfl
                        rotate_left
                        · simp only [Act.put, List.setIfInBounds_toArray, List.set_cons_zero, List.set_cons_succ, i64_w, i32_w]
                          rfl
                        refine done_ (done_of HT_.out (by kernel_rfl)) ?_
                        try go_wp2
                        go_roundg k1
                        case measure => have := HK1.out; omega
                        case rel => exact ⟨(x9_1), (wrap64 (x17_1 + 1)), (by first | rfl | (simp; done) | (simp [*]; done)), H', ⟨by have := HK1.out; omega⟩, ⟨by (with_reducible repeat (first | apply Kd.R_alloc | apply Kd.R_drewN | apply Kd.R_drew)); exact HO_9.out⟩, ⟨by (with_reducible repeat (first | apply Kd.R_alloc | apply Kd.R_drewN | apply Kd.R_drew)); exact HO_15.out⟩, ⟨by repeat (first | (with_reducible first | exact HB.out | apply below_alloc | apply pw_below_drewN | apply below_drew1) | exact HB.out)⟩⟩
                    · rw [if_neg c15] at H
                      exact absurd H (by simp)
                  · rw [if_neg c14] at H
                    exact absurd H (by simp)
                · rw [if_neg c13] at H
                  have c13b0 : decide ((rd l3 a2) < 100000) = false := decide_eq_false c13
                  clear c13
                  have H' := Aside0.mk H
                  clear H
                  have p507 : 0 ≤ (x17_1 : Int) := of_decide_eq_true (by first | (with_reducible assumption) | assumption)
                  have q507 : x17_1 < (t504.length : Int) := of_decide_eq_true (by first | (with_reducible assumption) | assumption)
                  obtain ⟨ad507, e507, hx507_0⟩ := Kd.at_int (Kd.R_reads' HO_15.out).2.2 x17_1 p507 q507
                  cases e507
                  replace p507 := eq_true p507
                  replace q507 := eq_true q507
                  try go_wp2
                  have n0_ := Aside0.mk (Kd.R_drew HO_9.out)
                  have n1_ := Aside0.mk (Kd.R_drew HO_15.out)
                  have n2_ := Aside0.mk (below_drew1 HB.out)
                  clear HO_9
                  clear HO_15
                  clear HB
                  have HO_9 := n0_
                  have HO_15 := n1_
                  have HB := n2_
                  clear n0_ n1_ n2_
                  have p508 : 0 ≤ (a2 : Int) := of_decide_eq_true (by first | (with_reducible assumption) | assumption)
                  have q508 : a2 < (l3.length : Int) := of_decide_eq_true (by first | (with_reducible assumption) | assumption)
                  obtain ⟨ad508, e508, hx508_0⟩ := Kd.at_int HR3.out a2 p508 q508
                  have hw508_0 := hx508_0
                  cases e508
                  replace hx508_0 := (HB.out.cell (World.block_lt_of_cell? w _ hx508_0)).trans hx508_0
                  replace p508 := eq_true p508
                  replace q508 := eq_true q508
                  refine start_ (n := 21) (S := fun w' => w'.cell? (ad508.add (a2).toNat) = some (.int .i64 (rd l3 a2))) (ds := []) #[false, false, false, false, false, false, false, false, false, false, false, false, false, false, false, false, false, false, false, false, false] (by kernel_rfl) rfl rfl (((HB.out.cell (World.block_lt_of_cell? w _ hw508_0)).trans hw508_0)) (fun hHeld => ?_); refine with_tabW impl_hops.tab5 impl_hops.bits5 (fun HT_ HW_ => ?_)
                  generalize wr.drew = w24 at HO_9 HO_15 HB hx508_0 hHeld ⊢
                  refine pure_ (i := 0) (N := some 21) (v := ?_) (a' := ?_) #[true, false, false, false, false, false, false, false, false, false, false, false, false, false, false, false, false, false, false, false, false] rfl rfl (any_of HT_.out (by kernel_rfl)) (fun _ _ _ h => h) (Or.inl ⟨by rfl, ?_⟩) ?_ ?_
                  rotate_left
                  · intro w'
                    go_simp
                    with_reducible rfl
                  rotate_left
                  · simp only [Act.put, List.setIfInBounds_toArray, List.set_cons_zero, List.set_cons_succ, i64_w, i32_w]
                    rfl
                  refine pure_ (i := 1) (N := some 22) (v := ?_) (a' := ?_) #[true, true, false, false, false, false, false, false, false, false, false, false, false, false, false, false, false, false, false, false, false] rfl rfl (any_of HT_.out (by kernel_rfl)) (fun _ _ _ h => h) (Or.inl ⟨by rfl, ?_⟩) ?_ ?_
                  rotate_left
                  · intro w'
                    go_simp
                    with_reducible rfl
                  rotate_left
                  · simp only [Act.put, List.setIfInBounds_toArray, List.set_cons_zero, List.set_cons_succ, i64_w, i32_w]
                    rfl
                  refine pure_ (i := 2) (N := some 23) (v := ?_) (a' := ?_) #[true, true, true, false, false, false, false, false, false, false, false, false, false, false, false, false, false, false, false, false, false] rfl rfl (any_of HT_.out (by kernel_rfl)) (fun _ _ _ h => h) (Or.inl ⟨by rfl, ?_⟩) ?_ ?_
                  rotate_left
                  · intro w'
                    go_simp
                    with_reducible rfl
                  rotate_left
                  · simp only [Act.put, List.setIfInBounds_toArray, List.set_cons_zero, List.set_cons_succ, i64_w, i32_w]
                    rfl
                  refine take_ (i := 3) (N := some 24) (v := ?_) (a' := ?_) #[true, true, true, true, false, false, false, false, false, false, false, false, false, false, false, false, false, false, false, false, false] rfl rfl (take_ofW HT_.out HW_.out (by kernel_rfl)) (fun _ _ _ h => h) (Or.inl ⟨by rfl, ?_⟩) hHeld ?_ ?_
                  rotate_left
                  · intro w' s0
                    go_simp
                    with_reducible rfl
                  rotate_left
                  · simp only [Act.put, List.setIfInBounds_toArray, List.set_cons_zero, List.set_cons_succ, i64_w, i32_w]
                    rfl
                  refine pure_ (i := 4) (N := some 25) (v := ?_) (a' := ?_) #[true, true, true, true, true, false, false, false, false, false, false, false, false, false, false, false, false, false, false, false, false] rfl rfl (any_of HT_.out (by kernel_rfl)) (fun _ _ _ h => h) (Or.inl ⟨by rfl, ?_⟩) ?_ ?_
                  rotate_left
                  · intro w'
                    go_simp
                    with_reducible rfl
                  rotate_left
                  · simp only [Act.put, List.setIfInBounds_toArray, List.set_cons_zero, List.set_cons_succ, i64_w, i32_w]
                    rfl
                  refine pure_ (i := 5) (N := some 26) (v := ?_) (a' := ?_) #[true, true, true, true, true, true, false, false, false, false, false, false, false, false, false, false, false, false, false, false, false] rfl rfl (any_of HT_.out (by kernel_rfl)) (fun _ _ _ h => h) (Or.inl ⟨by rfl, ?_⟩) ?_ ?_
                  rotate_left
                  · intro w'
                    go_simp
                    with_reducible rfl
                  rotate_left
                  · simp only [Act.put, List.setIfInBounds_toArray, List.set_cons_zero, List.set_cons_succ, i64_w, i32_w]
                    rfl
                  refine pure_ (i := 6) (N := some 27) (v := undef) (a' := ?_) #[true, true, true, true, true, true, true, false, false, false, false, false, false, false, false, false, false, false, false, false, false] rfl rfl (any_of HT_.out (by kernel_rfl)) (fun _ _ _ h => h) (Or.inr ⟨by rfl, rfl⟩) ?_ ?_
                  rotate_left
                  · simp only [Act.put, List.setIfInBounds_toArray, List.set_cons_zero, List.set_cons_succ, i64_w, i32_w]
                    rfl
                  refine pure_ (i := 7) (N := some 28) (v := undef) (a' := ?_) #[true, true, true, true, true, true, true, true, false, false, false, false, false, false, false, false, false, false, false, false, false] rfl rfl (any_of HT_.out (by kernel_rfl)) (fun _ _ _ h => h) (Or.inr ⟨by rfl, rfl⟩) ?_ ?_
                  rotate_left
                  · simp only [Act.put, List.setIfInBounds_toArray, List.set_cons_zero, List.set_cons_succ, i64_w, i32_w]
                    rfl
                  refine pure_ (i := 8) (N := some 29) (v := undef) (a' := ?_) #[true, true, true, true, true, true, true, true, true, false, false, false, false, false, false, false, false, false, false, false, false] rfl rfl (any_of HT_.out (by kernel_rfl)) (fun _ _ _ h => h) (Or.inr ⟨by rfl, rfl⟩) ?_ ?_
                  rotate_left
                  · simp only [Act.put, List.setIfInBounds_toArray, List.set_cons_zero, List.set_cons_succ, i64_w, i32_w]
                    rfl
                  refine pure_ (i := 9) (N := some 30) (v := undef) (a' := ?_) #[true, true, true, true, true, true, true, true, true, true, false, false, false, false, false, false, false, false, false, false, false] rfl rfl (any_of HT_.out (by kernel_rfl)) (fun _ _ _ h => h) (Or.inr ⟨by rfl, rfl⟩) ?_ ?_
                  rotate_left
                  · simp only [Act.put, List.setIfInBounds_toArray, List.set_cons_zero, List.set_cons_succ, i64_w, i32_w]
                    rfl
                  refine pure_ (i := 10) (N := some 31) (v := undef) (a' := ?_) #[true, true, true, true, true, true, true, true, true, true, true, false, false, false, false, false, false, false, false, false, false] rfl rfl (any_of HT_.out (by kernel_rfl)) (fun _ _ _ h => h) (Or.inr ⟨by rfl, rfl⟩) ?_ ?_
                  rotate_left
                  · simp only [Act.put, List.setIfInBounds_toArray, List.set_cons_zero, List.set_cons_succ, i64_w, i32_w]
                    rfl
                  refine pure_ (i := 11) (N := some 32) (v := undef) (a' := ?_) #[true, true, true, true, true, true, true, true, true, true, true, true, false, false, false, false, false, false, false, false, false] rfl rfl (any_of HT_.out (by kernel_rfl)) (fun _ _ _ h => h) (Or.inr ⟨by rfl, rfl⟩) ?_ ?_
                  rotate_left
                  · simp only [Act.put, List.setIfInBounds_toArray, List.set_cons_zero, List.set_cons_succ, i64_w, i32_w]
                    rfl
                  refine pure_ (i := 12) (N := some 33) (v := undef) (a' := ?_) #[true, true, true, true, true, true, true, true, true, true, true, true, true, false, false, false, false, false, false, false, false] rfl rfl (any_of HT_.out (by kernel_rfl)) (fun _ _ _ h => h) (Or.inr ⟨by rfl, rfl⟩) ?_ ?_
                  rotate_left
                  · simp only [Act.put, List.setIfInBounds_toArray, List.set_cons_zero, List.set_cons_succ, i64_w, i32_w]
                    rfl
                  refine pure_ (i := 13) (N := some 34) (v := undef) (a' := ?_) #[true, true, true, true, true, true, true, true, true, true, true, true, true, true, false, false, false, false, false, false, false] rfl rfl (any_of HT_.out (by kernel_rfl)) (fun _ _ _ h => h) (Or.inr ⟨by rfl, rfl⟩) ?_ ?_
                  rotate_left
                  · simp only [Act.put, List.setIfInBounds_toArray, List.set_cons_zero, List.set_cons_succ, i64_w, i32_w]
                    rfl
                  refine pure_ (i := 14) (N := some 35) (v := undef) (a' := ?_) #[true, true, true, true, true, true, true, true, true, true, true, true, true, true, true, false, false, false, false, false, false] rfl rfl (any_of HT_.out (by kernel_rfl)) (fun _ _ _ h => h) (Or.inr ⟨by rfl, rfl⟩) ?_ ?_
                  rotate_left
                  · simp only [Act.put, List.setIfInBounds_toArray, List.set_cons_zero, List.set_cons_succ, i64_w, i32_w]
                    rfl
                  refine pure_ (i := 15) (N := some 36) (v := undef) (a' := ?_) #[true, true, true, true, true, true, true, true, true, true, true, true, true, true, true, true, false, false, false, false, false] rfl rfl (any_of HT_.out (by kernel_rfl)) (fun _ _ _ h => h) (Or.inr ⟨by rfl, rfl⟩) ?_ ?_
                  rotate_left
                  · simp only [Act.put, List.setIfInBounds_toArray, List.set_cons_zero, List.set_cons_succ, i64_w, i32_w]
                    rfl
                  refine pure_ (i := 16) (N := some 37) (v := undef) (a' := ?_) #[true, true, true, true, true, true, true, true, true, true, true, true, true, true, true, true, true, false, false, false, false] rfl rfl (any_of HT_.out (by kernel_rfl)) (fun _ _ _ h => h) (Or.inr ⟨by rfl, rfl⟩) ?_ ?_
                  rotate_left
                  · simp only [Act.put, List.setIfInBounds_toArray, List.set_cons_zero, List.set_cons_succ, i64_w, i32_w]
                    rfl
                  refine pure_ (i := 17) (N := some 38) (v := undef) (a' := ?_) #[true, true, true, true, true, true, true, true, true, true, true, true, true, true, true, true, true, true, false, false, false] rfl rfl (any_of HT_.out (by kernel_rfl)) (fun _ _ _ h => h) (Or.inr ⟨by rfl, rfl⟩) ?_ ?_
                  rotate_left
                  · simp only [Act.put, List.setIfInBounds_toArray, List.set_cons_zero, List.set_cons_succ, i64_w, i32_w]
                    rfl
                  refine pure_ (i := 18) (N := some 39) (v := undef) (a' := ?_) #[true, true, true, true, true, true, true, true, true, true, true, true, true, true, true, true, true, true, true, false, false] rfl rfl (any_of HT_.out (by kernel_rfl)) (fun _ _ _ h => h) (Or.inr ⟨by rfl, rfl⟩) ?_ ?_
                  rotate_left
                  · simp only [Act.put, List.setIfInBounds_toArray, List.set_cons_zero, List.set_cons_succ, i64_w, i32_w]
                    rfl
                  refine pure_ (i := 19) (N := some 40) (v := undef) (a' := ?_) #[true, true, true, true, true, true, true, true, true, true, true, true, true, true, true, true, true, true, true, true, false] rfl rfl (any_of HT_.out (by kernel_rfl)) (fun _ _ _ h => h) (Or.inr ⟨by rfl, rfl⟩) ?_ ?_
                  rotate_left
                  · simp only [Act.put, List.setIfInBounds_toArray, List.set_cons_zero, List.set_cons_succ, i64_w, i32_w]
                    rfl
                  refine pure_ (i := 20) (N := some 41) (v := ?_) (a' := ?_) #[true, true, true, true, true, true, true, true, true, true, true, true, true, true, true, true, true, true, true, true, true] rfl rfl (any_of HT_.out (by kernel_rfl)) (fun _ _ _ h => h) (Or.inl ⟨by rfl, ?_⟩) ?_ ?_
                  rotate_left
                  · intro w'
                    go_simp
                    with_reducible rfl
                  rotate_left
                  · simp only [Act.put, List.setIfInBounds_toArray, List.set_cons_zero, List.set_cons_succ, i64_w, i32_w]
                    rfl
                  refine done_ (done_of HT_.out (by kernel_rfl)) ?_
                  try go_wp2
                  go_roundg k1
                  case measure => have := HK1.out; omega
                  case rel => exact ⟨(x9_1), (wrap64 (x17_1 + 1)), (by first | rfl | (simp; done) | (simp [*]; done)), H', ⟨by have := HK1.out; omega⟩, ⟨by (with_reducible repeat (first | apply Kd.R_alloc | apply Kd.R_drewN | apply Kd.R_drew)); exact HO_9.out⟩, ⟨by (with_reducible repeat (first | apply Kd.R_alloc | apply Kd.R_drewN | apply Kd.R_drew)); exact HO_15.out⟩, ⟨by repeat (first | (with_reducible first | exact HB.out | apply below_alloc | apply pw_below_drewN | apply below_drew1) | exact HB.out)⟩⟩
              · rw [if_neg c12] at H
                exact absurd H (by simp)
            · rw [if_neg c11] at H
              exact absurd H (by simp)
          · rw [if_neg c10] at H
            exact absurd H (by simp)
        · rw [if_neg c9] at H
          exact absurd H (by simp)
      · rw [if_neg c8] at H
        have c8b0 : decide (x17_1 < (t504.length : Int)) = false := decide_eq_false c8
        clear c8
        obtain rfl := Option.some.inj H
        go_wp2
        go_ret
        exact ⟨_, by first | rfl | (simp [errW_none, errW_some] <;> rfl) | (simp [*, errW_none, errW_some] <;> rfl), by (with_reducible repeat (first | apply Kd.R_alloc | apply Kd.R_drewN | apply Kd.R_drew)); exact Kd.R_mono HO_9.out (fun _ hk => trivial), by repeat (first | (with_reducible first | exact HB.out | apply below_alloc | apply pw_below_drewN | apply below_drew1) | exact HB.out)⟩
end Go.Proofs.Ytedegfbheihopaa.P

namespace Go.Proofs.Ytedegfbheihopaa.P
open Go.RowKit Go.Proofs.YtedegfbheihopaaW.PrintWords Go.Proofs.YtedegfbheihopaaW.PrintLast Go.Proofs.YtedegfbheihopaaW.PrintMore
attribute [local go_sem] max2_int min2_int max_two min_two max_three min_three max_four min_four   -- for this text's walks alone
set_option linter.unusedVariables false
set_option linter.unusedSimpArgs false
def impl_treeAt.l0 : Nat → Int → List (S79) → Int → List Int → List Int → Int → Int → Option (List Int)
  | 0, _, _, _, _, _, _, _ => none
  | k + 1, x0, x1, x2, x7, x8, x18, x19 => if x19 < x18 then (if 0 ≤ x19 then (if x19 < (x8.length : Int) then ((some (x8.set (x19 : Int).toNat (-1) : List Int)).bind fun y521 => ((impl_hops.f k x0 x1 x19 x7).bind fun t522 => (if x19 = x2 then (impl_treeAt.l0 k x0 x1 x2 x7 y521 x18 (wrap64 (x19 + 1))) else (if (t522.length : Int) > 0 then (if 0 < (t522.length : Int) then (impl_treeAt.l0 k x0 x1 x2 x7 (y521.set (x19 : Int).toNat (rd t522 0)) x18 (wrap64 (x19 + 1))) else (none)) else (impl_treeAt.l0 k x0 x1 x2 x7 y521 x18 (wrap64 (x19 + 1))))))) else (none)) else (none)) else (some x8)
def impl_treeAt.f (k : Nat) (a0 : Int) (l1 : List (S79)) (a2 : Int) : Option (List Int) := (impl_fars.f k a0 l1 a2).bind fun t515 => (if 0 ≤ a0 then (if (a0 : Int).toNat ≤ 35184372088832 then ((some (List.replicate (a0 : Int).toNat 0 : List Int)).bind fun y518 => (impl_treeAt.l0 k a0 l1 a2 t515 y518 (y518.length : Int) 0)) else (none)) else (none))
set_option maxHeartbeats 8000000 in
set_option maxRecDepth 100000 in
theorem impl_treeAt.calls (k : Nat) (a0 : Int) (A1 : Option Addr) (c1 : Nat) (l1 : List (S79)) (a2 : Int) (r : List Int) (w : World) (hr1 : Kd.C k79 w A1 l1.length l1) (hc1 : l1.length ≤ c1) (h : impl_treeAt.f k a0 l1 a2 = some r) :
    Calls Try.prog 77 #[.int .i64 a0, .slice A1 l1.length c1, .int .i64 a2] w fun e w' => ∃ v0_ : Value, e = .returned (v0_) ∧ Kd.R (Kd.int .i64) 3 w' w.heap.size (fun _ => True) v0_ r ∧ Below w.heap.size w w' := by
  have HR1 := Aside0.mk hr1
  have HC1 := Aside0.mk hc1
  clear hr1 hc1
  have HB := Aside0.mk (Below.refl w.heap.size w)
  have H : ((impl_fars.f k a0 l1 a2).bind fun t515 => (if 0 ≤ a0 then (if (a0 : Int).toNat ≤ 35184372088832 then ((some (List.replicate (a0 : Int).toNat 0 : List Int)).bind fun y518 => (impl_treeAt.l0 k a0 l1 a2 t515 y518 (y518.length : Int) 0)) else (none)) else (none))) = some r := h
  clear h
  replace H := Option.bind_eq_some_iff.mp H
  obtain ⟨t515, A40, H⟩ := H
  replace H : (if 0 ≤ a0 then (if (a0 : Int).toNat ≤ 35184372088832 then ((some (List.replicate (a0 : Int).toNat 0 : List Int)).bind fun y518 => (impl_treeAt.l0 k a0 l1 a2 t515 y518 (y518.length : Int) 0)) else (none)) else (none)) = some r := H
  have A4 := Aside0.mk A40
  clear A40
  by_cases c5 : 0 ≤ a0
  · rw [if_pos c5] at H
    have c5b0 := eq_true c5
    have c5b1 : decide (0 ≤ a0) = true := decide_eq_true c5
    clear c5
    by_cases c6 : (a0 : Int).toNat ≤ 35184372088832
    · rw [if_pos c6] at H
      have c6b0 := eq_true c6
      have c6b1 : decide ((a0 : Int).toNat ≤ 35184372088832) = true := decide_eq_true c6
      clear c6
      obtain ⟨y518, hy518⟩ : ∃ y_ : List Int, y_ = (List.replicate (a0 : Int).toNat 0) := ⟨_, rfl⟩
      replace H : (impl_treeAt.l0 k a0 l1 a2 t515 y518 (y518.length : Int) 0) = some r := by first | (rw [hy518]; with_reducible exact H) | (have H2_ := (Option.bind_some _ _).symm.trans H; rw [hy518]; with_reducible exact H2_) | (have H2_ := (Option.bind_some _ _).symm.trans H; with_reducible exact H2_) | with_reducible exact H | (rw [hy518]; exact H) | exact H
      have Ny518 := Aside0.mk hy518
      clear hy518
      have H' := Aside0.mk H
      clear H
      go_enter Try.func77, Try.ntmps77
      go_wp2_with (first | ((with_reducible refine gate_callee (f := 85) rfl ?_); refine goesL_ (some 14) rfl rfl Try.func85 (by kernel_rfl) rfl #[.int .i64 a0, .slice A1 l1.length c1, .int .i64 a2] rfl (by (try simp only [List.map_toArray, List.map_cons, List.map_nil]); first | done | rfl | (simp only [List.length_drop, List.length_take]; rfl)) ?_; (with_reducible refine (impl_fars.calls k a0 _ _ l1 a2 t515 _ ?side1 ?side2 A4.out).mono ?_); (case side1 => repeat (first | exact HR1.out | (with_reducible refine Kd.C_alloc ?_ _) | (with_reducible refine Kd.C_drewN ?_ _) | (with_reducible refine Kd.C_drew ?_))); (case side2 => exact HC1.out); rintro e w7 ⟨v516, rfl, ho0, hb⟩; refine ⟨_, rfl, ?_⟩; have n0_ := Aside0.mk (Kd.R_lower ho0 (below_size (by repeat (first | (with_reducible first | exact HB.out | apply below_alloc | apply pw_below_drewN | apply below_drew1) | exact HB.out)))); have n1_ := Aside0.mk (below_step (by repeat (first | (with_reducible first | exact HB.out | apply below_alloc | apply pw_below_drewN | apply below_drew1) | exact HB.out)) hb); clear HB; have HO517 := n0_; have HB := n1_; clear n0_ n1_; (try clear hb); (try clear hb2); (try clear hk); (try clear hi); (try clear ho0)) | ((with_reducible refine gate_dst (N := 16) rfl ?_); (try (refine gate_guard (by rfl) ?_; dsimp only)); refine Kd.R_make (Kd.int .i64) _ 3 rfl (N := 16) rfl 22 _ _ rfl a0 rfl rfl Try.underlying22 (.int .i64 0) 8 info3 rfl (by decide) (by omega) 0 (ok := fun _ => True) (okp := fun _ => True) rfl (fun _ hk => hk) trivial (of_decide_eq_true (by first | (with_reducible assumption) | assumption)) (Nat.le_trans (Nat.mul_le_mul_right _ (of_decide_eq_true (by first | (with_reducible assumption) | assumption) : a0.toNat ≤ 35184372088832)) (by omega)) (Below.refl _ _) (Nat.le_refl _) ?_; intro v519 w8 ho9 hb hg_ hnew_; clear hg_ hnew_; (first | rw [← Ny518.out] at ho9 | (simp only [Int.reduceToNat] at ho9; rw [← Ny518.out] at ho9)); have n0_ := Aside0.mk (Kd.R_elder' (by (with_reducible repeat (first | apply Kd.R_alloc | apply Kd.R_drewN | apply Kd.R_drew)); exact HO517.out) (Kd.R_base ho9) hb); have n1_ := Aside0.mk (Kd.R_lower (Kd.R_new' ho9 (Kd.R_lt (by (with_reducible repeat (first | apply Kd.R_alloc | apply Kd.R_drewN | apply Kd.R_drew)); exact HO517.out))) (below_size (by repeat (first | (with_reducible first | exact HB.out | apply below_alloc | apply pw_below_drewN | apply below_drew1) | exact HB.out)))); have n2_ := Aside0.mk (below_step (by repeat (first | (with_reducible first | exact HB.out | apply below_alloc | apply pw_below_drewN | apply below_drew1) | exact HB.out)) hb); clear HO517; clear HB; have HO517 := n0_; have HO520 := n1_; have HB := n2_; clear n0_ n1_ n2_; clear hb ho9; obtain ⟨Ao10, co10, eo10⟩ := Kd.R_slice HO520.out; subst eo10))
      go_loopg [19] k (fun kq v19 w' => ∃ (x8_1 : List Int) (x19_1 : Int), v19 = .int .i64 x19_1 ∧ Aside0 (impl_treeAt.l0 kq a0 l1 a2 t515 x8_1 (y518.length : Int) x19_1 = some r) ∧ Aside0 (kq ≤ k) ∧ Aside0 (Kd.R (Kd.int .i64) 3 w' w.heap.size (fun k_ => some k_ ≠ ((.slice Ao10 y518.length co10) : Value).ownBlock) v516 t515) ∧ Aside0 (Kd.R (Kd.int .i64) 3 w' w.heap.size (fun k_ => some k_ ≠ (v516 : Value).ownBlock) (.slice Ao10 y518.length co10) x8_1) ∧ Aside0 (Below w.heap.size w w'))
      case atStart => exact ⟨(y518), (0), (by first | rfl | (simp; done) | (simp [*]; done)), H', ⟨Nat.le_refl _⟩, ⟨by (with_reducible repeat (first | apply Kd.R_alloc | apply Kd.R_drewN | apply Kd.R_drew)); exact Kd.R_mono HO517.out (fun _ hk => hk.2)⟩, ⟨by (with_reducible repeat (first | apply Kd.R_alloc | apply Kd.R_drewN | apply Kd.R_drew)); exact Kd.R_mono HO520.out (fun _ hk => hk.2)⟩, ⟨by repeat (first | (with_reducible first | exact HB.out | apply below_alloc | apply pw_below_drewN | apply below_drew1) | exact HB.out)⟩⟩
      case round =>
        clear H'
        try clear c1
        try clear p2
        try clear c5
        try clear c5b0
        try clear c5b1
        try clear c6
        try clear c6b0
        try clear c6b1
        try clear c7
        try clear c8
        obtain ⟨x8_1, x19_1, rfl, HA, HK1, HO_7, HO_8, HB⟩ := hrel
        have hl8_1 := (Kd.R_reads' HO_8.out).1
        rw [hl8_1] at HO_8
        (try simp only [hl8_1])
        (try simp only [hl8_1] at HO_7)
        cases gk with
        | zero => exact absurd HA.out (by simp [impl_treeAt.l0])
        | succ k1 =>
          have H := HA.out
          clear HA
          simp only [impl_treeAt.l0] at H
          by_cases c11 : x19_1 < (y518.length : Int)
          · rw [if_pos c11] at H
            have c11b0 : decide (x19_1 < (y518.length : Int)) = true := decide_eq_true c11
            (try (have c11b0L := c11b0; simp only [hl8_1] at c11b0L))
            clear c11
            by_cases c12 : 0 ≤ x19_1
            · rw [if_pos c12] at H
              have c12b0 : decide (0 ≤ x19_1) = true := decide_eq_true c12
              clear c12
              by_cases c13 : x19_1 < (x8_1.length : Int)
              · rw [if_pos c13] at H
                have c13b0 : decide (x19_1 < (x8_1.length : Int)) = true := decide_eq_true c13
                (try (have c13b0L := c13b0; simp only [hl8_1] at c13b0L))
                clear c13
                obtain ⟨y521, hy521⟩ : ∃ y_ : List Int, y_ = (x8_1.set (x19_1 : Int).toNat (-1)) := ⟨_, rfl⟩
                replace H : ((impl_hops.f k1 a0 l1 x19_1 t515).bind fun t522 => (if x19_1 = a2 then (impl_treeAt.l0 k1 a0 l1 a2 t515 y521 (y518.length : Int) (wrap64 (x19_1 + 1))) else (if (t522.length : Int) > 0 then (if 0 < (t522.length : Int) then (impl_treeAt.l0 k1 a0 l1 a2 t515 (y521.set (x19_1 : Int).toNat (rd t522 0)) (y518.length : Int) (wrap64 (x19_1 + 1))) else (none)) else (impl_treeAt.l0 k1 a0 l1 a2 t515 y521 (y518.length : Int) (wrap64 (x19_1 + 1)))))) = some r := by first | (rw [hy521]; with_reducible exact H) | (have H2_ := (Option.bind_some _ _).symm.trans H; rw [hy521]; with_reducible exact H2_) | (have H2_ := (Option.bind_some _ _).symm.trans H; with_reducible exact H2_) | with_reducible exact H | (rw [hy521]; exact H) | exact H
                have Ny521 := Aside0.mk hy521
                clear hy521
                replace H := Option.bind_eq_some_iff.mp H
                obtain ⟨t522, A150, H⟩ := H
                replace H : (if x19_1 = a2 then (impl_treeAt.l0 k1 a0 l1 a2 t515 y521 (y518.length : Int) (wrap64 (x19_1 + 1))) else (if (t522.length : Int) > 0 then (if 0 < (t522.length : Int) then (impl_treeAt.l0 k1 a0 l1 a2 t515 (y521.set (x19_1 : Int).toNat (rd t522 0)) (y518.length : Int) (wrap64 (x19_1 + 1))) else (none)) else (impl_treeAt.l0 k1 a0 l1 a2 t515 y521 (y518.length : Int) (wrap64 (x19_1 + 1))))) = some r := H
                have A15 := Aside0.mk A150
                clear A150
                by_cases c16 : x19_1 = a2
                · rw [if_pos c16] at H
                  have c16b0 : (x19_1 == a2) = true := beq_iff_eq.mpr c16
                  have c16b1 : (x19_1 != a2) = false := bne_eq_false_iff_eq.mpr c16
                  clear c16
                  have H' := Aside0.mk H
                  clear H
                  have p14 : 0 ≤ (x19_1 : Int) := of_decide_eq_true (by first | (with_reducible assumption) | assumption)
                  have q14 : (x19_1 : Int) < ((x8_1.length : Int) : Int) := of_decide_eq_true (by first | (with_reducible assumption) | assumption)
                  obtain ⟨go14, co14, eo14, gb14, gl14, cl14, HG14⟩ := Kd.R_form HO_8.out (by omega)
                  (first | cases eo14 | (injection eo14 with ea_ en_ ec_; (first | subst ea_ | (injection ea_ with ea_; subst ea_)); subst ec_; clear en_))
                  have GB14 := Aside0.mk gb14
                  have GG14 := Aside0.mk HG14
                  clear gb14 gl14 HG14
                  obtain ⟨hx14_0, hf14_0⟩ := Kd.R_celln 0 HO_8.out (x19_1 : Int) p14 q14
                  replace p14 := eq_true p14
                  replace q14 := eq_true q14
                  have HP17 := Kd.R_putg HO_8.out (x19_1 : Int) (-1)
                  go_wp2_with (first | ((with_reducible refine gate_store (t := 3) (p := 24) rfl ?_); refine store_event (t := 3) (p := 24) (v := ?vo_w18) (w1 := (wr.setCell ⟨go14, (x19_1 : Int).toNat, none⟩ (.int .i64 (-1)))) ?hg ?ho ?hn ?hr ?_; (case ho => rfl); (case hg => rfl); (case hn => rfl); (case hr => first | (go_simp; done) | (go_simp; rfl)); intro w18 hw; have hg : wr.grownBy w18 (some go14) := (by rw [hw]; exact HP17.2); have hp_ : Kd.R (Kd.int .i64) 3 w18 w.heap.size (fun k_ => some k_ ≠ (v516 : Value).ownBlock) (.slice (some ⟨go14, 0, none⟩) x8_1.length co10) y521 := (by rw [hw, Ny521.out]; exact HP17.1); clear HP17; have n0_ := Aside0.mk (Kd.R_after (v := (.slice (some ⟨go14, 0, none⟩) x8_1.length co10)) (v1 := (.slice (some ⟨go14, 0, none⟩) x8_1.length co10)) (ok := (fun _ => True)) (by (with_reducible repeat (first | apply Kd.R_alloc | apply Kd.R_drewN | apply Kd.R_drew)); exact Kd.R_mono HO_7.out (fun _ hk => ⟨trivial, hk⟩)) hg (.inl rfl)); have n1_ := Aside0.mk (hp_); have n2_ := Aside0.mk ((by rw [hw]; exact below_set (HB.out) GB14.out : Below w.heap.size w w18)); clear HO_7; clear HO_8; clear HB; have HO_7 := n0_; have HO_8 := n1_; have HB := n2_; clear n0_ n1_ n2_; clear hg hw hp_; obtain ⟨Ao19, co19, eo19⟩ := Kd.R_slice HO_7.out; subst eo19) | ((with_reducible refine gate_callee (f := 98) rfl ?_); refine goesL_ (some 29) rfl rfl Try.func98 (by kernel_rfl) rfl #[.int .i64 a0, .slice A1 l1.length c1, .int .i64 x19_1, .slice Ao19 t515.length co19] rfl (by (try simp only [List.map_toArray, List.map_cons, List.map_nil]); first | done | rfl | (simp only [List.length_drop, List.length_take]; rfl)) ?_; (with_reducible refine (impl_hops.calls k1 a0 _ _ l1 x19_1 _ _ t515 t522 _ ?side1 ?side2 ?side3 ?side4 A15.out).mono ?_); (case side1 => repeat (first | exact (Kd.C_below HR1.out HB.out) | (with_reducible refine Kd.C_alloc ?_ _) | (with_reducible refine Kd.C_drewN ?_ _) | (with_reducible refine Kd.C_drew ?_))); (case side2 => exact HC1.out); (case side3 => repeat (first | exact (Kd.R_reads' HO_7.out).2.2 | (with_reducible refine Kd.C_alloc ?_ _) | (with_reducible refine Kd.C_drewN ?_ _) | (with_reducible refine Kd.C_drew ?_))); (case side4 => exact (Kd.R_reads' HO_7.out).2.1); rintro e w20 ⟨v523, rfl, ho0, hb⟩; refine ⟨_, rfl, ?_⟩; have n0_ := Aside0.mk (Kd.R_elder' (by (with_reducible repeat (first | apply Kd.R_alloc | apply Kd.R_drewN | apply Kd.R_drew)); exact HO_7.out) (Kd.R_base ho0) hb); have n1_ := Aside0.mk (Kd.R_elder' (by (with_reducible repeat (first | apply Kd.R_alloc | apply Kd.R_drewN | apply Kd.R_drew)); exact HO_8.out) (Kd.R_base ho0) hb); have n2_ := Aside0.mk (Kd.R_lower (Kd.R_new' (Kd.R_new' ho0 (Kd.R_lt (by (with_reducible repeat (first | apply Kd.R_alloc | apply Kd.R_drewN | apply Kd.R_drew)); exact HO_7.out))) (Kd.R_lt (by (with_reducible repeat (first | apply Kd.R_alloc | apply Kd.R_drewN | apply Kd.R_drew)); exact HO_8.out))) (below_size (by repeat (first | (with_reducible first | exact HB.out | apply below_alloc | apply pw_below_drewN | apply below_drew1) | exact HB.out)))); have n3_ := Aside0.mk (below_step (by repeat (first | (with_reducible first | exact HB.out | apply below_alloc | apply pw_below_drewN | apply below_drew1) | exact HB.out)) hb); clear HO_7; clear HO_8; clear HB; have HO_7 := n0_; have HO_8 := n1_; have HO524 := n2_; have HB := n3_; clear n0_ n1_ n2_ n3_; (try clear hb); (try clear hb2); (try clear hk); (try clear hi); (try clear ho0)))
                  (try simp only [← hl8_1])
                  go_roundg k1
                  case measure => have := HK1.out; omega
                  case rel => exact ⟨(y521), (wrap64 (x19_1 + 1)), (by first | rfl | (simp; done) | (simp [*]; done)), H', ⟨by have := HK1.out; omega⟩, ⟨by (try simp only [hl8_1]); (with_reducible repeat (first | apply Kd.R_alloc | apply Kd.R_drewN | apply Kd.R_drew)); exact Kd.R_mono HO_7.out (fun _ hk => hk.1.2)⟩, ⟨by (try simp only [hl8_1]); (with_reducible repeat (first | apply Kd.R_alloc | apply Kd.R_drewN | apply Kd.R_drew)); exact Kd.R_mono HO_8.out (fun _ hk => hk.1)⟩, ⟨by repeat (first | (with_reducible first | exact HB.out | apply below_alloc | apply pw_below_drewN | apply below_drew1) | exact HB.out)⟩⟩
                · rw [if_neg c16] at H
                  have c16b0 : (x19_1 == a2) = false := beq_eq_false_iff_ne.mpr c16
                  have c16b1 : (x19_1 != a2) = true := bne_iff_ne.mpr c16
                  by_cases c21 : (t522.length : Int) > 0
                  · rw [if_pos c21] at H
                    have c21b0 : decide (0 < (t522.length : Int)) = true := decide_eq_true c21
                    (try (have c21b0L := c21b0; simp only [hl8_1] at c21b0L))
                    have c21b1 : decide (0 < t522.length) = true := decide_eq_true (by omega)
                    clear c21
                    by_cases c22 : 0 < (t522.length : Int)
                    · rw [if_pos c22] at H
                      have c22b0 : decide (0 < (t522.length : Int)) = true := decide_eq_true c22
                      (try (have c22b0L := c22b0; simp only [hl8_1] at c22b0L))
                      have c22b1 : decide (0 < t522.length) = true := decide_eq_true (by omega)
                      clear c22
                      obtain ⟨y526, hy526⟩ : ∃ y_ : List Int, y_ = (y521.set (x19_1 : Int).toNat (rd t522 0)) := ⟨_, rfl⟩
                      replace H : (impl_treeAt.l0 k1 a0 l1 a2 t515 y526 (y518.length : Int) (wrap64 (x19_1 + 1))) = some r := by first | (rw [hy526]; with_reducible exact H) | (have H2_ := (Option.bind_some _ _).symm.trans H; rw [hy526]; with_reducible exact H2_) | (have H2_ := (Option.bind_some _ _).symm.trans H; with_reducible exact H2_) | with_reducible exact H | (rw [hy526]; exact H) | exact H
                      have Ny526 := Aside0.mk hy526
                      clear hy526
                      have H' := Aside0.mk H
                      clear H
                      have p14 : 0 ≤ (x19_1 : Int) := of_decide_eq_true (by first | (with_reducible assumption) | assumption)
                      have q14 : (x19_1 : Int) < ((x8_1.length : Int) : Int) := of_decide_eq_true (by first | (with_reducible assumption) | assumption)
                      obtain ⟨go14, co14, eo14, gb14, gl14, cl14, HG14⟩ := Kd.R_form HO_8.out (by omega)
                      (first | cases eo14 | (injection eo14 with ea_ en_ ec_; (first | subst ea_ | (injection ea_ with ea_; subst ea_)); subst ec_; clear en_))
                      have GB14 := Aside0.mk gb14
                      have GG14 := Aside0.mk HG14
                      clear gb14 gl14 HG14
                      obtain ⟨hx14_0, hf14_0⟩ := Kd.R_celln 0 HO_8.out (x19_1 : Int) p14 q14
                      replace p14 := eq_true p14
                      replace q14 := eq_true q14
                      have HP24 := Kd.R_putg HO_8.out (x19_1 : Int) (-1)
                      go_wp2_with (first | ((with_reducible refine gate_store (t := 3) (p := 24) rfl ?_); refine store_event (t := 3) (p := 24) (v := ?vo_w25) (w1 := (wr.setCell ⟨go14, (x19_1 : Int).toNat, none⟩ (.int .i64 (-1)))) ?hg ?ho ?hn ?hr ?_; (case ho => rfl); (case hg => rfl); (case hn => rfl); (case hr => first | (go_simp; done) | (go_simp; rfl)); intro w25 hw; have hg : wr.grownBy w25 (some go14) := (by rw [hw]; exact HP24.2); have hp_ : Kd.R (Kd.int .i64) 3 w25 w.heap.size (fun k_ => some k_ ≠ (v516 : Value).ownBlock) (.slice (some ⟨go14, 0, none⟩) x8_1.length co10) y521 := (by rw [hw, Ny521.out]; exact HP24.1); clear HP24; have n0_ := Aside0.mk (Kd.R_after (v := (.slice (some ⟨go14, 0, none⟩) x8_1.length co10)) (v1 := (.slice (some ⟨go14, 0, none⟩) x8_1.length co10)) (ok := (fun _ => True)) (by (with_reducible repeat (first | apply Kd.R_alloc | apply Kd.R_drewN | apply Kd.R_drew)); exact Kd.R_mono HO_7.out (fun _ hk => ⟨trivial, hk⟩)) hg (.inl rfl)); have n1_ := Aside0.mk (hp_); have n2_ := Aside0.mk ((by rw [hw]; exact below_set (HB.out) GB14.out : Below w.heap.size w w25)); clear HO_7; clear HO_8; clear HB; have HO_7 := n0_; have HO_8 := n1_; have HB := n2_; clear n0_ n1_ n2_; clear hg hw hp_; obtain ⟨Ao26, co26, eo26⟩ := Kd.R_slice HO_7.out; subst eo26) | ((with_reducible refine gate_callee (f := 98) rfl ?_); refine goesL_ (some 29) rfl rfl Try.func98 (by kernel_rfl) rfl #[.int .i64 a0, .slice A1 l1.length c1, .int .i64 x19_1, .slice Ao26 t515.length co26] rfl (by (try simp only [List.map_toArray, List.map_cons, List.map_nil]); first | done | rfl | (simp only [List.length_drop, List.length_take]; rfl)) ?_; (with_reducible refine (impl_hops.calls k1 a0 _ _ l1 x19_1 _ _ t515 t522 _ ?side1 ?side2 ?side3 ?side4 A15.out).mono ?_); (case side1 => repeat (first | exact (Kd.C_below HR1.out HB.out) | (with_reducible refine Kd.C_alloc ?_ _) | (with_reducible refine Kd.C_drewN ?_ _) | (with_reducible refine Kd.C_drew ?_))); (case side2 => exact HC1.out); (case side3 => repeat (first | exact (Kd.R_reads' HO_7.out).2.2 | (with_reducible refine Kd.C_alloc ?_ _) | (with_reducible refine Kd.C_drewN ?_ _) | (with_reducible refine Kd.C_drew ?_))); (case side4 => exact (Kd.R_reads' HO_7.out).2.1); rintro e w27 ⟨v523, rfl, ho0, hb⟩; refine ⟨_, rfl, ?_⟩; have n0_ := Aside0.mk (Kd.R_elder' (by (with_reducible repeat (first | apply Kd.R_alloc | apply Kd.R_drewN | apply Kd.R_drew)); exact HO_7.out) (Kd.R_base ho0) hb); have n1_ := Aside0.mk (Kd.R_elder' (by (with_reducible repeat (first | apply Kd.R_alloc | apply Kd.R_drewN | apply Kd.R_drew)); exact HO_8.out) (Kd.R_base ho0) hb); have n2_ := Aside0.mk (Kd.R_lower (Kd.R_new' (Kd.R_new' ho0 (Kd.R_lt (by (with_reducible repeat (first | apply Kd.R_alloc | apply Kd.R_drewN | apply Kd.R_drew)); exact HO_7.out))) (Kd.R_lt (by (with_reducible repeat (first | apply Kd.R_alloc | apply Kd.R_drewN | apply Kd.R_drew)); exact HO_8.out))) (below_size (by repeat (first | (with_reducible first | exact HB.out | apply below_alloc | apply pw_below_drewN | apply below_drew1) | exact HB.out)))); have n3_ := Aside0.mk (below_step (by repeat (first | (with_reducible first | exact HB.out | apply below_alloc | apply pw_below_drewN | apply below_drew1) | exact HB.out)) hb); clear HO_7; clear HO_8; clear HB; have HO_7 := n0_; have HO_8 := n1_; have HO524 := n2_; have HB := n3_; clear n0_ n1_ n2_ n3_; (try clear hb); (try clear hb2); (try clear hk); (try clear hi); (try clear ho0); obtain ⟨Ao28, co28, eo28⟩ := Kd.R_slice HO524.out; subst eo28; have p525 : 0 ≤ (0 : Int) := (by omega); have q525 : 0 < (t522.length : Int) := of_decide_eq_true (by first | (with_reducible assumption) | assumption); obtain ⟨ad525, e525, hx525_0⟩ := Kd.at_int (Kd.R_reads' HO524.out).2.2 0 p525 q525; cases e525; have qi525 : (0 < t522.length) = True := eq_true (by omega); (try rw [show ((0 : Int)).toNat = 0 from rfl] at hx525_0); (try rw [Addr.add_zero'] at hx525_0); replace p525 := eq_true p525; replace q525 := eq_true q525; have p23 : 0 ≤ (x19_1 : Int) := of_decide_eq_true (by first | (with_reducible assumption) | assumption); have q23 : (x19_1 : Int) < ((x8_1.length : Int) : Int) := of_decide_eq_true (by first | (with_reducible assumption) | assumption); obtain ⟨hx23_0, hf23_0⟩ := Kd.R_celln 0 HO_8.out (x19_1 : Int) p23 q23; replace p23 := eq_true p23; replace q23 := eq_true q23; obtain ⟨hy29_, hz29_⟩ := Kd.R_celln 0 HO_8.out (x19_1 : Int) (of_decide_eq_true (by first | (with_reducible assumption) | assumption)) (of_decide_eq_true (by first | (with_reducible assumption) | assumption)); have HP29 := Kd.R_putg HO_8.out (x19_1 : Int) (rd t522 0)) | ((with_reducible refine gate_store (t := 3) (p := 43) rfl ?_); refine store_event (t := 3) (p := 43) (v := ?vo_w30) (w1 := (w27.setCell ⟨go14, (x19_1 : Int).toNat, none⟩ (.int .i64 (rd t522 0)))) ?hg ?ho ?hn ?hr ?_; (case ho => rfl); (case hg => rfl); (case hn => rfl); (case hr => first | (go_simp; done) | (go_simp; rfl)); intro w30 hw; have hg : w27.grownBy w30 (some go14) := (by rw [hw]; exact HP29.2); have hp_ : Kd.R (Kd.int .i64) 3 w30 w.heap.size (fun k_ => some k_ ≠ (.slice Ao26 t515.length co26 : Value).ownBlock ∧ some k_ ≠ (.slice (some ad525) t522.length co28 : Value).ownBlock) (.slice (some ⟨go14, 0, none⟩) x8_1.length co10) y526 := (by rw [hw, Ny526.out]; exact HP29.1); clear HP29; have n0_ := Aside0.mk (Kd.R_after (v := (.slice (some ⟨go14, 0, none⟩) x8_1.length co10)) (v1 := (.slice (some ⟨go14, 0, none⟩) x8_1.length co10)) (ok := (fun k_ => some k_ ≠ (.slice (some ad525) t522.length co28 : Value).ownBlock)) (by (with_reducible repeat (first | apply Kd.R_alloc | apply Kd.R_drewN | apply Kd.R_drew)); exact Kd.R_mono HO_7.out (fun _ hk => ⟨hk.2, hk.1.2⟩)) hg (.inl rfl)); have n1_ := Aside0.mk (hp_); have n2_ := Aside0.mk (Kd.R_after (v := (.slice (some ⟨go14, 0, none⟩) x8_1.length co10)) (v1 := (.slice (some ⟨go14, 0, none⟩) x8_1.length co10)) (ok := (fun k_ => some k_ ≠ (.slice Ao26 t515.length co26 : Value).ownBlock)) (by (with_reducible repeat (first | apply Kd.R_alloc | apply Kd.R_drewN | apply Kd.R_drew)); exact Kd.R_mono HO524.out (fun _ hk => ⟨hk.1.2, hk.2⟩)) hg (.inl rfl)); have n3_ := Aside0.mk ((by rw [hw]; exact below_set (HB.out) GB14.out : Below w.heap.size w w30)); clear HO_7; clear HO_8; clear HO524; clear HB; have HO_7 := n0_; have HO_8 := n1_; have HO524 := n2_; have HB := n3_; clear n0_ n1_ n2_ n3_; clear hg hw hp_))
                      (try simp only [← hl8_1])
                      go_roundg k1
                      case measure => have := HK1.out; omega
                      case rel => exact ⟨(y526), (wrap64 (x19_1 + 1)), (by first | rfl | (simp; done) | (simp [*]; done)), H', ⟨by have := HK1.out; omega⟩, ⟨by (try simp only [hl8_1]); (with_reducible repeat (first | apply Kd.R_alloc | apply Kd.R_drewN | apply Kd.R_drew)); exact Kd.R_mono HO_7.out (fun _ hk => hk.2)⟩, ⟨by (try simp only [hl8_1]); (with_reducible repeat (first | apply Kd.R_alloc | apply Kd.R_drewN | apply Kd.R_drew)); exact Kd.R_mono HO_8.out (fun _ hk => hk.1)⟩, ⟨by repeat (first | (with_reducible first | exact HB.out | apply below_alloc | apply pw_below_drewN | apply below_drew1) | exact HB.out)⟩⟩
                    · rw [if_neg c22] at H
                      exact absurd H (by simp)
                  · rw [if_neg c21] at H
                    have c21b0 : decide (0 < (t522.length : Int)) = false := decide_eq_false c21
                    (try (have c21b0L := c21b0; simp only [hl8_1] at c21b0L))
                    have c21b1 : decide (0 < t522.length) = false := decide_eq_false (by omega)
                    clear c21
                    have H' := Aside0.mk H
                    clear H
                    have p14 : 0 ≤ (x19_1 : Int) := of_decide_eq_true (by first | (with_reducible assumption) | assumption)
                    have q14 : (x19_1 : Int) < ((x8_1.length : Int) : Int) := of_decide_eq_true (by first | (with_reducible assumption) | assumption)
                    obtain ⟨go14, co14, eo14, gb14, gl14, cl14, HG14⟩ := Kd.R_form HO_8.out (by omega)
                    (first | cases eo14 | (injection eo14 with ea_ en_ ec_; (first | subst ea_ | (injection ea_ with ea_; subst ea_)); subst ec_; clear en_))
                    have GB14 := Aside0.mk gb14
                    have GG14 := Aside0.mk HG14
                    clear gb14 gl14 HG14
                    obtain ⟨hx14_0, hf14_0⟩ := Kd.R_celln 0 HO_8.out (x19_1 : Int) p14 q14
                    replace p14 := eq_true p14
                    replace q14 := eq_true q14
                    have HP31 := Kd.R_putg HO_8.out (x19_1 : Int) (-1)
                    go_wp2_with (first | ((with_reducible refine gate_store (t := 3) (p := 24) rfl ?_); refine store_event (t := 3) (p := 24) (v := ?vo_w32) (w1 := (wr.setCell ⟨go14, (x19_1 : Int).toNat, none⟩ (.int .i64 (-1)))) ?hg ?ho ?hn ?hr ?_; (case ho => rfl); (case hg => rfl); (case hn => rfl); (case hr => first | (go_simp; done) | (go_simp; rfl)); intro w32 hw; have hg : wr.grownBy w32 (some go14) := (by rw [hw]; exact HP31.2); have hp_ : Kd.R (Kd.int .i64) 3 w32 w.heap.size (fun k_ => some k_ ≠ (v516 : Value).ownBlock) (.slice (some ⟨go14, 0, none⟩) x8_1.length co10) y521 := (by rw [hw, Ny521.out]; exact HP31.1); clear HP31; have n0_ := Aside0.mk (Kd.R_after (v := (.slice (some ⟨go14, 0, none⟩) x8_1.length co10)) (v1 := (.slice (some ⟨go14, 0, none⟩) x8_1.length co10)) (ok := (fun _ => True)) (by (with_reducible repeat (first | apply Kd.R_alloc | apply Kd.R_drewN | apply Kd.R_drew)); exact Kd.R_mono HO_7.out (fun _ hk => ⟨trivial, hk⟩)) hg (.inl rfl)); have n1_ := Aside0.mk (hp_); have n2_ := Aside0.mk ((by rw [hw]; exact below_set (HB.out) GB14.out : Below w.heap.size w w32)); clear HO_7; clear HO_8; clear HB; have HO_7 := n0_; have HO_8 := n1_; have HB := n2_; clear n0_ n1_ n2_; clear hg hw hp_; obtain ⟨Ao33, co33, eo33⟩ := Kd.R_slice HO_7.out; subst eo33) | ((with_reducible refine gate_callee (f := 98) rfl ?_); refine goesL_ (some 29) rfl rfl Try.func98 (by kernel_rfl) rfl #[.int .i64 a0, .slice A1 l1.length c1, .int .i64 x19_1, .slice Ao33 t515.length co33] rfl (by (try simp only [List.map_toArray, List.map_cons, List.map_nil]); first | done | rfl | (simp only [List.length_drop, List.length_take]; rfl)) ?_; (with_reducible refine (impl_hops.calls k1 a0 _ _ l1 x19_1 _ _ t515 t522 _ ?side1 ?side2 ?side3 ?side4 A15.out).mono ?_); (case side1 => repeat (first | exact (Kd.C_below HR1.out HB.out) | (with_reducible refine Kd.C_alloc ?_ _) | (with_reducible refine Kd.C_drewN ?_ _) | (with_reducible refine Kd.C_drew ?_))); (case side2 => exact HC1.out); (case side3 => repeat (first | exact (Kd.R_reads' HO_7.out).2.2 | (with_reducible refine Kd.C_alloc ?_ _) | (with_reducible refine Kd.C_drewN ?_ _) | (with_reducible refine Kd.C_drew ?_))); (case side4 => exact (Kd.R_reads' HO_7.out).2.1); rintro e w34 ⟨v523, rfl, ho0, hb⟩; refine ⟨_, rfl, ?_⟩; have n0_ := Aside0.mk (Kd.R_elder' (by (with_reducible repeat (first | apply Kd.R_alloc | apply Kd.R_drewN | apply Kd.R_drew)); exact HO_7.out) (Kd.R_base ho0) hb); have n1_ := Aside0.mk (Kd.R_elder' (by (with_reducible repeat (first | apply Kd.R_alloc | apply Kd.R_drewN | apply Kd.R_drew)); exact HO_8.out) (Kd.R_base ho0) hb); have n2_ := Aside0.mk (Kd.R_lower (Kd.R_new' (Kd.R_new' ho0 (Kd.R_lt (by (with_reducible repeat (first | apply Kd.R_alloc | apply Kd.R_drewN | apply Kd.R_drew)); exact HO_7.out))) (Kd.R_lt (by (with_reducible repeat (first | apply Kd.R_alloc | apply Kd.R_drewN | apply Kd.R_drew)); exact HO_8.out))) (below_size (by repeat (first | (with_reducible first | exact HB.out | apply below_alloc | apply pw_below_drewN | apply below_drew1) | exact HB.out)))); have n3_ := Aside0.mk (below_step (by repeat (first | (with_reducible first | exact HB.out | apply below_alloc | apply pw_below_drewN | apply below_drew1) | exact HB.out)) hb); clear HO_7; clear HO_8; clear HB; have HO_7 := n0_; have HO_8 := n1_; have HO524 := n2_; have HB := n3_; clear n0_ n1_ n2_ n3_; (try clear hb); (try clear hb2); (try clear hk); (try clear hi); (try clear ho0); obtain ⟨Ao35, co35, eo35⟩ := Kd.R_slice HO524.out; subst eo35))
                    (try simp only [← hl8_1])
                    go_roundg k1
                    case measure => have := HK1.out; omega
                    case rel => exact ⟨(y521), (wrap64 (x19_1 + 1)), (by first | rfl | (simp; done) | (simp [*]; done)), H', ⟨by have := HK1.out; omega⟩, ⟨by (try simp only [hl8_1]); (with_reducible repeat (first | apply Kd.R_alloc | apply Kd.R_drewN | apply Kd.R_drew)); exact Kd.R_mono HO_7.out (fun _ hk => hk.1.2)⟩, ⟨by (try simp only [hl8_1]); (with_reducible repeat (first | apply Kd.R_alloc | apply Kd.R_drewN | apply Kd.R_drew)); exact Kd.R_mono HO_8.out (fun _ hk => hk.1)⟩, ⟨by repeat (first | (with_reducible first | exact HB.out | apply below_alloc | apply pw_below_drewN | apply below_drew1) | exact HB.out)⟩⟩
              · rw [if_neg c13] at H
                exact absurd H (by simp)
            · rw [if_neg c12] at H
              exact absurd H (by simp)
          · rw [if_neg c11] at H
            have c11b0 : decide (x19_1 < (y518.length : Int)) = false := decide_eq_false c11
            (try (have c11b0L := c11b0; simp only [hl8_1] at c11b0L))
            clear c11
            obtain rfl := Option.some.inj H
            go_wp2
            go_ret
            exact ⟨_, by first | rfl | (simp [errW_none, errW_some] <;> rfl) | (simp [*, errW_none, errW_some] <;> rfl), by (with_reducible repeat (first | apply Kd.R_alloc | apply Kd.R_drewN | apply Kd.R_drew)); exact Kd.R_mono HO_8.out (fun _ hk => trivial), by repeat (first | (with_reducible first | exact HB.out | apply below_alloc | apply pw_below_drewN | apply below_drew1) | exact HB.out)⟩
    · rw [if_neg c6] at H
      exact absurd H (by simp)
  · rw [if_neg c5] at H
    exact absurd H (by simp)
def impl_TreeAt.f (k : Nat) (a0 : Int) (l1 : List (S79)) (a2 : Int) : Option (List Int × Bool) := (impl_goodAt.f k a0 l1 (([a2] : List Int))).bind fun t530 => (if t530 = true then ((impl_treeAt.f k a0 l1 a2).bind fun t531 => (some (t531, true))) else (some (([] : List Int), false)))
set_option maxHeartbeats 8000000 in
set_option maxRecDepth 100000 in
theorem impl_TreeAt.calls (k : Nat) (a0 : Int) (A1 : Option Addr) (c1 : Nat) (l1 : List (S79)) (a2 : Int) (r1 : List Int) (r2 : Bool) (w : World) (hr1 : Kd.C k79 w A1 l1.length l1) (hc1 : l1.length ≤ c1) (h : impl_TreeAt.f k a0 l1 a2 = some (r1, r2)) :
    Calls Try.prog 34 #[.int .i64 a0, .slice A1 l1.length c1, .int .i64 a2] w fun e w' => ∃ v0_ : Value, e = .returned (.tuple #[v0_, .bool r2]) ∧ Kd.R (Kd.int .i64) 3 w' w.heap.size (fun _ => True) v0_ r1 ∧ Below w.heap.size w w' := by
  have HR1 := Aside0.mk hr1
  have HC1 := Aside0.mk hc1
  clear hr1 hc1
  have HB := Aside0.mk (Below.refl w.heap.size w)
  have H : ((impl_goodAt.f k a0 l1 (([a2] : List Int))).bind fun t530 => (if t530 = true then ((impl_treeAt.f k a0 l1 a2).bind fun t531 => (some (t531, true))) else (some (([] : List Int), false)))) = some (r1, r2) := h
  clear h
  obtain ⟨y527, hy527⟩ : ∃ y_ : List Int, y_ = (([a2] : List Int)) := ⟨_, rfl⟩
  replace H : ((impl_goodAt.f k a0 l1 y527).bind fun t530 => (if t530 = true then ((impl_treeAt.f k a0 l1 a2).bind fun t531 => (some (t531, true))) else (some (([] : List Int), false)))) = some (r1, r2) := by first | (rw [hy527]; with_reducible exact H) | (have H2_ := (Option.bind_some _ _).symm.trans H; rw [hy527]; with_reducible exact H2_) | (have H2_ := (Option.bind_some _ _).symm.trans H; with_reducible exact H2_) | with_reducible exact H | (rw [hy527]; exact H) | exact H
  have Ny527 := Aside0.mk hy527
  clear hy527
  replace H := Option.bind_eq_some_iff.mp H
  obtain ⟨t530, A40, H⟩ := H
  replace H : (if t530 = true then ((impl_treeAt.f k a0 l1 a2).bind fun t531 => (some (t531, true))) else (some (([] : List Int), false))) = some (r1, r2) := H
  have A4 := Aside0.mk A40
  clear A40
  by_cases c5 : t530 = true
  · subst c5
    have H1 : ((impl_treeAt.f k a0 l1 a2).bind fun t531 => (some (t531, true))) = some (r1, r2) := by rw [if_pos rfl] at H; exact H
    clear H
    have H := H1
    clear H1
    replace H := Option.bind_eq_some_iff.mp H
    obtain ⟨t531, A60, H⟩ := H
    replace H : (some (t531, true)) = some (r1, r2) := H
    have A6 := Aside0.mk A60
    clear A60
    simp only [Option.some.injEq, Prod.mk.injEq] at H
    obtain ⟨rfl, rfl⟩ := H
    go_enter Try.func34, Try.ntmps34
    go_wp2_with (first | ((with_reducible refine gate_dst (N := 11) rfl ?_); refine Kd.R_lit (Kd.int .i64) _ 3 ?hg (N := 11) ?hd (xs := ([a2] : List Int)) (inner := [.int .i64 a2]) (ok := fun _ => True) (okp := fun _ => True) ?hr ?hp (fun _ hk => hk) trivial (Below.refl _ _) (Nat.le_refl _) (by simp) ?_; (case hd => rfl); (case hg => rfl); (case hr => first | (go_simp; done) | (go_simp; rfl)); (case hp => exact (Reps.one (show Kd.M (Kd.int .i64) _ _ _ a2 [.int .i64 a2] from rfl) (Reps.none _ _))); intro v528 w7 ho8 hb hg_ hnew_; clear hg_ hnew_; (first | rw [← Ny527.out] at ho8 | (simp only [Int.reduceToNat] at ho8; rw [← Ny527.out] at ho8)); have n0_ := Aside0.mk (Kd.R_lower ho8 (below_size (by repeat (first | (with_reducible first | exact HB.out | apply below_alloc | apply pw_below_drewN | apply below_drew1) | exact HB.out)))); have n1_ := Aside0.mk (below_step (by repeat (first | (with_reducible first | exact HB.out | apply below_alloc | apply pw_below_drewN | apply below_drew1) | exact HB.out)) hb); clear HB; have HO529 := n0_; have HB := n1_; clear n0_ n1_; clear hb ho8; obtain ⟨Ao9, co9, eo9⟩ := Kd.R_slice HO529.out; subst eo9) | ((with_reducible refine gate_callee (f := 76) rfl ?_); refine goesL_ (some 12) rfl rfl Try.func76 (by kernel_rfl) rfl #[.int .i64 a0, .slice A1 l1.length c1, .slice Ao9 y527.length co9] rfl (by (try simp only [List.map_toArray, List.map_cons, List.map_nil]); first | done | rfl | (simp only [List.length_drop, List.length_take]; rfl)) ?_; (with_reducible refine (impl_goodAt.calls k a0 _ _ l1 _ _ y527 true _ ?side1 ?side2 ?side3 ?side4 A4.out).mono ?_); (case side1 => repeat (first | exact (Kd.C_below HR1.out HB.out) | (with_reducible refine Kd.C_alloc ?_ _) | (with_reducible refine Kd.C_drewN ?_ _) | (with_reducible refine Kd.C_drew ?_))); (case side2 => exact HC1.out); (case side3 => repeat (first | exact (Kd.R_reads' HO529.out).2.2 | (with_reducible refine Kd.C_alloc ?_ _) | (with_reducible refine Kd.C_drewN ?_ _) | (with_reducible refine Kd.C_drew ?_))); (case side4 => exact (Kd.R_reads' HO529.out).2.1); rintro e w10 ⟨rfl, hb⟩; refine ⟨_, rfl, ?_⟩; have n0_ := Aside0.mk (Kd.R_below (by (with_reducible repeat (first | apply Kd.R_alloc | apply Kd.R_drewN | apply Kd.R_drew)); exact HO529.out) hb); have n1_ := Aside0.mk (below_step (by repeat (first | (with_reducible first | exact HB.out | apply below_alloc | apply pw_below_drewN | apply below_drew1) | exact HB.out)) hb); clear HO529; clear HB; have HO529 := n0_; have HB := n1_; clear n0_ n1_; (try clear hb); (try clear hb2); (try clear hk); (try clear hi)) | ((with_reducible refine gate_callee (f := 77) rfl ?_); refine goesL_ (some 17) rfl rfl Try.func77 (by kernel_rfl) rfl #[.int .i64 a0, .slice A1 l1.length c1, .int .i64 a2] rfl (by (try simp only [List.map_toArray, List.map_cons, List.map_nil]); first | done | rfl | (simp only [List.length_drop, List.length_take]; rfl)) ?_; (with_reducible refine (impl_treeAt.calls k a0 _ _ l1 a2 t531 _ ?side1 ?side2 A6.out).mono ?_); (case side1 => repeat (first | exact (Kd.C_below HR1.out HB.out) | (with_reducible refine Kd.C_alloc ?_ _) | (with_reducible refine Kd.C_drewN ?_ _) | (with_reducible refine Kd.C_drew ?_))); (case side2 => exact HC1.out); rintro e w11 ⟨v532, rfl, ho0, hb⟩; refine ⟨_, rfl, ?_⟩; have n0_ := Aside0.mk (Kd.R_elder' (by (with_reducible repeat (first | apply Kd.R_alloc | apply Kd.R_drewN | apply Kd.R_drew)); exact HO529.out) (Kd.R_base ho0) hb); have n1_ := Aside0.mk (Kd.R_lower (Kd.R_new' ho0 (Kd.R_lt (by (with_reducible repeat (first | apply Kd.R_alloc | apply Kd.R_drewN | apply Kd.R_drew)); exact HO529.out))) (below_size (by repeat (first | (with_reducible first | exact HB.out | apply below_alloc | apply pw_below_drewN | apply below_drew1) | exact HB.out)))); have n2_ := Aside0.mk (below_step (by repeat (first | (with_reducible first | exact HB.out | apply below_alloc | apply pw_below_drewN | apply below_drew1) | exact HB.out)) hb); clear HO529; clear HB; have HO529 := n0_; have HO533 := n1_; have HB := n2_; clear n0_ n1_ n2_; (try clear hb); (try clear hb2); (try clear hk); (try clear hi); (try clear ho0)))
    go_ret2
    exact ⟨_, by first | rfl | (simp [errW_none, errW_some] <;> rfl) | (simp [*, errW_none, errW_some] <;> rfl), by (with_reducible repeat (first | apply Kd.R_alloc | apply Kd.R_drewN | apply Kd.R_drew)); exact Kd.R_mono HO533.out (fun _ hk => trivial), by repeat (first | (with_reducible first | exact HB.out | apply below_alloc | apply pw_below_drewN | apply below_drew1) | exact HB.out)⟩
  · replace c5 := Bool.eq_false_iff.mpr c5
    subst c5
    have H1 : (some (([] : List Int), false)) = some (r1, r2) := by rw [if_neg (show ¬ (false = true) by decide)] at H; exact H
    clear H
    have H := H1
    clear H1
    simp only [Option.some.injEq, Prod.mk.injEq] at H
    obtain ⟨rfl, rfl⟩ := H
    go_enter Try.func34, Try.ntmps34
    go_wp2_with (first | ((with_reducible refine gate_dst (N := 11) rfl ?_); refine Kd.R_lit (Kd.int .i64) _ 3 ?hg (N := 11) ?hd (xs := ([a2] : List Int)) (inner := [.int .i64 a2]) (ok := fun _ => True) (okp := fun _ => True) ?hr ?hp (fun _ hk => hk) trivial (Below.refl _ _) (Nat.le_refl _) (by simp) ?_; (case hd => rfl); (case hg => rfl); (case hr => first | (go_simp; done) | (go_simp; rfl)); (case hp => exact (Reps.one (show Kd.M (Kd.int .i64) _ _ _ a2 [.int .i64 a2] from rfl) (Reps.none _ _))); intro v528 w12 ho13 hb hg_ hnew_; clear hg_ hnew_; (first | rw [← Ny527.out] at ho13 | (simp only [Int.reduceToNat] at ho13; rw [← Ny527.out] at ho13)); have n0_ := Aside0.mk (Kd.R_lower ho13 (below_size (by repeat (first | (with_reducible first | exact HB.out | apply below_alloc | apply pw_below_drewN | apply below_drew1) | exact HB.out)))); have n1_ := Aside0.mk (below_step (by repeat (first | (with_reducible first | exact HB.out | apply below_alloc | apply pw_below_drewN | apply below_drew1) | exact HB.out)) hb); clear HB; have HO529 := n0_; have HB := n1_; clear n0_ n1_; clear hb ho13; obtain ⟨Ao14, co14, eo14⟩ := Kd.R_slice HO529.out; subst eo14) | ((with_reducible refine gate_callee (f := 76) rfl ?_); refine goesL_ (some 12) rfl rfl Try.func76 (by kernel_rfl) rfl #[.int .i64 a0, .slice A1 l1.length c1, .slice Ao14 y527.length co14] rfl (by (try simp only [List.map_toArray, List.map_cons, List.map_nil]); first | done | rfl | (simp only [List.length_drop, List.length_take]; rfl)) ?_; (with_reducible refine (impl_goodAt.calls k a0 _ _ l1 _ _ y527 false _ ?side1 ?side2 ?side3 ?side4 A4.out).mono ?_); (case side1 => repeat (first | exact (Kd.C_below HR1.out HB.out) | (with_reducible refine Kd.C_alloc ?_ _) | (with_reducible refine Kd.C_drewN ?_ _) | (with_reducible refine Kd.C_drew ?_))); (case side2 => exact HC1.out); (case side3 => repeat (first | exact (Kd.R_reads' HO529.out).2.2 | (with_reducible refine Kd.C_alloc ?_ _) | (with_reducible refine Kd.C_drewN ?_ _) | (with_reducible refine Kd.C_drew ?_))); (case side4 => exact (Kd.R_reads' HO529.out).2.1); rintro e w15 ⟨rfl, hb⟩; refine ⟨_, rfl, ?_⟩; have n0_ := Aside0.mk (Kd.R_below (by (with_reducible repeat (first | apply Kd.R_alloc | apply Kd.R_drewN | apply Kd.R_drew)); exact HO529.out) hb); have n1_ := Aside0.mk (below_step (by repeat (first | (with_reducible first | exact HB.out | apply below_alloc | apply pw_below_drewN | apply below_drew1) | exact HB.out)) hb); clear HO529; clear HB; have HO529 := n0_; have HB := n1_; clear n0_ n1_; (try clear hb); (try clear hb2); (try clear hk); (try clear hi)))
    go_ret2
    exact ⟨_, by first | rfl | (simp [errW_none, errW_some] <;> rfl) | (simp [*, errW_none, errW_some] <;> rfl), by first | exact Kd.R_nil _ _ _ _ _ | exact Kd.N_nil _ _ _ _ _ | exact Kd.V_nil _ _ _ _ _ | exact Kd.Q_nil _ _ _ _ _ | exact Kd.S_nil _ _ _ _ _, by repeat (first | (with_reducible first | exact HB.out | apply below_alloc | apply pw_below_drewN | apply below_drew1) | exact HB.out)⟩
def laws_markEdgeS.l0 : Nat → List (S79) → Int → Int → Option (Int × (List (S79)))
  | 0, _, _, _ => none
  | k + 1, x0, x1, x5 => if x5 < (x0.length : Int) then (if 0 ≤ x5 then ((some (x0.set (x5 : Int).toNat (⟨x1, (rd_T79 x0 x5).f1, (rd_T79 x0 x5).f2⟩ : S79) : List (S79))).bind fun y534 => ((some (y534.set (x5 : Int).toNat (⟨(rd_T79 y534 x5).f0, wrap64 (x1 + 1), (rd_T79 y534 x5).f2⟩ : S79) : List (S79))).bind fun y535 => (laws_markEdgeS.l0 k (y535.set (x5 : Int).toNat (⟨(rd_T79 y535 x5).f0, (rd_T79 y535 x5).f1, wrap64 ((wrap64 (x1 + 1)) + 1)⟩ : S79)) (wrap64 ((wrap64 ((wrap64 (x1 + 1)) + 1)) + 1)) (wrap64 (x5 + 1))))) else (none)) else (some (x1, x0))
def laws_markEdgeS.f (k : Nat) (l0 : List (S79)) (a1 : Int) : Option (Int × (List (S79))) := laws_markEdgeS.l0 k l0 a1 0
set_option maxHeartbeats 8000000 in
set_option maxRecDepth 100000 in
theorem laws_markEdgeS.calls (k : Nat) (P0_ : Nat → Prop) (u9000_ : Value) (l0 : List (S79)) (a1 : Int) (r1 : Int) (r2 : List (S79)) (w0 w : World) (hB : Below w0.heap.size w0 w) (ho0 : Kd.R k79 79 w w0.heap.size P0_ u9000_ l0) (h : laws_markEdgeS.f k l0 a1 = some (r1, r2)) :
    Calls Try.prog 35 #[u9000_, .int .i64 a1] w fun e w' => e = .returned (.int .i64 r1) ∧ Kd.R k79 79 w' w0.heap.size (fun k_ => (P0_ k_ ∨ w.heap.size ≤ k_)) u9000_ r2 ∧ Below w0.heap.size w0 w' ∧ Kept w w' (fun k_ => P0_ k_) := by
  have HO0 := Aside0.mk (show Kd.R k79 79 w w0.heap.size (fun k_ => (P0_ k_ ∨ w.heap.size ≤ k_)) u9000_ l0 from Kd.R_mono ho0 (fun k_ hk => (.inl hk)))
  have HK := Aside0.mk (Kept.refl w (fun k_ => P0_ k_))
  have HW0 := Aside0.mk hB.size
  have HB := Aside0.mk hB
  clear hB
  have H : (laws_markEdgeS.l0 k l0 a1 0) = some (r1, r2) := h
  clear h
  have H' := Aside0.mk H
  clear H
  go_enter Try.func35, Try.ntmps35
  go_wp2
  go_loopg [1, 5] k (fun kq v1 v5 w' => ∃ (x0_1 : List (S79)) (x1_1 : Int) (x5_1 : Int), v1 = .int .i64 x1_1 ∧ v5 = .int .i64 x5_1 ∧ Aside0 (laws_markEdgeS.l0 kq x0_1 x1_1 x5_1 = some (r1, r2)) ∧ Aside0 (kq ≤ k) ∧ Aside0 (Kd.R k79 79 w' w0.heap.size (fun k_ => (P0_ k_ ∨ w.heap.size ≤ k_)) u9000_ x0_1) ∧ Aside0 (Kept w w' (fun k_ => P0_ k_)) ∧ Aside0 (Below w0.heap.size w0 w'))
  case atStart => exact ⟨(l0), (a1), (0), (by first | rfl | (simp; done) | (simp [*]; done)), (by first | rfl | (simp; done) | (simp [*]; done)), H', ⟨Nat.le_refl _⟩, ⟨by (with_reducible repeat (first | apply Kd.R_alloc | apply Kd.R_drewN | apply Kd.R_drew)); exact HO0.out⟩, ⟨by repeat (first | (with_reducible first | exact HK.out | apply Kept.alloc | apply Kept.drewN | apply Kept.drew) | exact HK.out)⟩, ⟨by repeat (first | (with_reducible first | exact HB.out | apply below_alloc | apply pw_below_drewN | apply below_drew1) | exact HB.out)⟩⟩
  case round =>
    clear H'
    try clear p2
    obtain ⟨x0_1, x1_1, x5_1, rfl, rfl, HA, HK1, HO_0, HK, HB⟩ := hrel
    cases gk with
    | zero => exact absurd HA.out (by simp [laws_markEdgeS.l0])
    | succ k1 =>
      have H := HA.out
      clear HA
      simp only [laws_markEdgeS.l0] at H
      by_cases c3 : x5_1 < (x0_1.length : Int)
      · rw [if_pos c3] at H
        have c3b0 : decide (x5_1 < (x0_1.length : Int)) = true := decide_eq_true c3
        clear c3
        by_cases c4 : 0 ≤ x5_1
        · rw [if_pos c4] at H
          have c4b0 : decide (0 ≤ x5_1) = true := decide_eq_true c4
          clear c4
          obtain ⟨y534, hy534⟩ : ∃ y_ : List (S79), y_ = (x0_1.set (x5_1 : Int).toNat (⟨x1_1, (rd_T79 x0_1 x5_1).f1, (rd_T79 x0_1 x5_1).f2⟩ : S79)) := ⟨_, rfl⟩
          replace H : ((some (y534.set (x5_1 : Int).toNat (⟨(rd_T79 y534 x5_1).f0, wrap64 (x1_1 + 1), (rd_T79 y534 x5_1).f2⟩ : S79) : List (S79))).bind fun y535 => (laws_markEdgeS.l0 k1 (y535.set (x5_1 : Int).toNat (⟨(rd_T79 y535 x5_1).f0, (rd_T79 y535 x5_1).f1, wrap64 ((wrap64 (x1_1 + 1)) + 1)⟩ : S79)) (wrap64 ((wrap64 ((wrap64 (x1_1 + 1)) + 1)) + 1)) (wrap64 (x5_1 + 1)))) = some (r1, r2) := by first | (rw [hy534]; with_reducible exact H) | (have H2_ := (Option.bind_some _ _).symm.trans H; rw [hy534]; with_reducible exact H2_) | (have H2_ := (Option.bind_some _ _).symm.trans H; with_reducible exact H2_) | with_reducible exact H | (rw [hy534]; exact H) | exact H
          have Ny534 := Aside0.mk hy534
          clear hy534
          obtain ⟨y535, hy535⟩ : ∃ y_ : List (S79), y_ = (y534.set (x5_1 : Int).toNat (⟨(rd_T79 y534 x5_1).f0, wrap64 (x1_1 + 1), (rd_T79 y534 x5_1).f2⟩ : S79)) := ⟨_, rfl⟩
          replace H : (laws_markEdgeS.l0 k1 (y535.set (x5_1 : Int).toNat (⟨(rd_T79 y535 x5_1).f0, (rd_T79 y535 x5_1).f1, wrap64 ((wrap64 (x1_1 + 1)) + 1)⟩ : S79)) (wrap64 ((wrap64 ((wrap64 (x1_1 + 1)) + 1)) + 1)) (wrap64 (x5_1 + 1))) = some (r1, r2) := by first | (rw [hy535]; with_reducible exact H) | (have H2_ := (Option.bind_some _ _).symm.trans H; rw [hy535]; with_reducible exact H2_) | (have H2_ := (Option.bind_some _ _).symm.trans H; with_reducible exact H2_) | with_reducible exact H | (rw [hy535]; exact H) | exact H
          have Ny535 := Aside0.mk hy535
          clear hy535
          obtain ⟨y536, hy536⟩ : ∃ y_ : List (S79), y_ = (y535.set (x5_1 : Int).toNat (⟨(rd_T79 y535 x5_1).f0, (rd_T79 y535 x5_1).f1, wrap64 ((wrap64 (x1_1 + 1)) + 1)⟩ : S79)) := ⟨_, rfl⟩
          replace H : (laws_markEdgeS.l0 k1 y536 (wrap64 ((wrap64 ((wrap64 (x1_1 + 1)) + 1)) + 1)) (wrap64 (x5_1 + 1))) = some (r1, r2) := by first | (rw [hy536]; with_reducible exact H) | (have H2_ := (Option.bind_some _ _).symm.trans H; rw [hy536]; with_reducible exact H2_) | (have H2_ := (Option.bind_some _ _).symm.trans H; with_reducible exact H2_) | with_reducible exact H | (rw [hy536]; exact H) | exact H
          have Ny536 := Aside0.mk hy536
          clear hy536
          have H' := Aside0.mk H
          clear H
          obtain ⟨Ao8, co8, eo8⟩ := Kd.R_slice HO_0.out
          subst eo8
          have p5 : 0 ≤ (x5_1 : Int) := of_decide_eq_true (by first | (with_reducible assumption) | assumption)
          have q5 : (x5_1 : Int) < ((x0_1.length : Int) : Int) := of_decide_eq_true (by first | (with_reducible assumption) | assumption)
          obtain ⟨go5, co5, eo5, gb5, gl5, cl5, HG5⟩ := Kd.R_form HO_0.out (by omega)
          (first | cases eo5 | (injection eo5 with ea_ en_ ec_; (first | subst ea_ | (injection ea_ with ea_; subst ea_)); subst ec_; clear en_))
          have GB5 := Aside0.mk gb5
          have GG5 := Aside0.mk HG5
          clear gb5 gl5 HG5
          have HMgo5 := Aside0.mk (show (P0_ go5 ∨ w.heap.size ≤ go5) from (HO_0.out.1 _ rfl))
          obtain ⟨ce5, hcl5, hM5, hcc5, hfr5⟩ := Kd.R_elem HO_0.out z79 (x5_1 : Int) p5 q5
          obtain rfl := k79_openM hM5
          have hx5_0 : wr.cell? ⟨go5, (x5_1 : Int).toNat * 3, none⟩ = some (.int .i64 ((rd_T79 x0_1 x5_1).f0)) := hcc5 0 _ rfl
          have hx5_1 : wr.cell? ⟨go5, (x5_1 : Int).toNat * 3 + 1, none⟩ = some (.int .i64 ((rd_T79 x0_1 x5_1).f1)) := hcc5 1 _ rfl
          have hx5_2 : wr.cell? ⟨go5, (x5_1 : Int).toNat * 3 + 2, none⟩ = some (.int .i64 ((rd_T79 x0_1 x5_1).f2)) := hcc5 2 _ rfl
          have hf5_0 : wr.frozen? ⟨go5, (x5_1 : Int).toNat * 3, none⟩ = false := hfr5 0
          have hf5_1 : wr.frozen? ⟨go5, (x5_1 : Int).toNat * 3 + 1, none⟩ = false := hfr5 1
          have hf5_2 : wr.frozen? ⟨go5, (x5_1 : Int).toNat * 3 + 2, none⟩ = false := hfr5 2
          clear hcl5 hcc5 hfr5 hM5
          replace p5 := eq_true p5
          replace q5 := eq_true q5
          have HX9 := Aside0.mk (show Kd.R k79 79 wr w0.heap.size (fun k_ => (P0_ k_ ∨ w.heap.size ≤ k_)) (.slice (some ⟨go5, 0, none⟩) x0_1.length co8) x0_1 from (by (with_reducible repeat (first | apply Kd.R_alloc | apply Kd.R_drewN | apply Kd.R_drew)); exact HO_0.out))
          obtain ⟨ce9, hcl9, hM9, hcc9, hfr9⟩ := Kd.R_elem HX9.out z79 (x5_1 : Int) (of_decide_eq_true (by first | (with_reducible assumption) | assumption)) (by have h_ : (x5_1 : Int) < ((x0_1.length : Int) : Int) := of_decide_eq_true (by first | (with_reducible assumption) | assumption); first | exact h_ | (have e_ := (Kd.R_reads' HO_0.out).1; omega) | simpa using h_)
          obtain rfl := k79_openM hM9
          have HP9 := Kd.R_seg HX9.out (x5_1 : Int) (of_decide_eq_true (by first | (with_reducible assumption) | assumption)) (by have h_ : (x5_1 : Int) < ((x0_1.length : Int) : Int) := of_decide_eq_true (by first | (with_reducible assumption) | assumption); first | exact h_ | (have e_ := (Kd.R_reads' HO_0.out).1; omega) | simpa using h_) (seg := [.int .i64 x1_1]) (j := 0) hcl9 hcc9 (show 1 ≤ 3 from by decide) (x' := (⟨x1_1, (rd_T79 x0_1 x5_1).f1, (rd_T79 x0_1 x5_1).f2⟩ : S79)) (k79_mkM _ _ _ (⟨x1_1, (rd_T79 x0_1 x5_1).f1, (rd_T79 x0_1 x5_1).f2⟩ : S79) ) (fun _ hk => hk)
          have hx9_0 := hcc9 0 _ rfl
          (try simp only [show (k79).sz = 3 from rfl, Nat.mul_one, Nat.add_zero] at hx9_0)
          have hf9_0 := hfr9 0
          (try simp only [show (k79).sz = 3 from rfl, Nat.mul_one, Nat.add_zero] at hf9_0)
          clear hcl9 hcc9 hfr9 hM9
          go_wp2_with (first | ((with_reducible refine gate_store (t := 3) (p := 16) rfl ?_); refine store_event (t := 3) (p := 16) (v := ?vo_w10) (w1 := (wr.setCell ⟨go5, (x5_1 : Int).toNat * 3, none⟩ (.int .i64 x1_1))) ?hg ?ho ?hn ?hr ?_; (case ho => rfl); (case hg => rfl); (case hn => rfl); (case hr => first | (go_simp; done) | (go_simp; rfl)); intro w10 hw; have hg : wr.grownBy w10 (some go5) := (by rw [hw]; exact HP9.2); have hp_ : Kd.R k79 79 w10 w0.heap.size (fun k_ => (P0_ k_ ∨ w.heap.size ≤ k_)) (.slice (some ⟨go5, 0, none⟩) x0_1.length co8) y534 := (by rw [hw, Ny534.out]; exact HP9.1); clear HP9; have n0_ := Aside0.mk (hp_); have n1_ := Aside0.mk ((by rw [hw]; exact below_set (HB.out) GB5.out : Below w0.heap.size w0 w10)); have n2_ := Aside0.mk (Kept.of_grown (S := (fun k_ => P0_ k_)) hg (by repeat (first | (with_reducible first | exact HK.out | apply Kept.alloc | apply Kept.drewN | apply Kept.drew) | exact HK.out)) (fun k_ e_ => (HO_0.out.1 k_ e_))); clear HO_0; clear HB; clear HK; have HO_0 := n0_; have HB := n1_; have HK := n2_; clear n0_ n1_ n2_; clear hg hw hp_; have p6 : 0 ≤ (x5_1 : Int) := of_decide_eq_true (by first | (with_reducible assumption) | assumption); have q6 : (x5_1 : Int) < ((x0_1.length : Int) : Int) := of_decide_eq_true (by first | (with_reducible assumption) | assumption); obtain ⟨ce6, hcl6, hM6, hcc6, hfr6⟩ := Kd.R_elem HO_0.out z79 (x5_1 : Int) p6 q6; obtain rfl := k79_openM hM6; have hx6_0 : w10.cell? ⟨go5, (x5_1 : Int).toNat * 3, none⟩ = some (.int .i64 ((rd_T79 y534 x5_1).f0)) := hcc6 0 _ rfl; have hx6_1 : w10.cell? ⟨go5, (x5_1 : Int).toNat * 3 + 1, none⟩ = some (.int .i64 ((rd_T79 y534 x5_1).f1)) := hcc6 1 _ rfl; have hx6_2 : w10.cell? ⟨go5, (x5_1 : Int).toNat * 3 + 2, none⟩ = some (.int .i64 ((rd_T79 y534 x5_1).f2)) := hcc6 2 _ rfl; have hf6_0 : w10.frozen? ⟨go5, (x5_1 : Int).toNat * 3, none⟩ = false := hfr6 0; have hf6_1 : w10.frozen? ⟨go5, (x5_1 : Int).toNat * 3 + 1, none⟩ = false := hfr6 1; have hf6_2 : w10.frozen? ⟨go5, (x5_1 : Int).toNat * 3 + 2, none⟩ = false := hfr6 2; clear hcl6 hcc6 hfr6 hM6; replace p6 := eq_true p6; replace q6 := eq_true q6; have HX11 := Aside0.mk (show Kd.R k79 79 w10 w0.heap.size (fun k_ => (P0_ k_ ∨ w.heap.size ≤ k_)) (.slice (some ⟨go5, 0, none⟩) x0_1.length co8) y534 from (by (with_reducible repeat (first | apply Kd.R_alloc | apply Kd.R_drewN | apply Kd.R_drew)); exact HO_0.out)); obtain ⟨ce11, hcl11, hM11, hcc11, hfr11⟩ := Kd.R_elem HX11.out z79 (x5_1 : Int) (of_decide_eq_true (by first | (with_reducible assumption) | assumption)) (by have h_ : (x5_1 : Int) < ((x0_1.length : Int) : Int) := of_decide_eq_true (by first | (with_reducible assumption) | assumption); first | exact h_ | (have e_ := (Kd.R_reads' HO_0.out).1; omega) | simpa using h_); obtain rfl := k79_openM hM11; have HP11 := Kd.R_seg HX11.out (x5_1 : Int) (of_decide_eq_true (by first | (with_reducible assumption) | assumption)) (by have h_ : (x5_1 : Int) < ((x0_1.length : Int) : Int) := of_decide_eq_true (by first | (with_reducible assumption) | assumption); first | exact h_ | (have e_ := (Kd.R_reads' HO_0.out).1; omega) | simpa using h_) (seg := [.int .i64 (wrap64 (x1_1 + 1))]) (j := 1) hcl11 hcc11 (show 2 ≤ 3 from by decide) (x' := (⟨(rd_T79 y534 x5_1).f0, wrap64 (x1_1 + 1), (rd_T79 y534 x5_1).f2⟩ : S79)) (k79_mkM _ _ _ (⟨(rd_T79 y534 x5_1).f0, wrap64 (x1_1 + 1), (rd_T79 y534 x5_1).f2⟩ : S79) ) (fun _ hk => hk); have hx11_1 := hcc11 1 _ rfl; (try simp only [show (k79).sz = 3 from rfl, Nat.mul_one, Nat.add_zero] at hx11_1); have hf11_1 := hfr11 1; (try simp only [show (k79).sz = 3 from rfl, Nat.mul_one, Nat.add_zero] at hf11_1); clear hcl11 hcc11 hfr11 hM11) | ((with_reducible refine gate_store (t := 3) (p := 23) rfl ?_); refine store_event (t := 3) (p := 23) (v := ?vo_w12) (w1 := (w10.setCell ⟨go5, (x5_1 : Int).toNat * 3 + 1, none⟩ (.int .i64 (wrap64 (x1_1 + 1))))) ?hg ?ho ?hn ?hr ?_; (case ho => rfl); (case hg => rfl); (case hn => rfl); (case hr => first | (go_simp; done) | (go_simp; rfl)); intro w12 hw; have hg : w10.grownBy w12 (some go5) := (by rw [hw]; exact HP11.2); have hp_ : Kd.R k79 79 w12 w0.heap.size (fun k_ => (P0_ k_ ∨ w.heap.size ≤ k_)) (.slice (some ⟨go5, 0, none⟩) x0_1.length co8) y535 := (by rw [hw, Ny535.out]; exact HP11.1); clear HP11; have n0_ := Aside0.mk (hp_); have n1_ := Aside0.mk ((by rw [hw]; exact below_set (HB.out) GB5.out : Below w0.heap.size w0 w12)); have n2_ := Aside0.mk (Kept.of_grown (S := (fun k_ => P0_ k_)) hg (by repeat (first | (with_reducible first | exact HK.out | apply Kept.alloc | apply Kept.drewN | apply Kept.drew) | exact HK.out)) (fun k_ e_ => (HO_0.out.1 k_ e_))); clear HO_0; clear HB; clear HK; have HO_0 := n0_; have HB := n1_; have HK := n2_; clear n0_ n1_ n2_; clear hg hw hp_; have p7 : 0 ≤ (x5_1 : Int) := of_decide_eq_true (by first | (with_reducible assumption) | assumption); have q7 : (x5_1 : Int) < ((x0_1.length : Int) : Int) := of_decide_eq_true (by first | (with_reducible assumption) | assumption); obtain ⟨ce7, hcl7, hM7, hcc7, hfr7⟩ := Kd.R_elem HO_0.out z79 (x5_1 : Int) p7 q7; obtain rfl := k79_openM hM7; have hx7_0 : w12.cell? ⟨go5, (x5_1 : Int).toNat * 3, none⟩ = some (.int .i64 ((rd_T79 y535 x5_1).f0)) := hcc7 0 _ rfl; have hx7_1 : w12.cell? ⟨go5, (x5_1 : Int).toNat * 3 + 1, none⟩ = some (.int .i64 ((rd_T79 y535 x5_1).f1)) := hcc7 1 _ rfl; have hx7_2 : w12.cell? ⟨go5, (x5_1 : Int).toNat * 3 + 2, none⟩ = some (.int .i64 ((rd_T79 y535 x5_1).f2)) := hcc7 2 _ rfl; have hf7_0 : w12.frozen? ⟨go5, (x5_1 : Int).toNat * 3, none⟩ = false := hfr7 0; have hf7_1 : w12.frozen? ⟨go5, (x5_1 : Int).toNat * 3 + 1, none⟩ = false := hfr7 1; have hf7_2 : w12.frozen? ⟨go5, (x5_1 : Int).toNat * 3 + 2, none⟩ = false := hfr7 2; clear hcl7 hcc7 hfr7 hM7; replace p7 := eq_true p7; replace q7 := eq_true q7; have HX13 := Aside0.mk (show Kd.R k79 79 w12 w0.heap.size (fun k_ => (P0_ k_ ∨ w.heap.size ≤ k_)) (.slice (some ⟨go5, 0, none⟩) x0_1.length co8) y535 from (by (with_reducible repeat (first | apply Kd.R_alloc | apply Kd.R_drewN | apply Kd.R_drew)); exact HO_0.out)); obtain ⟨ce13, hcl13, hM13, hcc13, hfr13⟩ := Kd.R_elem HX13.out z79 (x5_1 : Int) (of_decide_eq_true (by first | (with_reducible assumption) | assumption)) (by have h_ : (x5_1 : Int) < ((x0_1.length : Int) : Int) := of_decide_eq_true (by first | (with_reducible assumption) | assumption); first | exact h_ | (have e_ := (Kd.R_reads' HO_0.out).1; omega) | simpa using h_); obtain rfl := k79_openM hM13; have HP13 := Kd.R_seg HX13.out (x5_1 : Int) (of_decide_eq_true (by first | (with_reducible assumption) | assumption)) (by have h_ : (x5_1 : Int) < ((x0_1.length : Int) : Int) := of_decide_eq_true (by first | (with_reducible assumption) | assumption); first | exact h_ | (have e_ := (Kd.R_reads' HO_0.out).1; omega) | simpa using h_) (seg := [.int .i64 (wrap64 ((wrap64 (x1_1 + 1)) + 1))]) (j := 2) hcl13 hcc13 (show 3 ≤ 3 from by decide) (x' := (⟨(rd_T79 y535 x5_1).f0, (rd_T79 y535 x5_1).f1, wrap64 ((wrap64 (x1_1 + 1)) + 1)⟩ : S79)) (k79_mkM _ _ _ (⟨(rd_T79 y535 x5_1).f0, (rd_T79 y535 x5_1).f1, wrap64 ((wrap64 (x1_1 + 1)) + 1)⟩ : S79) ) (fun _ hk => hk); have hx13_2 := hcc13 2 _ rfl; (try simp only [show (k79).sz = 3 from rfl, Nat.mul_one, Nat.add_zero] at hx13_2); have hf13_2 := hfr13 2; (try simp only [show (k79).sz = 3 from rfl, Nat.mul_one, Nat.add_zero] at hf13_2); clear hcl13 hcc13 hfr13 hM13) | ((with_reducible refine gate_store (t := 3) (p := 30) rfl ?_); refine store_event (t := 3) (p := 30) (v := ?vo_w14) (w1 := (w12.setCell ⟨go5, (x5_1 : Int).toNat * 3 + 2, none⟩ (.int .i64 (wrap64 ((wrap64 (x1_1 + 1)) + 1))))) ?hg ?ho ?hn ?hr ?_; (case ho => rfl); (case hg => rfl); (case hn => rfl); (case hr => first | (go_simp; done) | (go_simp; rfl)); intro w14 hw; have hg : w12.grownBy w14 (some go5) := (by rw [hw]; exact HP13.2); have hp_ : Kd.R k79 79 w14 w0.heap.size (fun k_ => (P0_ k_ ∨ w.heap.size ≤ k_)) (.slice (some ⟨go5, 0, none⟩) x0_1.length co8) y536 := (by rw [hw, Ny536.out]; exact HP13.1); clear HP13; have n0_ := Aside0.mk (hp_); have n1_ := Aside0.mk ((by rw [hw]; exact below_set (HB.out) GB5.out : Below w0.heap.size w0 w14)); have n2_ := Aside0.mk (Kept.of_grown (S := (fun k_ => P0_ k_)) hg (by repeat (first | (with_reducible first | exact HK.out | apply Kept.alloc | apply Kept.drewN | apply Kept.drew) | exact HK.out)) (fun k_ e_ => (HO_0.out.1 k_ e_))); clear HO_0; clear HB; clear HK; have HO_0 := n0_; have HB := n1_; have HK := n2_; clear n0_ n1_ n2_; clear hg hw hp_))
          go_roundg k1
          case measure => have := HK1.out; omega
          case rel => exact ⟨(y536), (wrap64 ((wrap64 ((wrap64 (x1_1 + 1)) + 1)) + 1)), (wrap64 (x5_1 + 1)), (by first | rfl | (simp; done) | (simp [*]; done)), (by first | rfl | (simp; done) | (simp [*]; done)), H', ⟨by have := HK1.out; omega⟩, ⟨by (with_reducible repeat (first | apply Kd.R_alloc | apply Kd.R_drewN | apply Kd.R_drew)); exact HO_0.out⟩, ⟨by repeat (first | (with_reducible first | exact HK.out | apply Kept.alloc | apply Kept.drewN | apply Kept.drew) | exact HK.out)⟩, ⟨by repeat (first | (with_reducible first | exact HB.out | apply below_alloc | apply pw_below_drewN | apply below_drew1) | exact HB.out)⟩⟩
        · rw [if_neg c4] at H
          exact absurd H (by simp)
      · rw [if_neg c3] at H
        have c3b0 : decide (x5_1 < (x0_1.length : Int)) = false := decide_eq_false c3
        clear c3
        simp only [Option.some.injEq, Prod.mk.injEq] at H
        obtain ⟨rfl, rfl⟩ := H
        obtain ⟨Ao15, co15, eo15⟩ := Kd.R_slice HO_0.out
        subst eo15
        go_wp2
        go_ret
        exact ⟨by first | rfl | (simp [errW_none, errW_some] <;> rfl) | (simp [*, errW_none, errW_some] <;> rfl), by (with_reducible repeat (first | apply Kd.R_alloc | apply Kd.R_drewN | apply Kd.R_drew)); exact HO_0.out, by repeat (first | (with_reducible first | exact HB.out | apply below_alloc | apply pw_below_drewN | apply below_drew1) | exact HB.out), by repeat (first | (with_reducible first | exact HK.out | apply Kept.alloc | apply Kept.drewN | apply Kept.drew) | exact HK.out)⟩
end Go.Proofs.Ytedegfbheihopaa.P

namespace Go.Proofs.Ytedegfbheihopaa.P
open Go.RowKit Go.Proofs.YtedegfbheihopaaW.PrintWords Go.Proofs.YtedegfbheihopaaW.PrintLast Go.Proofs.YtedegfbheihopaaW.PrintMore
attribute [local go_sem] max2_int min2_int max_two min_two max_three min_three max_four min_four   -- for this text's walks alone
set_option linter.unusedVariables false
set_option linter.unusedSimpArgs false
mutual
def laws_FnExactTreeAt.j0 : Nat → Int → List (S81) → Int → List Int → Bool → List (S79) → List Int → Bool → Bool → Option (Bool)
  | 0, _, _, _, _, _, _, _, _, _ => none
  | k + 1, x0, x1, x2, x8, x9, x10, x11, x12, x48 => if x48 = true then (some false) else ((laws_toEdgeS.f k x1).bind fun t553 => ((laws_eqEdgeS.f k x10 t553).bind fun t556 => (if t556 = true then ((laws_markEdgeS.f k x10 1).bind fun bt557 => (if bt557.1 < 0 then (laws_FnExactTreeAt.j1 k x0 x1 x2 x8 x9 x11 true) else ((laws_eqIntS.f k x11 x8).bind fun t559 => (if t559 = true then (laws_FnExactTreeAt.j1 k x0 x1 x2 x8 x9 x11 (x12 != x9)) else (laws_FnExactTreeAt.j1 k x0 x1 x2 x8 x9 x11 true))))) else (some false))))
def laws_FnExactTreeAt.j1 : Nat → Int → List (S81) → Int → List Int → Bool → List Int → Bool → Option (Bool)
  | 0, _, _, _, _, _, _, _ => none
  | k + 1, x0, x1, x2, x8, x9, x11, x69 => if x69 = true then (some false) else ((laws_markIntS.f k x11 1).bind fun bt560 => ((laws_heldIntS.f k bt560.2 1).bind fun t562 => (if t562 < 0 then (some false) else (if t562 = bt560.1 then ((laws_toEdgeS.f k x1).bind fun t563 => ((impl_TreeAt.f k x0 t563 x2).bind fun bt566 => ((laws_eqIntS.f k bt566.1 x8).bind fun t570 => (if t570 = true then (laws_FnExactTreeAt.j2 k bt560.2 bt560.1 (bt566.2 != x9)) else (laws_FnExactTreeAt.j2 k bt560.2 bt560.1 true))))) else (some false)))))
def laws_FnExactTreeAt.j2 : Nat → List Int → Int → Bool → Option (Bool)
  | 0, _, _, _ => none
  | k + 1, x11, x14, x97 => if x97 = true then (some false) else ((laws_heldIntS.f k x11 1).bind fun t571 => (if t571 < 0 then (some false) else (if t571 = x14 then (some true) else (some false))))
end
def laws_FnExactTreeAt.f (k : Nat) (a0 : Int) (l1 : List (S81)) (a2 : Int) : Option (Bool) := (laws_szEdgeS.f l1 1048576).bind fun t537 => (if t537 < 0 then (some true) else ((laws_toEdgeS.f k l1).bind fun t538 => ((spec_TreeAt.f k a0 t538 a2).bind fun bt541 => ((laws_toEdgeS.f k l1).bind fun t545 => ((impl_TreeAt.f k a0 t545 a2).bind fun bt548 => ((laws_eqIntS.f k bt548.1 bt541.1).bind fun t552 => (if t552 = true then (laws_FnExactTreeAt.j0 k a0 l1 a2 bt541.1 bt541.2 t545 bt548.1 bt548.2 (bt548.2 != bt541.2)) else (laws_FnExactTreeAt.j0 k a0 l1 a2 bt541.1 bt541.2 t545 bt548.1 bt548.2 true))))))))
set_option maxHeartbeats 8000000 in
set_option maxRecDepth 100000 in
theorem laws_FnExactTreeAt.calls (k : Nat) (a0 : Int) (A1 : Option Addr) (c1 : Nat) (l1 : List (S81)) (a2 : Int) (r : Bool) (w : World) (hr1 : Kd.C k81 w A1 l1.length l1) (hc1 : l1.length ≤ c1) (h : laws_FnExactTreeAt.f k a0 l1 a2 = some r) :
    Calls Try.prog 8 #[.int .i64 a0, .slice A1 l1.length c1, .int .i64 a2] w fun e w' => e = .returned (.bool r) ∧ Below w.heap.size w w' := by
  have HR1 := Aside0.mk hr1
  have HC1 := Aside0.mk hc1
  clear hr1 hc1
  have HB := Aside0.mk (Below.refl w.heap.size w)
  have H : ((laws_szEdgeS.f l1 1048576).bind fun t537 => (if t537 < 0 then (some true) else ((laws_toEdgeS.f k l1).bind fun t538 => ((spec_TreeAt.f k a0 t538 a2).bind fun bt541 => ((laws_toEdgeS.f k l1).bind fun t545 => ((impl_TreeAt.f k a0 t545 a2).bind fun bt548 => ((laws_eqIntS.f k bt548.1 bt541.1).bind fun t552 => (if t552 = true then (laws_FnExactTreeAt.j0 k a0 l1 a2 bt541.1 bt541.2 t545 bt548.1 bt548.2 (bt548.2 != bt541.2)) else (laws_FnExactTreeAt.j0 k a0 l1 a2 bt541.1 bt541.2 t545 bt548.1 bt548.2 true))))))))) = some r := h
  clear h
  replace H := Option.bind_eq_some_iff.mp H
  obtain ⟨t537, A40, H⟩ := H
  replace H : (if t537 < 0 then (some true) else ((laws_toEdgeS.f k l1).bind fun t538 => ((spec_TreeAt.f k a0 t538 a2).bind fun bt541 => ((laws_toEdgeS.f k l1).bind fun t545 => ((impl_TreeAt.f k a0 t545 a2).bind fun bt548 => ((laws_eqIntS.f k bt548.1 bt541.1).bind fun t552 => (if t552 = true then (laws_FnExactTreeAt.j0 k a0 l1 a2 bt541.1 bt541.2 t545 bt548.1 bt548.2 (bt548.2 != bt541.2)) else (laws_FnExactTreeAt.j0 k a0 l1 a2 bt541.1 bt541.2 t545 bt548.1 bt548.2 true)))))))) = some r := H
  have A4 := Aside0.mk A40
  clear A40
  by_cases c5 : t537 < 0
  · rw [if_pos c5] at H
    have c5b0 : decide (t537 < 0) = true := decide_eq_true c5
    clear c5
    obtain rfl := Option.some.inj H
    go_enter Try.func8, Try.ntmps8
    go_wp2_with (first | ((with_reducible refine gate_callee (f := 23) rfl ?_); refine goesL_ (some 20) rfl rfl Try.func23 (by kernel_rfl) rfl #[.slice A1 l1.length c1, .int .i64 1048576] rfl (by (try simp only [List.map_toArray, List.map_cons, List.map_nil]); first | done | rfl | (simp only [List.length_drop, List.length_take]; rfl)) ?_; (with_reducible refine (laws_szEdgeS.calls _ _ l1 1048576 t537 _ ?side1 ?side2 A4.out).mono ?_); (case side1 => repeat (first | exact HR1.out | (with_reducible refine Kd.C_alloc ?_ _) | (with_reducible refine Kd.C_drewN ?_ _) | (with_reducible refine Kd.C_drew ?_))); (case side2 => exact HC1.out); rintro e w' ⟨rfl, ⟨nd, rfl⟩⟩; refine ⟨_, rfl, ?_⟩))
    go_ret
    exact ⟨by first | rfl | (simp [errW_none, errW_some] <;> rfl) | (simp [*, errW_none, errW_some] <;> rfl), by repeat (first | (with_reducible first | exact HB.out | apply below_alloc | apply pw_below_drewN | apply below_drew1) | exact HB.out)⟩
  · rw [if_neg c5] at H
    have c5b0 : decide (t537 < 0) = false := decide_eq_false c5
    clear c5
    replace H := Option.bind_eq_some_iff.mp H
    obtain ⟨t538, A60, H⟩ := H
    replace H : ((spec_TreeAt.f k a0 t538 a2).bind fun bt541 => ((laws_toEdgeS.f k l1).bind fun t545 => ((impl_TreeAt.f k a0 t545 a2).bind fun bt548 => ((laws_eqIntS.f k bt548.1 bt541.1).bind fun t552 => (if t552 = true then (laws_FnExactTreeAt.j0 k a0 l1 a2 bt541.1 bt541.2 t545 bt548.1 bt548.2 (bt548.2 != bt541.2)) else (laws_FnExactTreeAt.j0 k a0 l1 a2 bt541.1 bt541.2 t545 bt548.1 bt548.2 true)))))) = some r := H
    have A6 := Aside0.mk A60
    clear A60
    replace H := Option.bind_eq_some_iff.mp H
    obtain ⟨⟨t541, t542⟩, A70, H⟩ := H
    replace H : ((laws_toEdgeS.f k l1).bind fun t545 => ((impl_TreeAt.f k a0 t545 a2).bind fun bt548 => ((laws_eqIntS.f k bt548.1 t541).bind fun t552 => (if t552 = true then (laws_FnExactTreeAt.j0 k a0 l1 a2 t541 t542 t545 bt548.1 bt548.2 (bt548.2 != t542)) else (laws_FnExactTreeAt.j0 k a0 l1 a2 t541 t542 t545 bt548.1 bt548.2 true))))) = some r := H
    have A7 := Aside0.mk A70
    clear A70
    replace H := Option.bind_eq_some_iff.mp H
    obtain ⟨t545, A80, H⟩ := H
    replace H : ((impl_TreeAt.f k a0 t545 a2).bind fun bt548 => ((laws_eqIntS.f k bt548.1 t541).bind fun t552 => (if t552 = true then (laws_FnExactTreeAt.j0 k a0 l1 a2 t541 t542 t545 bt548.1 bt548.2 (bt548.2 != t542)) else (laws_FnExactTreeAt.j0 k a0 l1 a2 t541 t542 t545 bt548.1 bt548.2 true)))) = some r := H
    have A8 := Aside0.mk A80
    clear A80
    replace H := Option.bind_eq_some_iff.mp H
    obtain ⟨⟨t548, t549⟩, A90, H⟩ := H
    replace H : ((laws_eqIntS.f k t548 t541).bind fun t552 => (if t552 = true then (laws_FnExactTreeAt.j0 k a0 l1 a2 t541 t542 t545 t548 t549 (t549 != t542)) else (laws_FnExactTreeAt.j0 k a0 l1 a2 t541 t542 t545 t548 t549 true))) = some r := H
    have A9 := Aside0.mk A90
    clear A90
    have HC10 := Aside0.mk H
    clear H
    go_enter Try.func8, Try.ntmps8
    go_upto_region 8 with (first | ((with_reducible refine gate_callee (f := 23) rfl ?_); refine goesL_ (some 20) rfl rfl Try.func23 (by kernel_rfl) rfl #[.slice A1 l1.length c1, .int .i64 1048576] rfl (by (try simp only [List.map_toArray, List.map_cons, List.map_nil]); first | done | rfl | (simp only [List.length_drop, List.length_take]; rfl)) ?_; (with_reducible refine (laws_szEdgeS.calls _ _ l1 1048576 t537 _ ?side1 ?side2 A4.out).mono ?_); (case side1 => repeat (first | exact HR1.out | (with_reducible refine Kd.C_alloc ?_ _) | (with_reducible refine Kd.C_drewN ?_ _) | (with_reducible refine Kd.C_drew ?_))); (case side2 => exact HC1.out); rintro e w' ⟨rfl, ⟨nd, rfl⟩⟩; refine ⟨_, rfl, ?_⟩) | ((with_reducible refine gate_callee (f := 25) rfl ?_); refine goesL_ (some 26) rfl rfl Try.func25 (by kernel_rfl) rfl #[.slice A1 l1.length c1] rfl (by (try simp only [List.map_toArray, List.map_cons, List.map_nil]); first | done | rfl | (simp only [List.length_drop, List.length_take]; rfl)) ?_; (with_reducible refine (laws_toEdgeS.calls k _ _ l1 t538 _ ?side1 ?side2 A6.out).mono ?_); (case side1 => repeat (first | exact HR1.out | (with_reducible refine Kd.C_alloc ?_ _) | (with_reducible refine Kd.C_drewN ?_ _) | (with_reducible refine Kd.C_drew ?_))); (case side2 => exact HC1.out); rintro e w11 ⟨v539, rfl, ho0, hb⟩; refine ⟨_, rfl, ?_⟩; have n0_ := Aside0.mk (Kd.R_lower ho0 (below_size (by repeat (first | (with_reducible first | exact HB.out | apply below_alloc | apply pw_below_drewN | apply below_drew1) | exact HB.out)))); have n1_ := Aside0.mk (below_step (by repeat (first | (with_reducible first | exact HB.out | apply below_alloc | apply pw_below_drewN | apply below_drew1) | exact HB.out)) hb); clear HB; have HO540 := n0_; have HB := n1_; clear n0_ n1_; (try clear hb); (try clear hb2); (try clear hk); (try clear hi); (try clear ho0); obtain ⟨Ao12, co12, eo12⟩ := Kd.R_slice HO540.out; subst eo12) | ((with_reducible refine gate_callee (f := 33) rfl ?_); refine goesL_ (some 28) rfl rfl Try.func33 (by kernel_rfl) rfl #[.int .i64 a0, .slice Ao12 t538.length co12, .int .i64 a2] rfl (by (try simp only [List.map_toArray, List.map_cons, List.map_nil]); first | done | rfl | (simp only [List.length_drop, List.length_take]; rfl)) ?_; (with_reducible refine (spec_TreeAt.calls k a0 _ _ t538 a2 t541 t542 _ ?side1 ?side2 A7.out).mono ?_); (case side1 => repeat (first | exact (Kd.R_reads' HO540.out).2.2 | (with_reducible refine Kd.C_alloc ?_ _) | (with_reducible refine Kd.C_drewN ?_ _) | (with_reducible refine Kd.C_drew ?_))); (case side2 => exact (Kd.R_reads' HO540.out).2.1); rintro e w13 ⟨v543, rfl, ho0, hb⟩; refine ⟨_, rfl, ?_⟩; have n0_ := Aside0.mk (Kd.R_below (by (with_reducible repeat (first | apply Kd.R_alloc | apply Kd.R_drewN | apply Kd.R_drew)); exact HO540.out) hb); have n1_ := Aside0.mk (Kd.R_lower ho0 (below_size (by repeat (first | (with_reducible first | exact HB.out | apply below_alloc | apply pw_below_drewN | apply below_drew1) | exact HB.out)))); have n2_ := Aside0.mk (below_step (by repeat (first | (with_reducible first | exact HB.out | apply below_alloc | apply pw_below_drewN | apply below_drew1) | exact HB.out)) hb); clear HO540; clear HB; have HO540 := n0_; have HO544 := n1_; have HB := n2_; clear n0_ n1_ n2_; (try clear hb); (try clear hb2); (try clear hk); (try clear hi); (try clear ho0)) | ((with_reducible refine gate_callee (f := 25) rfl ?_); refine goesL_ (some 32) rfl rfl Try.func25 (by kernel_rfl) rfl #[.slice A1 l1.length c1] rfl (by (try simp only [List.map_toArray, List.map_cons, List.map_nil]); first | done | rfl | (simp only [List.length_drop, List.length_take]; rfl)) ?_; (with_reducible refine (laws_toEdgeS.calls k _ _ l1 t545 _ ?side1 ?side2 A8.out).mono ?_); (case side1 => repeat (first | exact (Kd.C_below HR1.out HB.out) | (with_reducible refine Kd.C_alloc ?_ _) | (with_reducible refine Kd.C_drewN ?_ _) | (with_reducible refine Kd.C_drew ?_))); (case side2 => exact HC1.out); rintro e w14 ⟨v546, rfl, ho0, hb⟩; refine ⟨_, rfl, ?_⟩; have n0_ := Aside0.mk (Kd.R_elder' (by (with_reducible repeat (first | apply Kd.R_alloc | apply Kd.R_drewN | apply Kd.R_drew)); exact HO540.out) (Kd.R_base ho0) hb); have n1_ := Aside0.mk (Kd.R_below (by (with_reducible repeat (first | apply Kd.R_alloc | apply Kd.R_drewN | apply Kd.R_drew)); exact HO544.out) hb); have n2_ := Aside0.mk (Kd.R_lower (Kd.R_new' ho0 (Kd.R_lt (by (with_reducible repeat (first | apply Kd.R_alloc | apply Kd.R_drewN | apply Kd.R_drew)); exact HO540.out))) (below_size (by repeat (first | (with_reducible first | exact HB.out | apply below_alloc | apply pw_below_drewN | apply below_drew1) | exact HB.out)))); have n3_ := Aside0.mk (below_step (by repeat (first | (with_reducible first | exact HB.out | apply below_alloc | apply pw_below_drewN | apply below_drew1) | exact HB.out)) hb); clear HO540; clear HO544; clear HB; have HO540 := n0_; have HO544 := n1_; have HO547 := n2_; have HB := n3_; clear n0_ n1_ n2_ n3_; (try clear hb); (try clear hb2); (try clear hk); (try clear hi); (try clear ho0); obtain ⟨Ao15, co15, eo15⟩ := Kd.R_slice HO547.out; subst eo15) | ((with_reducible refine gate_callee (f := 34) rfl ?_); refine goesL_ (some 37) rfl rfl Try.func34 (by kernel_rfl) rfl #[.int .i64 a0, .slice Ao15 t545.length co15, .int .i64 a2] rfl (by (try simp only [List.map_toArray, List.map_cons, List.map_nil]); first | done | rfl | (simp only [List.length_drop, List.length_take]; rfl)) ?_; (with_reducible refine (impl_TreeAt.calls k a0 _ _ t545 a2 t548 t549 _ ?side1 ?side2 A9.out).mono ?_); (case side1 => repeat (first | exact (Kd.R_reads' HO547.out).2.2 | (with_reducible refine Kd.C_alloc ?_ _) | (with_reducible refine Kd.C_drewN ?_ _) | (with_reducible refine Kd.C_drew ?_))); (case side2 => exact (Kd.R_reads' HO547.out).2.1); rintro e w16 ⟨v550, rfl, ho0, hb⟩; refine ⟨_, rfl, ?_⟩; have n0_ := Aside0.mk (Kd.R_below (by (with_reducible repeat (first | apply Kd.R_alloc | apply Kd.R_drewN | apply Kd.R_drew)); exact HO540.out) hb); have n1_ := Aside0.mk (Kd.R_elder' (by (with_reducible repeat (first | apply Kd.R_alloc | apply Kd.R_drewN | apply Kd.R_drew)); exact HO544.out) (Kd.R_base ho0) hb); have n2_ := Aside0.mk (Kd.R_below (by (with_reducible repeat (first | apply Kd.R_alloc | apply Kd.R_drewN | apply Kd.R_drew)); exact HO547.out) hb); have n3_ := Aside0.mk (Kd.R_lower (Kd.R_new' ho0 (Kd.R_lt (by (with_reducible repeat (first | apply Kd.R_alloc | apply Kd.R_drewN | apply Kd.R_drew)); exact HO544.out))) (below_size (by repeat (first | (with_reducible first | exact HB.out | apply below_alloc | apply pw_below_drewN | apply below_drew1) | exact HB.out)))); have n4_ := Aside0.mk (below_step (by repeat (first | (with_reducible first | exact HB.out | apply below_alloc | apply pw_below_drewN | apply below_drew1) | exact HB.out)) hb); clear HO540; clear HO544; clear HO547; clear HB; have HO540 := n0_; have HO544 := n1_; have HO547 := n2_; have HO551 := n3_; have HB := n4_; clear n0_ n1_ n2_ n3_ n4_; (try clear hb); (try clear hb2); (try clear hk); (try clear hi); (try clear ho0)))
    (try simp only [Act.put, List.setIfInBounds_toArray, List.set_cons_zero, List.set_cons_succ])
    go_cut [48] (fun v48 wc => ∃ (kq : Nat) (x48_9 : Bool), v48 = .bool x48_9 ∧ Aside0 (laws_FnExactTreeAt.j0 kq a0 l1 a2 t541 t542 t545 t548 t549 x48_9 = some r) ∧ Aside0 (kq ≤ k) ∧ Aside0 (Kd.R (Kd.int .i64) 3 wc w.heap.size (fun k_ => some k_ ≠ (v550 : Value).ownBlock) v543 t541) ∧ Aside0 (Kd.R k79 79 wc w.heap.size (fun _ => True) (.slice Ao15 t545.length co15) t545) ∧ Aside0 (Kd.R (Kd.int .i64) 3 wc w.heap.size (fun k_ => some k_ ≠ (v543 : Value).ownBlock) v550 t548) ∧ Aside0 (Below w.heap.size w wc))
    case first =>
      have H := HC10.out
      clear HC10
      replace H := Option.bind_eq_some_iff.mp H
      obtain ⟨t552, A170, H⟩ := H
      replace H : (if t552 = true then (laws_FnExactTreeAt.j0 k a0 l1 a2 t541 t542 t545 t548 t549 (t549 != t542)) else (laws_FnExactTreeAt.j0 k a0 l1 a2 t541 t542 t545 t548 t549 true)) = some r := H
      have A17 := Aside0.mk A170
      clear A170
      by_cases c18 : t552 = true
      · subst c18
        have H1 : (laws_FnExactTreeAt.j0 k a0 l1 a2 t541 t542 t545 t548 t549 (t549 != t542)) = some r := by rw [if_pos rfl] at H; exact H
        clear H
        have H := H1
        clear H1
        have H' := Aside0.mk H
        clear H
        obtain ⟨Ao19, co19, eo19⟩ := Kd.R_slice HO551.out
        subst eo19
        obtain ⟨Ao20, co20, eo20⟩ := Kd.R_slice HO544.out
        subst eo20
        go_wp2_with (first | ((with_reducible refine gate_callee (f := 16) rfl ?_); refine goesL_ (some 42) rfl rfl Try.func16 (by kernel_rfl) rfl #[.slice Ao19 t548.length co19, .slice Ao20 t541.length co20] rfl (by (try simp only [List.map_toArray, List.map_cons, List.map_nil]); first | done | rfl | (simp only [List.length_drop, List.length_take]; rfl)) ?_; (with_reducible refine (laws_eqIntS.calls k _ _ t548 _ _ t541 true _ ?side1 ?side2 ?side3 ?side4 A17.out).mono ?_); (case side1 => repeat (first | exact (Kd.R_reads' HO551.out).2.2 | (with_reducible refine Kd.C_alloc ?_ _) | (with_reducible refine Kd.C_drewN ?_ _) | (with_reducible refine Kd.C_drew ?_))); (case side2 => exact (Kd.R_reads' HO551.out).2.1); (case side3 => repeat (first | exact (Kd.R_reads' HO544.out).2.2 | (with_reducible refine Kd.C_alloc ?_ _) | (with_reducible refine Kd.C_drewN ?_ _) | (with_reducible refine Kd.C_drew ?_))); (case side4 => exact (Kd.R_reads' HO544.out).2.1); rintro e w' ⟨rfl, ⟨nd, rfl⟩⟩; refine ⟨_, rfl, ?_⟩))
        go_meet
        case rel => exact ⟨_, ((t549 != t542)), (by first | rfl | (simp; done) | (simp [*]; done)), H', ⟨by first | omega | exact Nat.le_refl _⟩, ⟨by (with_reducible repeat (first | apply Kd.R_alloc | apply Kd.R_drewN | apply Kd.R_drew)); exact Kd.R_mono HO544.out (fun _ hk => hk.2)⟩, ⟨by (with_reducible repeat (first | apply Kd.R_alloc | apply Kd.R_drewN | apply Kd.R_drew)); exact Kd.R_mono HO547.out (fun _ hk => trivial)⟩, ⟨by (with_reducible repeat (first | apply Kd.R_alloc | apply Kd.R_drewN | apply Kd.R_drew)); exact Kd.R_mono HO551.out (fun _ hk => hk.2)⟩, ⟨by repeat (first | (with_reducible first | exact HB.out | apply below_alloc | apply pw_below_drewN | apply below_drew1) | exact HB.out)⟩⟩
      · replace c18 := Bool.eq_false_iff.mpr c18
        subst c18
        have H1 : (laws_FnExactTreeAt.j0 k a0 l1 a2 t541 t542 t545 t548 t549 true) = some r := by rw [if_neg (show ¬ (false = true) by decide)] at H; exact H
        clear H
        have H := H1
        clear H1
        have H' := Aside0.mk H
        clear H
        obtain ⟨Ao21, co21, eo21⟩ := Kd.R_slice HO551.out
        subst eo21
        obtain ⟨Ao22, co22, eo22⟩ := Kd.R_slice HO544.out
        subst eo22
        go_wp2_with (first | ((with_reducible refine gate_callee (f := 16) rfl ?_); refine goesL_ (some 42) rfl rfl Try.func16 (by kernel_rfl) rfl #[.slice Ao21 t548.length co21, .slice Ao22 t541.length co22] rfl (by (try simp only [List.map_toArray, List.map_cons, List.map_nil]); first | done | rfl | (simp only [List.length_drop, List.length_take]; rfl)) ?_; (with_reducible refine (laws_eqIntS.calls k _ _ t548 _ _ t541 false _ ?side1 ?side2 ?side3 ?side4 A17.out).mono ?_); (case side1 => repeat (first | exact (Kd.R_reads' HO551.out).2.2 | (with_reducible refine Kd.C_alloc ?_ _) | (with_reducible refine Kd.C_drewN ?_ _) | (with_reducible refine Kd.C_drew ?_))); (case side2 => exact (Kd.R_reads' HO551.out).2.1); (case side3 => repeat (first | exact (Kd.R_reads' HO544.out).2.2 | (with_reducible refine Kd.C_alloc ?_ _) | (with_reducible refine Kd.C_drewN ?_ _) | (with_reducible refine Kd.C_drew ?_))); (case side4 => exact (Kd.R_reads' HO544.out).2.1); rintro e w' ⟨rfl, ⟨nd, rfl⟩⟩; refine ⟨_, rfl, ?_⟩))
        go_meet
        case rel => exact ⟨_, (true), (by first | rfl | (simp; done) | (simp [*]; done)), H', ⟨by first | omega | exact Nat.le_refl _⟩, ⟨by (with_reducible repeat (first | apply Kd.R_alloc | apply Kd.R_drewN | apply Kd.R_drew)); exact Kd.R_mono HO544.out (fun _ hk => hk.2)⟩, ⟨by (with_reducible repeat (first | apply Kd.R_alloc | apply Kd.R_drewN | apply Kd.R_drew)); exact Kd.R_mono HO547.out (fun _ hk => trivial)⟩, ⟨by (with_reducible repeat (first | apply Kd.R_alloc | apply Kd.R_drewN | apply Kd.R_drew)); exact Kd.R_mono HO551.out (fun _ hk => hk.2)⟩, ⟨by repeat (first | (with_reducible first | exact HB.out | apply below_alloc | apply pw_below_drewN | apply below_drew1) | exact HB.out)⟩⟩
    case rest =>
      clear HC10
      try clear c1
      try clear c2
      try clear p2
      try clear c3
      try clear c5
      try clear c5b0
      try clear c8
      try clear c16
      try clear c18
      obtain ⟨kq, x48_9, rfl, HA, HJ9, HO_8, HO_10, HO_11, HB⟩ := hcut
      cases kq with
      | zero => exact absurd HA.out (by simp [laws_FnExactTreeAt.j0])
      | succ kj9 =>
        have H := HA.out
        clear HA
        simp only [laws_FnExactTreeAt.j0] at H
        by_cases c23 : x48_9 = true
        · subst c23
          have H1 : (some false) = some r := by rw [if_pos rfl] at H; exact H
          clear H
          have H := H1
          clear H1
          obtain rfl := Option.some.inj H
          go_wp2
          go_ret
          exact ⟨by first | rfl | (simp [errW_none, errW_some] <;> rfl) | (simp [*, errW_none, errW_some] <;> rfl), by repeat (first | (with_reducible first | exact HB.out | apply below_alloc | apply pw_below_drewN | apply below_drew1) | exact HB.out)⟩
        · replace c23 := Bool.eq_false_iff.mpr c23
          subst c23
          have H1 : ((laws_toEdgeS.f kj9 l1).bind fun t553 => ((laws_eqEdgeS.f kj9 t545 t553).bind fun t556 => (if t556 = true then ((laws_markEdgeS.f kj9 t545 1).bind fun bt557 => (if bt557.1 < 0 then (laws_FnExactTreeAt.j1 kj9 a0 l1 a2 t541 t542 t548 true) else ((laws_eqIntS.f kj9 t548 t541).bind fun t559 => (if t559 = true then (laws_FnExactTreeAt.j1 kj9 a0 l1 a2 t541 t542 t548 (t549 != t542)) else (laws_FnExactTreeAt.j1 kj9 a0 l1 a2 t541 t542 t548 true))))) else (some false)))) = some r := by rw [if_neg (show ¬ (false = true) by decide)] at H; exact H
          clear H
          have H := H1
          clear H1
          replace H := Option.bind_eq_some_iff.mp H
          obtain ⟨t553, A240, H⟩ := H
          replace H : ((laws_eqEdgeS.f kj9 t545 t553).bind fun t556 => (if t556 = true then ((laws_markEdgeS.f kj9 t545 1).bind fun bt557 => (if bt557.1 < 0 then (laws_FnExactTreeAt.j1 kj9 a0 l1 a2 t541 t542 t548 true) else ((laws_eqIntS.f kj9 t548 t541).bind fun t559 => (if t559 = true then (laws_FnExactTreeAt.j1 kj9 a0 l1 a2 t541 t542 t548 (t549 != t542)) else (laws_FnExactTreeAt.j1 kj9 a0 l1 a2 t541 t542 t548 true))))) else (some false))) = some r := H
          have A24 := Aside0.mk A240
          clear A240
          replace H := Option.bind_eq_some_iff.mp H
          obtain ⟨t556, A250, H⟩ := H
          replace H : (if t556 = true then ((laws_markEdgeS.f kj9 t545 1).bind fun bt557 => (if bt557.1 < 0 then (laws_FnExactTreeAt.j1 kj9 a0 l1 a2 t541 t542 t548 true) else ((laws_eqIntS.f kj9 t548 t541).bind fun t559 => (if t559 = true then (laws_FnExactTreeAt.j1 kj9 a0 l1 a2 t541 t542 t548 (t549 != t542)) else (laws_FnExactTreeAt.j1 kj9 a0 l1 a2 t541 t542 t548 true))))) else (some false)) = some r := H
          have A25 := Aside0.mk A250
          clear A250
          by_cases c26 : t556 = true
          · subst c26
            have H1 : ((laws_markEdgeS.f kj9 t545 1).bind fun bt557 => (if bt557.1 < 0 then (laws_FnExactTreeAt.j1 kj9 a0 l1 a2 t541 t542 t548 true) else ((laws_eqIntS.f kj9 t548 t541).bind fun t559 => (if t559 = true then (laws_FnExactTreeAt.j1 kj9 a0 l1 a2 t541 t542 t548 (t549 != t542)) else (laws_FnExactTreeAt.j1 kj9 a0 l1 a2 t541 t542 t548 true))))) = some r := by rw [if_pos rfl] at H; exact H
            clear H
            have H := H1
            clear H1
            replace H := Option.bind_eq_some_iff.mp H
            obtain ⟨⟨t557, t558⟩, A270, H⟩ := H
            replace H : (if t557 < 0 then (laws_FnExactTreeAt.j1 kj9 a0 l1 a2 t541 t542 t548 true) else ((laws_eqIntS.f kj9 t548 t541).bind fun t559 => (if t559 = true then (laws_FnExactTreeAt.j1 kj9 a0 l1 a2 t541 t542 t548 (t549 != t542)) else (laws_FnExactTreeAt.j1 kj9 a0 l1 a2 t541 t542 t548 true)))) = some r := H
            have A27 := Aside0.mk A270
            clear A270
            have HC28 := Aside0.mk H
            clear H
            go_upto_region 14 with (first | ((with_reducible refine gate_callee (f := 25) rfl ?_); refine goesL_ (some 51) rfl rfl Try.func25 (by kernel_rfl) rfl #[.slice A1 l1.length c1] rfl (by (try simp only [List.map_toArray, List.map_cons, List.map_nil]); first | done | rfl | (simp only [List.length_drop, List.length_take]; rfl)) ?_; (with_reducible refine (laws_toEdgeS.calls kj9 _ _ l1 t553 _ ?side1 ?side2 A24.out).mono ?_); (case side1 => repeat (first | exact (Kd.C_below HR1.out HB.out) | (with_reducible refine Kd.C_alloc ?_ _) | (with_reducible refine Kd.C_drewN ?_ _) | (with_reducible refine Kd.C_drew ?_))); (case side2 => exact HC1.out); rintro e w29 ⟨v554, rfl, ho0, hb⟩; refine ⟨_, rfl, ?_⟩; have n0_ := Aside0.mk (Kd.R_below (by (with_reducible repeat (first | apply Kd.R_alloc | apply Kd.R_drewN | apply Kd.R_drew)); exact HO_8.out) hb); have n1_ := Aside0.mk (Kd.R_elder' (by (with_reducible repeat (first | apply Kd.R_alloc | apply Kd.R_drewN | apply Kd.R_drew)); exact HO_10.out) (Kd.R_base ho0) hb); have n2_ := Aside0.mk (Kd.R_below (by (with_reducible repeat (first | apply Kd.R_alloc | apply Kd.R_drewN | apply Kd.R_drew)); exact HO_11.out) hb); have n3_ := Aside0.mk (Kd.R_lower (Kd.R_new' ho0 (Kd.R_lt (by (with_reducible repeat (first | apply Kd.R_alloc | apply Kd.R_drewN | apply Kd.R_drew)); exact HO_10.out))) (below_size (by repeat (first | (with_reducible first | exact HB.out | apply below_alloc | apply pw_below_drewN | apply below_drew1) | exact HB.out)))); have n4_ := Aside0.mk (below_step (by repeat (first | (with_reducible first | exact HB.out | apply below_alloc | apply pw_below_drewN | apply below_drew1) | exact HB.out)) hb); clear HO_8; clear HO_10; clear HO_11; clear HB; have HO_8 := n0_; have HO_10 := n1_; have HO_11 := n2_; have HO555 := n3_; have HB := n4_; clear n0_ n1_ n2_ n3_ n4_; (try clear hb); (try clear hb2); (try clear hk); (try clear hi); (try clear ho0); obtain ⟨Ao30, co30, eo30⟩ := Kd.R_slice HO555.out; subst eo30) | ((with_reducible refine gate_callee (f := 27) rfl ?_); refine goesL_ (some 52) rfl rfl Try.func27 (by kernel_rfl) rfl #[.slice Ao15 t545.length co15, .slice Ao30 t553.length co30] rfl (by (try simp only [List.map_toArray, List.map_cons, List.map_nil]); first | done | rfl | (simp only [List.length_drop, List.length_take]; rfl)) ?_; (with_reducible refine (laws_eqEdgeS.calls kj9 _ _ t545 _ _ t553 true _ ?side1 ?side2 ?side3 ?side4 A25.out).mono ?_); (case side1 => repeat (first | exact (Kd.R_reads' HO_10.out).2.2 | (with_reducible refine Kd.C_alloc ?_ _) | (with_reducible refine Kd.C_drewN ?_ _) | (with_reducible refine Kd.C_drew ?_))); (case side2 => exact (Kd.R_reads' HO_10.out).2.1); (case side3 => repeat (first | exact (Kd.R_reads' HO555.out).2.2 | (with_reducible refine Kd.C_alloc ?_ _) | (with_reducible refine Kd.C_drewN ?_ _) | (with_reducible refine Kd.C_drew ?_))); (case side4 => exact (Kd.R_reads' HO555.out).2.1); rintro e w31 ⟨rfl, hb⟩; refine ⟨_, rfl, ?_⟩; have n0_ := Aside0.mk (Kd.R_below (by (with_reducible repeat (first | apply Kd.R_alloc | apply Kd.R_drewN | apply Kd.R_drew)); exact HO_8.out) hb); have n1_ := Aside0.mk (Kd.R_below (by (with_reducible repeat (first | apply Kd.R_alloc | apply Kd.R_drewN | apply Kd.R_drew)); exact HO_10.out) hb); have n2_ := Aside0.mk (Kd.R_below (by (with_reducible repeat (first | apply Kd.R_alloc | apply Kd.R_drewN | apply Kd.R_drew)); exact HO_11.out) hb); have n3_ := Aside0.mk (Kd.R_below (by (with_reducible repeat (first | apply Kd.R_alloc | apply Kd.R_drewN | apply Kd.R_drew)); exact HO555.out) hb); have n4_ := Aside0.mk (below_step (by repeat (first | (with_reducible first | exact HB.out | apply below_alloc | apply pw_below_drewN | apply below_drew1) | exact HB.out)) hb); clear HO_8; clear HO_10; clear HO_11; clear HO555; clear HB; have HO_8 := n0_; have HO_10 := n1_; have HO_11 := n2_; have HO555 := n3_; have HB := n4_; clear n0_ n1_ n2_ n3_ n4_; (try clear hb); (try clear hb2); (try clear hk); (try clear hi)) | ((with_reducible refine gate_callee (f := 35) rfl ?_); refine goesL_ (some 56) rfl rfl Try.func35 (by kernel_rfl) rfl #[.slice Ao15 t545.length co15, .int .i64 1] rfl (by (try simp only [List.map_toArray, List.map_cons, List.map_nil]); first | done | rfl | (simp only [List.length_drop, List.length_take]; rfl)) ?_; (with_reducible refine (laws_markEdgeS.calls kj9 (fun k_ => some k_ = (.slice Ao15 t545.length co15 : Value).ownBlock) (.slice Ao15 t545.length co15) t545 1 t557 t558 w _ ?side1 ?side2 A27.out).mono ?_); (case side1 => repeat (first | (with_reducible first | exact HB.out | apply below_alloc | apply pw_below_drewN | apply below_drew1) | exact HB.out)); (case side2 => exact Kd.R_tight rfl HO_10.out); rintro e w32 ⟨rfl, hy0, hb, hkp⟩; refine ⟨_, rfl, ?_⟩; have n0_ := Aside0.mk (Kd.R_mono (ok' := fun k_ => some k_ ≠ (v550 : Value).ownBlock) (Kd.R_keptB ((Kd.R_apart' HO_8.out (Kd.R_typed HO_10.out) (by decide))) hkp (fun k_ hk_ hs_ => (hk_.2) hs_)) (fun k_ hk_ => hk_.1.1)); have n1_ := Aside0.mk (Kd.R_reok rfl hy0 (fun k_ e_ => HO_10.out.1 k_ e_)); have n2_ := Aside0.mk (Kd.R_mono (ok' := fun k_ => some k_ ≠ (v543 : Value).ownBlock) (Kd.R_keptB ((Kd.R_apart' HO_11.out (Kd.R_typed HO_10.out) (by decide))) hkp (fun k_ hk_ hs_ => (hk_.2) hs_)) (fun k_ hk_ => hk_.1.1)); have n3_ := Aside0.mk (Kd.R_mono (ok' := fun k_ => some k_ ≠ (.slice Ao15 t545.length co15 : Value).ownBlock) (Kd.R_keptB (HO555.out) hkp (fun k_ hk_ hs_ => (hk_.2) hs_)) (fun k_ hk_ => hk_.1.2)); have n4_ := Aside0.mk (hb); clear HO_8; clear HO_10; clear HO_11; clear HO555; clear HB; have HO_8 := n0_; have HO_10 := n1_; have HO_11 := n2_; have HO555 := n3_; have HB := n4_; clear n0_ n1_ n2_ n3_ n4_; (try clear hb); (try clear hkp); (try clear hy0)))
            (try simp only [Act.put, List.setIfInBounds_toArray, List.set_cons_zero, List.set_cons_succ])
            go_cut [69] (fun v69 wc => ∃ (kq : Nat) (x69_27 : Bool), v69 = .bool x69_27 ∧ Aside0 (laws_FnExactTreeAt.j1 kq a0 l1 a2 t541 t542 t548 x69_27 = some r) ∧ Aside0 (kq ≤ kj9) ∧ Aside0 (Kd.R (Kd.int .i64) 3 wc w.heap.size (fun k_ => some k_ ≠ (v550 : Value).ownBlock) v543 t541) ∧ Aside0 (Kd.R (Kd.int .i64) 3 wc w.heap.size (fun k_ => some k_ ≠ (v543 : Value).ownBlock) v550 t548) ∧ Aside0 (Below w.heap.size w wc))
            case first =>
              have H := HC28.out
              clear HC28
              by_cases c33 : t557 < 0
              · rw [if_pos c33] at H
                have c33b0 : decide (t557 < 0) = true := decide_eq_true c33
                clear c33
                (first | rw [c33b0] | (simp only [i64_w, i32_w]; rw [c33b0]) | skip)
                have H' := Aside0.mk H
                clear H
                go_wp2
                go_meet
                case rel => exact ⟨_, (true), (by first | rfl | (simp; done) | (simp [*]; done)), H', ⟨by have := HJ9.out; first | omega | exact Nat.le_refl _⟩, ⟨by (with_reducible repeat (first | apply Kd.R_alloc | apply Kd.R_drewN | apply Kd.R_drew)); exact HO_8.out⟩, ⟨by (with_reducible repeat (first | apply Kd.R_alloc | apply Kd.R_drewN | apply Kd.R_drew)); exact HO_11.out⟩, ⟨by repeat (first | (with_reducible first | exact HB.out | apply below_alloc | apply pw_below_drewN | apply below_drew1) | exact HB.out)⟩⟩
              · rw [if_neg c33] at H
                have c33b0 : decide (t557 < 0) = false := decide_eq_false c33
                clear c33
                (first | rw [c33b0] | (simp only [i64_w, i32_w]; rw [c33b0]) | skip)
                replace H := Option.bind_eq_some_iff.mp H
                obtain ⟨t559, A340, H⟩ := H
                replace H : (if t559 = true then (laws_FnExactTreeAt.j1 kj9 a0 l1 a2 t541 t542 t548 (t549 != t542)) else (laws_FnExactTreeAt.j1 kj9 a0 l1 a2 t541 t542 t548 true)) = some r := H
                have A34 := Aside0.mk A340
                clear A340
                by_cases c35 : t559 = true
                · subst c35
                  have H1 : (laws_FnExactTreeAt.j1 kj9 a0 l1 a2 t541 t542 t548 (t549 != t542)) = some r := by rw [if_pos rfl] at H; exact H
                  clear H
                  have H := H1
                  clear H1
                  have H' := Aside0.mk H
                  clear H
                  obtain ⟨Ao36, co36, eo36⟩ := Kd.R_slice HO_11.out
                  subst eo36
                  obtain ⟨Ao37, co37, eo37⟩ := Kd.R_slice HO_8.out
                  subst eo37
                  go_wp2_with (first | (go_at_call 16; (with_reducible refine (laws_eqIntS.calls kj9 _ _ t548 _ _ t541 true _ ?side1 ?side2 ?side3 ?side4 A34.out).mono ?_); (case side1 => repeat (first | exact (Kd.R_reads' HO_11.out).2.2 | (with_reducible refine Kd.C_alloc ?_ _) | (with_reducible refine Kd.C_drewN ?_ _) | (with_reducible refine Kd.C_drew ?_))); (case side2 => exact (Kd.R_reads' HO_11.out).2.1); (case side3 => repeat (first | exact (Kd.R_reads' HO_8.out).2.2 | (with_reducible refine Kd.C_alloc ?_ _) | (with_reducible refine Kd.C_drewN ?_ _) | (with_reducible refine Kd.C_drew ?_))); (case side4 => exact (Kd.R_reads' HO_8.out).2.1); rintro e w' ⟨rfl, ⟨nd, rfl⟩⟩))
                  go_meet
                  case rel => exact ⟨_, ((t549 != t542)), (by first | rfl | (simp; done) | (simp [*]; done)), H', ⟨by have := HJ9.out; first | omega | exact Nat.le_refl _⟩, ⟨by (with_reducible repeat (first | apply Kd.R_alloc | apply Kd.R_drewN | apply Kd.R_drew)); exact HO_8.out⟩, ⟨by (with_reducible repeat (first | apply Kd.R_alloc | apply Kd.R_drewN | apply Kd.R_drew)); exact HO_11.out⟩, ⟨by repeat (first | (with_reducible first | exact HB.out | apply below_alloc | apply pw_below_drewN | apply below_drew1) | exact HB.out)⟩⟩
                · replace c35 := Bool.eq_false_iff.mpr c35
                  subst c35
                  have H1 : (laws_FnExactTreeAt.j1 kj9 a0 l1 a2 t541 t542 t548 true) = some r := by rw [if_neg (show ¬ (false = true) by decide)] at H; exact H
                  clear H
                  have H := H1
                  clear H1
                  have H' := Aside0.mk H
                  clear H
                  obtain ⟨Ao38, co38, eo38⟩ := Kd.R_slice HO_11.out
                  subst eo38
                  obtain ⟨Ao39, co39, eo39⟩ := Kd.R_slice HO_8.out
                  subst eo39
                  go_wp2_with (first | (go_at_call 16; (with_reducible refine (laws_eqIntS.calls kj9 _ _ t548 _ _ t541 false _ ?side1 ?side2 ?side3 ?side4 A34.out).mono ?_); (case side1 => repeat (first | exact (Kd.R_reads' HO_11.out).2.2 | (with_reducible refine Kd.C_alloc ?_ _) | (with_reducible refine Kd.C_drewN ?_ _) | (with_reducible refine Kd.C_drew ?_))); (case side2 => exact (Kd.R_reads' HO_11.out).2.1); (case side3 => repeat (first | exact (Kd.R_reads' HO_8.out).2.2 | (with_reducible refine Kd.C_alloc ?_ _) | (with_reducible refine Kd.C_drewN ?_ _) | (with_reducible refine Kd.C_drew ?_))); (case side4 => exact (Kd.R_reads' HO_8.out).2.1); rintro e w' ⟨rfl, ⟨nd, rfl⟩⟩))
                  go_meet
                  case rel => exact ⟨_, (true), (by first | rfl | (simp; done) | (simp [*]; done)), H', ⟨by have := HJ9.out; first | omega | exact Nat.le_refl _⟩, ⟨by (with_reducible repeat (first | apply Kd.R_alloc | apply Kd.R_drewN | apply Kd.R_drew)); exact HO_8.out⟩, ⟨by (with_reducible repeat (first | apply Kd.R_alloc | apply Kd.R_drewN | apply Kd.R_drew)); exact HO_11.out⟩, ⟨by repeat (first | (with_reducible first | exact HB.out | apply below_alloc | apply pw_below_drewN | apply below_drew1) | exact HB.out)⟩⟩
            case rest =>
              clear HC28
              try clear c1
              try clear c2
              try clear p2
              try clear c3
              try clear c5
              try clear c5b0
              try clear c8
              try clear c16
              try clear c18
              try clear c23
              try clear c25
              try clear c26
              try clear c27
              try clear c33
              try clear c33b0
              try clear c34
              try clear c35
              try clear p2
              obtain ⟨kq, x69_27, rfl, HA, HJ27, HO_8, HO_11, HB⟩ := hcut
              cases kq with
              | zero => exact absurd HA.out (by simp [laws_FnExactTreeAt.j1])
              | succ kj27 =>
                have H := HA.out
                clear HA
                simp only [laws_FnExactTreeAt.j1] at H
                by_cases c40 : x69_27 = true
                · subst c40
                  have H1 : (some false) = some r := by rw [if_pos rfl] at H; exact H
                  clear H
                  have H := H1
                  clear H1
                  obtain rfl := Option.some.inj H
                  go_wp2
                  go_ret
                  exact ⟨by first | rfl | (simp [errW_none, errW_some] <;> rfl) | (simp [*, errW_none, errW_some] <;> rfl), by repeat (first | (with_reducible first | exact HB.out | apply below_alloc | apply pw_below_drewN | apply below_drew1) | exact HB.out)⟩
                · replace c40 := Bool.eq_false_iff.mpr c40
                  subst c40
                  have H1 : ((laws_markIntS.f kj27 t548 1).bind fun bt560 => ((laws_heldIntS.f kj27 bt560.2 1).bind fun t562 => (if t562 < 0 then (some false) else (if t562 = bt560.1 then ((laws_toEdgeS.f kj27 l1).bind fun t563 => ((impl_TreeAt.f kj27 a0 t563 a2).bind fun bt566 => ((laws_eqIntS.f kj27 bt566.1 t541).bind fun t570 => (if t570 = true then (laws_FnExactTreeAt.j2 kj27 bt560.2 bt560.1 (bt566.2 != t542)) else (laws_FnExactTreeAt.j2 kj27 bt560.2 bt560.1 true))))) else (some false))))) = some r := by rw [if_neg (show ¬ (false = true) by decide)] at H; exact H
                  clear H
                  have H := H1
                  clear H1
                  replace H := Option.bind_eq_some_iff.mp H
                  obtain ⟨⟨t560, t561⟩, A410, H⟩ := H
                  replace H : ((laws_heldIntS.f kj27 t561 1).bind fun t562 => (if t562 < 0 then (some false) else (if t562 = t560 then ((laws_toEdgeS.f kj27 l1).bind fun t563 => ((impl_TreeAt.f kj27 a0 t563 a2).bind fun bt566 => ((laws_eqIntS.f kj27 bt566.1 t541).bind fun t570 => (if t570 = true then (laws_FnExactTreeAt.j2 kj27 t561 t560 (bt566.2 != t542)) else (laws_FnExactTreeAt.j2 kj27 t561 t560 true))))) else (some false)))) = some r := H
                  have A41 := Aside0.mk A410
                  clear A410
                  replace H := Option.bind_eq_some_iff.mp H
                  obtain ⟨t562, A420, H⟩ := H
                  replace H : (if t562 < 0 then (some false) else (if t562 = t560 then ((laws_toEdgeS.f kj27 l1).bind fun t563 => ((impl_TreeAt.f kj27 a0 t563 a2).bind fun bt566 => ((laws_eqIntS.f kj27 bt566.1 t541).bind fun t570 => (if t570 = true then (laws_FnExactTreeAt.j2 kj27 t561 t560 (bt566.2 != t542)) else (laws_FnExactTreeAt.j2 kj27 t561 t560 true))))) else (some false))) = some r := H
                  have A42 := Aside0.mk A420
                  clear A420
                  by_cases c43 : t562 < 0
                  · rw [if_pos c43] at H
                    have c43b0 : decide (t562 < 0) = true := decide_eq_true c43
                    clear c43
                    obtain rfl := Option.some.inj H
                    obtain ⟨Ao44, co44, eo44⟩ := Kd.R_slice HO_11.out
                    subst eo44
                    go_wp2_with (first | ((with_reducible refine gate_callee (f := 21) rfl ?_); refine goesL_ (some 72) rfl rfl Try.func21 (by kernel_rfl) rfl #[.slice Ao44 t548.length co44, .int .i64 1] rfl (by (try simp only [List.map_toArray, List.map_cons, List.map_nil]); first | done | rfl | (simp only [List.length_drop, List.length_take]; rfl)) ?_; (with_reducible refine (laws_markIntS.calls kj27 (fun k_ => some k_ = (.slice Ao44 t548.length co44 : Value).ownBlock) (.slice Ao44 t548.length co44) t548 1 t560 t561 w _ ?side1 ?side2 A41.out).mono ?_); (case side1 => repeat (first | (with_reducible first | exact HB.out | apply below_alloc | apply pw_below_drewN | apply below_drew1) | exact HB.out)); (case side2 => exact Kd.R_tight rfl HO_11.out); rintro e w45 ⟨rfl, hy0, hb, hkp⟩; refine ⟨_, rfl, ?_⟩; have n0_ := Aside0.mk (Kd.R_mono (ok' := fun k_ => some k_ ≠ (.slice Ao44 t548.length co44 : Value).ownBlock) (Kd.R_keptB (HO_8.out) hkp (fun k_ hk_ hs_ => (hk_) hs_)) (fun k_ hk_ => hk_.1)); have n1_ := Aside0.mk (Kd.R_reok rfl hy0 (fun k_ e_ => HO_11.out.1 k_ e_)); have n2_ := Aside0.mk (hb); clear HO_8; clear HO_11; clear HB; have HO_8 := n0_; have HO_11 := n1_; have HB := n2_; clear n0_ n1_ n2_; (try clear hb); (try clear hkp); (try clear hy0)) | ((with_reducible refine gate_callee (f := 22) rfl ?_); refine goesL_ (some 75) rfl rfl Try.func22 (by kernel_rfl) rfl #[.slice Ao44 t561.length co44, .int .i64 1] rfl (by (try simp only [List.map_toArray, List.map_cons, List.map_nil]); first | done | (rw [show t561.length = t548.length from (Kd.R_reads' HO_11.out).1.symm] <;> rfl) | rfl | (simp only [List.length_drop, List.length_take]; rfl)) ?_; (with_reducible refine (laws_heldIntS.calls kj27 _ _ t561 1 t562 _ ?side1 ?side2 A42.out).mono ?_); (case side1 => repeat (first | exact (Kd.R_reads' HO_11.out).2.2 | (with_reducible refine Kd.C_alloc ?_ _) | (with_reducible refine Kd.C_drewN ?_ _) | (with_reducible refine Kd.C_drew ?_))); (case side2 => rw [show t561.length = t548.length from (Kd.R_reads' HO_11.out).1.symm]; exact (Kd.R_reads' HO_11.out).2.1); rintro e w' ⟨rfl, ⟨nd, rfl⟩⟩; refine ⟨_, rfl, ?_⟩))
                    go_ret
                    exact ⟨by first | rfl | (simp [errW_none, errW_some] <;> rfl) | (simp [*, errW_none, errW_some] <;> rfl), by repeat (first | (with_reducible first | exact HB.out | apply below_alloc | apply pw_below_drewN | apply below_drew1) | exact HB.out)⟩
                  · rw [if_neg c43] at H
                    have c43b0 : decide (t562 < 0) = false := decide_eq_false c43
                    clear c43
                    by_cases c46 : t562 = t560
                    · rw [if_pos c46] at H
                      have c46b0 : (t562 == t560) = true := beq_iff_eq.mpr c46
                      have c46b1 : (t562 != t560) = false := bne_eq_false_iff_eq.mpr c46
                      clear c46
                      replace H := Option.bind_eq_some_iff.mp H
                      obtain ⟨t563, A470, H⟩ := H
                      replace H : ((impl_TreeAt.f kj27 a0 t563 a2).bind fun bt566 => ((laws_eqIntS.f kj27 bt566.1 t541).bind fun t570 => (if t570 = true then (laws_FnExactTreeAt.j2 kj27 t561 t560 (bt566.2 != t542)) else (laws_FnExactTreeAt.j2 kj27 t561 t560 true)))) = some r := H
                      have A47 := Aside0.mk A470
                      clear A470
                      replace H := Option.bind_eq_some_iff.mp H
                      obtain ⟨⟨t566, t567⟩, A480, H⟩ := H
                      replace H : ((laws_eqIntS.f kj27 t566 t541).bind fun t570 => (if t570 = true then (laws_FnExactTreeAt.j2 kj27 t561 t560 (t567 != t542)) else (laws_FnExactTreeAt.j2 kj27 t561 t560 true))) = some r := H
                      have A48 := Aside0.mk A480
                      clear A480
                      have HC49 := Aside0.mk H
                      clear H
                      obtain ⟨Ao50, co50, eo50⟩ := Kd.R_slice HO_11.out
                      subst eo50
                      go_upto_region 25 with (first | ((with_reducible refine gate_callee (f := 21) rfl ?_); refine goesL_ (some 72) rfl rfl Try.func21 (by kernel_rfl) rfl #[.slice Ao50 t548.length co50, .int .i64 1] rfl (by (try simp only [List.map_toArray, List.map_cons, List.map_nil]); first | done | rfl | (simp only [List.length_drop, List.length_take]; rfl)) ?_; (with_reducible refine (laws_markIntS.calls kj27 (fun k_ => some k_ = (.slice Ao50 t548.length co50 : Value).ownBlock) (.slice Ao50 t548.length co50) t548 1 t560 t561 w _ ?side1 ?side2 A41.out).mono ?_); (case side1 => repeat (first | (with_reducible first | exact HB.out | apply below_alloc | apply pw_below_drewN | apply below_drew1) | exact HB.out)); (case side2 => exact Kd.R_tight rfl HO_11.out); rintro e w51 ⟨rfl, hy0, hb, hkp⟩; refine ⟨_, rfl, ?_⟩; have n0_ := Aside0.mk (Kd.R_mono (ok' := fun k_ => some k_ ≠ (.slice Ao50 t548.length co50 : Value).ownBlock) (Kd.R_keptB (HO_8.out) hkp (fun k_ hk_ hs_ => (hk_) hs_)) (fun k_ hk_ => hk_.1)); have n1_ := Aside0.mk (Kd.R_reok rfl hy0 (fun k_ e_ => HO_11.out.1 k_ e_)); have n2_ := Aside0.mk (hb); clear HO_8; clear HO_11; clear HB; have HO_8 := n0_; have HO_11 := n1_; have HB := n2_; clear n0_ n1_ n2_; (try clear hb); (try clear hkp); (try clear hy0)) | ((with_reducible refine gate_callee (f := 22) rfl ?_); refine goesL_ (some 75) rfl rfl Try.func22 (by kernel_rfl) rfl #[.slice Ao50 t561.length co50, .int .i64 1] rfl (by (try simp only [List.map_toArray, List.map_cons, List.map_nil]); first | done | (rw [show t561.length = t548.length from (Kd.R_reads' HO_11.out).1.symm] <;> rfl) | rfl | (simp only [List.length_drop, List.length_take]; rfl)) ?_; (with_reducible refine (laws_heldIntS.calls kj27 _ _ t561 1 t562 _ ?side1 ?side2 A42.out).mono ?_); (case side1 => repeat (first | exact (Kd.R_reads' HO_11.out).2.2 | (with_reducible refine Kd.C_alloc ?_ _) | (with_reducible refine Kd.C_drewN ?_ _) | (with_reducible refine Kd.C_drew ?_))); (case side2 => rw [show t561.length = t548.length from (Kd.R_reads' HO_11.out).1.symm]; exact (Kd.R_reads' HO_11.out).2.1); rintro e w' ⟨rfl, ⟨nd, rfl⟩⟩; refine ⟨_, rfl, ?_⟩) | ((with_reducible refine gate_callee (f := 25) rfl ?_); refine goesL_ (some 84) rfl rfl Try.func25 (by kernel_rfl) rfl #[.slice A1 l1.length c1] rfl (by (try simp only [List.map_toArray, List.map_cons, List.map_nil]); first | done | rfl | (simp only [List.length_drop, List.length_take]; rfl)) ?_; (with_reducible refine (laws_toEdgeS.calls kj27 _ _ l1 t563 _ ?side1 ?side2 A47.out).mono ?_); (case side1 => repeat (first | exact (Kd.C_below HR1.out (by repeat (first | (with_reducible first | exact HB.out | apply below_alloc | apply pw_below_drewN | apply below_drew1) | exact HB.out))) | (with_reducible refine Kd.C_alloc ?_ _) | (with_reducible refine Kd.C_drewN ?_ _) | (with_reducible refine Kd.C_drew ?_))); (case side2 => exact HC1.out); rintro e w52 ⟨v564, rfl, ho0, hb⟩; refine ⟨_, rfl, ?_⟩; have n0_ := Aside0.mk (Kd.R_below (by (with_reducible repeat (first | apply Kd.R_alloc | apply Kd.R_drewN | apply Kd.R_drew)); exact HO_8.out) hb); have n1_ := Aside0.mk (Kd.R_below (by (with_reducible repeat (first | apply Kd.R_alloc | apply Kd.R_drewN | apply Kd.R_drew)); exact HO_11.out) hb); have n2_ := Aside0.mk (Kd.R_lower ho0 (below_size (by repeat (first | (with_reducible first | exact HB.out | apply below_alloc | apply pw_below_drewN | apply below_drew1) | exact HB.out)))); have n3_ := Aside0.mk (below_step (by repeat (first | (with_reducible first | exact HB.out | apply below_alloc | apply pw_below_drewN | apply below_drew1) | exact HB.out)) hb); clear HO_8; clear HO_11; clear HB; have HO_8 := n0_; have HO_11 := n1_; have HO565 := n2_; have HB := n3_; clear n0_ n1_ n2_ n3_; (try clear hb); (try clear hb2); (try clear hk); (try clear hi); (try clear ho0); obtain ⟨Ao53, co53, eo53⟩ := Kd.R_slice HO565.out; subst eo53) | ((with_reducible refine gate_callee (f := 34) rfl ?_); refine goesL_ (some 86) rfl rfl Try.func34 (by kernel_rfl) rfl #[.int .i64 a0, .slice Ao53 t563.length co53, .int .i64 a2] rfl (by (try simp only [List.map_toArray, List.map_cons, List.map_nil]); first | done | rfl | (simp only [List.length_drop, List.length_take]; rfl)) ?_; (with_reducible refine (impl_TreeAt.calls kj27 a0 _ _ t563 a2 t566 t567 _ ?side1 ?side2 A48.out).mono ?_); (case side1 => repeat (first | exact (Kd.R_reads' HO565.out).2.2 | (with_reducible refine Kd.C_alloc ?_ _) | (with_reducible refine Kd.C_drewN ?_ _) | (with_reducible refine Kd.C_drew ?_))); (case side2 => exact (Kd.R_reads' HO565.out).2.1); rintro e w54 ⟨v568, rfl, ho0, hb⟩; refine ⟨_, rfl, ?_⟩; have n0_ := Aside0.mk (Kd.R_elder' (by (with_reducible repeat (first | apply Kd.R_alloc | apply Kd.R_drewN | apply Kd.R_drew)); exact HO_8.out) (Kd.R_base ho0) hb); have n1_ := Aside0.mk (Kd.R_elder' (by (with_reducible repeat (first | apply Kd.R_alloc | apply Kd.R_drewN | apply Kd.R_drew)); exact HO_11.out) (Kd.R_base ho0) hb); have n2_ := Aside0.mk (Kd.R_below (by (with_reducible repeat (first | apply Kd.R_alloc | apply Kd.R_drewN | apply Kd.R_drew)); exact HO565.out) hb); have n3_ := Aside0.mk (Kd.R_lower (Kd.R_new' (Kd.R_new' ho0 (Kd.R_lt (by (with_reducible repeat (first | apply Kd.R_alloc | apply Kd.R_drewN | apply Kd.R_drew)); exact HO_8.out))) (Kd.R_lt (by (with_reducible repeat (first | apply Kd.R_alloc | apply Kd.R_drewN | apply Kd.R_drew)); exact HO_11.out))) (below_size (by repeat (first | (with_reducible first | exact HB.out | apply below_alloc | apply pw_below_drewN | apply below_drew1) | exact HB.out)))); have n4_ := Aside0.mk (below_step (by repeat (first | (with_reducible first | exact HB.out | apply below_alloc | apply pw_below_drewN | apply below_drew1) | exact HB.out)) hb); clear HO_8; clear HO_11; clear HO565; clear HB; have HO_8 := n0_; have HO_11 := n1_; have HO565 := n2_; have HO569 := n3_; have HB := n4_; clear n0_ n1_ n2_ n3_ n4_; (try clear hb); (try clear hb2); (try clear hk); (try clear hi); (try clear ho0)))
                      (try simp only [Act.put, List.setIfInBounds_toArray, List.set_cons_zero, List.set_cons_succ])
                      go_cut [97] (fun v97 wc => ∃ (kq : Nat) (x97_48 : Bool), v97 = .bool x97_48 ∧ Aside0 (laws_FnExactTreeAt.j2 kq t561 t560 x97_48 = some r) ∧ Aside0 (kq ≤ kj27) ∧ Aside0 (Kd.R (Kd.int .i64) 3 wc w.heap.size (fun _ => True) (.slice Ao50 t548.length co50) t561) ∧ Aside0 (Below w.heap.size w wc))
                      case first =>
                        have H := HC49.out
                        clear HC49
                        replace H := Option.bind_eq_some_iff.mp H
                        obtain ⟨t570, A550, H⟩ := H
                        replace H : (if t570 = true then (laws_FnExactTreeAt.j2 kj27 t561 t560 (t567 != t542)) else (laws_FnExactTreeAt.j2 kj27 t561 t560 true)) = some r := H
                        have A55 := Aside0.mk A550
                        clear A550
                        by_cases c56 : t570 = true
                        · subst c56
                          have H1 : (laws_FnExactTreeAt.j2 kj27 t561 t560 (t567 != t542)) = some r := by rw [if_pos rfl] at H; exact H
                          clear H
                          have H := H1
                          clear H1
                          have H' := Aside0.mk H
                          clear H
                          obtain ⟨Ao57, co57, eo57⟩ := Kd.R_slice HO569.out
                          subst eo57
                          obtain ⟨Ao58, co58, eo58⟩ := Kd.R_slice HO_8.out
                          subst eo58
                          go_wp2_with (first | ((with_reducible refine gate_callee (f := 16) rfl ?_); refine goesL_ (some 91) rfl rfl Try.func16 (by kernel_rfl) rfl #[.slice Ao57 t566.length co57, .slice Ao58 t541.length co58] rfl (by (try simp only [List.map_toArray, List.map_cons, List.map_nil]); first | done | rfl | (simp only [List.length_drop, List.length_take]; rfl)) ?_; (with_reducible refine (laws_eqIntS.calls kj27 _ _ t566 _ _ t541 true _ ?side1 ?side2 ?side3 ?side4 A55.out).mono ?_); (case side1 => repeat (first | exact (Kd.R_reads' HO569.out).2.2 | (with_reducible refine Kd.C_alloc ?_ _) | (with_reducible refine Kd.C_drewN ?_ _) | (with_reducible refine Kd.C_drew ?_))); (case side2 => exact (Kd.R_reads' HO569.out).2.1); (case side3 => repeat (first | exact (Kd.R_reads' HO_8.out).2.2 | (with_reducible refine Kd.C_alloc ?_ _) | (with_reducible refine Kd.C_drewN ?_ _) | (with_reducible refine Kd.C_drew ?_))); (case side4 => exact (Kd.R_reads' HO_8.out).2.1); rintro e w' ⟨rfl, ⟨nd, rfl⟩⟩; refine ⟨_, rfl, ?_⟩))
                          go_meet
                          case rel => exact ⟨_, ((t567 != t542)), (by first | rfl | (simp; done) | (simp [*]; done)), H', ⟨by have := HJ9.out; have := HJ27.out; first | omega | exact Nat.le_refl _⟩, ⟨by (with_reducible repeat (first | apply Kd.R_alloc | apply Kd.R_drewN | apply Kd.R_drew)); exact Kd.R_mono HO_11.out (fun _ hk => trivial)⟩, ⟨by repeat (first | (with_reducible first | exact HB.out | apply below_alloc | apply pw_below_drewN | apply below_drew1) | exact HB.out)⟩⟩
                        · replace c56 := Bool.eq_false_iff.mpr c56
                          subst c56
                          have H1 : (laws_FnExactTreeAt.j2 kj27 t561 t560 true) = some r := by rw [if_neg (show ¬ (false = true) by decide)] at H; exact H
                          clear H
                          have H := H1
                          clear H1
                          have H' := Aside0.mk H
                          clear H
                          obtain ⟨Ao59, co59, eo59⟩ := Kd.R_slice HO569.out
                          subst eo59
                          obtain ⟨Ao60, co60, eo60⟩ := Kd.R_slice HO_8.out
                          subst eo60
                          go_wp2_with (first | ((with_reducible refine gate_callee (f := 16) rfl ?_); refine goesL_ (some 91) rfl rfl Try.func16 (by kernel_rfl) rfl #[.slice Ao59 t566.length co59, .slice Ao60 t541.length co60] rfl (by (try simp only [List.map_toArray, List.map_cons, List.map_nil]); first | done | rfl | (simp only [List.length_drop, List.length_take]; rfl)) ?_; (with_reducible refine (laws_eqIntS.calls kj27 _ _ t566 _ _ t541 false _ ?side1 ?side2 ?side3 ?side4 A55.out).mono ?_); (case side1 => repeat (first | exact (Kd.R_reads' HO569.out).2.2 | (with_reducible refine Kd.C_alloc ?_ _) | (with_reducible refine Kd.C_drewN ?_ _) | (with_reducible refine Kd.C_drew ?_))); (case side2 => exact (Kd.R_reads' HO569.out).2.1); (case side3 => repeat (first | exact (Kd.R_reads' HO_8.out).2.2 | (with_reducible refine Kd.C_alloc ?_ _) | (with_reducible refine Kd.C_drewN ?_ _) | (with_reducible refine Kd.C_drew ?_))); (case side4 => exact (Kd.R_reads' HO_8.out).2.1); rintro e w' ⟨rfl, ⟨nd, rfl⟩⟩; refine ⟨_, rfl, ?_⟩))
                          go_meet
                          case rel => exact ⟨_, (true), (by first | rfl | (simp; done) | (simp [*]; done)), H', ⟨by have := HJ9.out; have := HJ27.out; first | omega | exact Nat.le_refl _⟩, ⟨by (with_reducible repeat (first | apply Kd.R_alloc | apply Kd.R_drewN | apply Kd.R_drew)); exact Kd.R_mono HO_11.out (fun _ hk => trivial)⟩, ⟨by repeat (first | (with_reducible first | exact HB.out | apply below_alloc | apply pw_below_drewN | apply below_drew1) | exact HB.out)⟩⟩
                      case rest =>
                        clear HC49
                        try clear c1
                        try clear c2
                        try clear p2
                        try clear c3
                        try clear c4
                        try clear c5
                        try clear c5b0
                        try clear c8
                        try clear c16
                        try clear c18
                        try clear c21
                        try clear c22
                        try clear c23
                        try clear c25
                        try clear c26
                        try clear c27
                        try clear c33
                        try clear c33b0
                        try clear c34
                        try clear c35
                        try clear c40
                        try clear c43
                        try clear c43b0
                        try clear c46
                        try clear c46b0
                        try clear c46b1
                        try clear c56
                        try clear p2
                        obtain ⟨kq, x97_48, rfl, HA, HJ48, HO_11, HB⟩ := hcut
                        have hl11_48 := (Kd.R_reads' HO_11.out).1
                        rw [hl11_48] at HO_11
                        (try simp only [hl11_48])
                        cases kq with
                        | zero => exact absurd HA.out (by simp [laws_FnExactTreeAt.j2])
                        | succ kj48 =>
                          have H := HA.out
                          clear HA
                          simp only [laws_FnExactTreeAt.j2] at H
                          by_cases c61 : x97_48 = true
                          · subst c61
                            have H1 : (some false) = some r := by rw [if_pos rfl] at H; exact H
                            clear H
                            have H := H1
                            clear H1
                            obtain rfl := Option.some.inj H
                            go_wp2
                            go_ret
                            exact ⟨by first | rfl | (simp [errW_none, errW_some] <;> rfl) | (simp [*, errW_none, errW_some] <;> rfl), by repeat (first | (with_reducible first | exact HB.out | apply below_alloc | apply pw_below_drewN | apply below_drew1) | exact HB.out)⟩
                          · replace c61 := Bool.eq_false_iff.mpr c61
                            subst c61
                            have H1 : ((laws_heldIntS.f kj48 t561 1).bind fun t571 => (if t571 < 0 then (some false) else (if t571 = t560 then (some true) else (some false)))) = some r := by rw [if_neg (show ¬ (false = true) by decide)] at H; exact H
                            clear H
                            have H := H1
                            clear H1
                            replace H := Option.bind_eq_some_iff.mp H
                            obtain ⟨t571, A620, H⟩ := H
                            replace H : (if t571 < 0 then (some false) else (if t571 = t560 then (some true) else (some false))) = some r := H
                            have A62 := Aside0.mk A620
                            clear A620
                            by_cases c63 : t571 < 0
                            · rw [if_pos c63] at H
                              have c63b0 : decide (t571 < 0) = true := decide_eq_true c63
                              clear c63
                              obtain rfl := Option.some.inj H
                              go_wp2_with (first | ((with_reducible refine gate_callee (f := 22) rfl ?_); refine goesL_ (some 100) rfl rfl Try.func22 (by kernel_rfl) rfl #[.slice Ao50 t561.length co50, .int .i64 1] rfl (by (try simp only [List.map_toArray, List.map_cons, List.map_nil]); first | done | rfl | (simp only [List.length_drop, List.length_take]; rfl)) ?_; (with_reducible refine (laws_heldIntS.calls kj48 _ _ t561 1 t571 _ ?side1 ?side2 A62.out).mono ?_); (case side1 => repeat (first | exact (Kd.R_reads' HO_11.out).2.2 | (with_reducible refine Kd.C_alloc ?_ _) | (with_reducible refine Kd.C_drewN ?_ _) | (with_reducible refine Kd.C_drew ?_))); (case side2 => exact (Kd.R_reads' HO_11.out).2.1); rintro e w' ⟨rfl, ⟨nd, rfl⟩⟩; refine ⟨_, rfl, ?_⟩))
                              go_ret
                              exact ⟨by first | rfl | (simp [errW_none, errW_some] <;> rfl) | (simp [*, errW_none, errW_some] <;> rfl), by repeat (first | (with_reducible first | exact HB.out | apply below_alloc | apply pw_below_drewN | apply below_drew1) | exact HB.out)⟩
                            · rw [if_neg c63] at H
                              have c63b0 : decide (t571 < 0) = false := decide_eq_false c63
                              clear c63
                              by_cases c64 : t571 = t560
                              · rw [if_pos c64] at H
                                have c64b0 : (t571 == t560) = true := beq_iff_eq.mpr c64
                                have c64b1 : (t571 != t560) = false := bne_eq_false_iff_eq.mpr c64
                                clear c64
                                obtain rfl := Option.some.inj H
                                go_wp2_with (first | ((with_reducible refine gate_callee (f := 22) rfl ?_); refine goesL_ (some 100) rfl rfl Try.func22 (by kernel_rfl) rfl #[.slice Ao50 t561.length co50, .int .i64 1] rfl (by (try simp only [List.map_toArray, List.map_cons, List.map_nil]); first | done | rfl | (simp only [List.length_drop, List.length_take]; rfl)) ?_; (with_reducible refine (laws_heldIntS.calls kj48 _ _ t561 1 t571 _ ?side1 ?side2 A62.out).mono ?_); (case side1 => repeat (first | exact (Kd.R_reads' HO_11.out).2.2 | (with_reducible refine Kd.C_alloc ?_ _) | (with_reducible refine Kd.C_drewN ?_ _) | (with_reducible refine Kd.C_drew ?_))); (case side2 => exact (Kd.R_reads' HO_11.out).2.1); rintro e w' ⟨rfl, ⟨nd, rfl⟩⟩; refine ⟨_, rfl, ?_⟩))
                                go_ret
                                exact ⟨by first | rfl | (simp [errW_none, errW_some] <;> rfl) | (simp [*, errW_none, errW_some] <;> rfl), by repeat (first | (with_reducible first | exact HB.out | apply below_alloc | apply pw_below_drewN | apply below_drew1) | exact HB.out)⟩
                              · rw [if_neg c64] at H
                                have c64b0 : (t571 == t560) = false := beq_eq_false_iff_ne.mpr c64
                                have c64b1 : (t571 != t560) = true := bne_iff_ne.mpr c64
                                obtain rfl := Option.some.inj H
                                go_wp2_with (first | ((with_reducible refine gate_callee (f := 22) rfl ?_); refine goesL_ (some 100) rfl rfl Try.func22 (by kernel_rfl) rfl #[.slice Ao50 t561.length co50, .int .i64 1] rfl (by (try simp only [List.map_toArray, List.map_cons, List.map_nil]); first | done | rfl | (simp only [List.length_drop, List.length_take]; rfl)) ?_; (with_reducible refine (laws_heldIntS.calls kj48 _ _ t561 1 t571 _ ?side1 ?side2 A62.out).mono ?_); (case side1 => repeat (first | exact (Kd.R_reads' HO_11.out).2.2 | (with_reducible refine Kd.C_alloc ?_ _) | (with_reducible refine Kd.C_drewN ?_ _) | (with_reducible refine Kd.C_drew ?_))); (case side2 => exact (Kd.R_reads' HO_11.out).2.1); rintro e w' ⟨rfl, ⟨nd, rfl⟩⟩; refine ⟨_, rfl, ?_⟩))
                                go_ret
                                exact ⟨by first | rfl | (simp [errW_none, errW_some] <;> rfl) | (simp [*, errW_none, errW_some] <;> rfl), by repeat (first | (with_reducible first | exact HB.out | apply below_alloc | apply pw_below_drewN | apply below_drew1) | exact HB.out)⟩
                    · rw [if_neg c46] at H
                      have c46b0 : (t562 == t560) = false := beq_eq_false_iff_ne.mpr c46
                      have c46b1 : (t562 != t560) = true := bne_iff_ne.mpr c46
                      obtain rfl := Option.some.inj H
                      obtain ⟨Ao65, co65, eo65⟩ := Kd.R_slice HO_11.out
                      subst eo65
                      go_wp2_with (first | ((with_reducible refine gate_callee (f := 21) rfl ?_); refine goesL_ (some 72) rfl rfl Try.func21 (by kernel_rfl) rfl #[.slice Ao65 t548.length co65, .int .i64 1] rfl (by (try simp only [List.map_toArray, List.map_cons, List.map_nil]); first | done | rfl | (simp only [List.length_drop, List.length_take]; rfl)) ?_; (with_reducible refine (laws_markIntS.calls kj27 (fun k_ => some k_ = (.slice Ao65 t548.length co65 : Value).ownBlock) (.slice Ao65 t548.length co65) t548 1 t560 t561 w _ ?side1 ?side2 A41.out).mono ?_); (case side1 => repeat (first | (with_reducible first | exact HB.out | apply below_alloc | apply pw_below_drewN | apply below_drew1) | exact HB.out)); (case side2 => exact Kd.R_tight rfl HO_11.out); rintro e w66 ⟨rfl, hy0, hb, hkp⟩; refine ⟨_, rfl, ?_⟩; have n0_ := Aside0.mk (Kd.R_mono (ok' := fun k_ => some k_ ≠ (.slice Ao65 t548.length co65 : Value).ownBlock) (Kd.R_keptB (HO_8.out) hkp (fun k_ hk_ hs_ => (hk_) hs_)) (fun k_ hk_ => hk_.1)); have n1_ := Aside0.mk (Kd.R_reok rfl hy0 (fun k_ e_ => HO_11.out.1 k_ e_)); have n2_ := Aside0.mk (hb); clear HO_8; clear HO_11; clear HB; have HO_8 := n0_; have HO_11 := n1_; have HB := n2_; clear n0_ n1_ n2_; (try clear hb); (try clear hkp); (try clear hy0)) | ((with_reducible refine gate_callee (f := 22) rfl ?_); refine goesL_ (some 75) rfl rfl Try.func22 (by kernel_rfl) rfl #[.slice Ao65 t561.length co65, .int .i64 1] rfl (by (try simp only [List.map_toArray, List.map_cons, List.map_nil]); first | done | (rw [show t561.length = t548.length from (Kd.R_reads' HO_11.out).1.symm] <;> rfl) | rfl | (simp only [List.length_drop, List.length_take]; rfl)) ?_; (with_reducible refine (laws_heldIntS.calls kj27 _ _ t561 1 t562 _ ?side1 ?side2 A42.out).mono ?_); (case side1 => repeat (first | exact (Kd.R_reads' HO_11.out).2.2 | (with_reducible refine Kd.C_alloc ?_ _) | (with_reducible refine Kd.C_drewN ?_ _) | (with_reducible refine Kd.C_drew ?_))); (case side2 => rw [show t561.length = t548.length from (Kd.R_reads' HO_11.out).1.symm]; exact (Kd.R_reads' HO_11.out).2.1); rintro e w' ⟨rfl, ⟨nd, rfl⟩⟩; refine ⟨_, rfl, ?_⟩))
                      go_ret
                      exact ⟨by first | rfl | (simp [errW_none, errW_some] <;> rfl) | (simp [*, errW_none, errW_some] <;> rfl), by repeat (first | (with_reducible first | exact HB.out | apply below_alloc | apply pw_below_drewN | apply below_drew1) | exact HB.out)⟩
          · replace c26 := Bool.eq_false_iff.mpr c26
            subst c26
            have H1 : (some false) = some r := by rw [if_neg (show ¬ (false = true) by decide)] at H; exact H
            clear H
            have H := H1
            clear H1
            obtain rfl := Option.some.inj H
            go_wp2_with (first | ((with_reducible refine gate_callee (f := 25) rfl ?_); refine goesL_ (some 51) rfl rfl Try.func25 (by kernel_rfl) rfl #[.slice A1 l1.length c1] rfl (by (try simp only [List.map_toArray, List.map_cons, List.map_nil]); first | done | rfl | (simp only [List.length_drop, List.length_take]; rfl)) ?_; (with_reducible refine (laws_toEdgeS.calls kj9 _ _ l1 t553 _ ?side1 ?side2 A24.out).mono ?_); (case side1 => repeat (first | exact (Kd.C_below HR1.out HB.out) | (with_reducible refine Kd.C_alloc ?_ _) | (with_reducible refine Kd.C_drewN ?_ _) | (with_reducible refine Kd.C_drew ?_))); (case side2 => exact HC1.out); rintro e w67 ⟨v554, rfl, ho0, hb⟩; refine ⟨_, rfl, ?_⟩; have n0_ := Aside0.mk (Kd.R_below (by (with_reducible repeat (first | apply Kd.R_alloc | apply Kd.R_drewN | apply Kd.R_drew)); exact HO_8.out) hb); have n1_ := Aside0.mk (Kd.R_elder' (by (with_reducible repeat (first | apply Kd.R_alloc | apply Kd.R_drewN | apply Kd.R_drew)); exact HO_10.out) (Kd.R_base ho0) hb); have n2_ := Aside0.mk (Kd.R_below (by (with_reducible repeat (first | apply Kd.R_alloc | apply Kd.R_drewN | apply Kd.R_drew)); exact HO_11.out) hb); have n3_ := Aside0.mk (Kd.R_lower (Kd.R_new' ho0 (Kd.R_lt (by (with_reducible repeat (first | apply Kd.R_alloc | apply Kd.R_drewN | apply Kd.R_drew)); exact HO_10.out))) (below_size (by repeat (first | (with_reducible first | exact HB.out | apply below_alloc | apply pw_below_drewN | apply below_drew1) | exact HB.out)))); have n4_ := Aside0.mk (below_step (by repeat (first | (with_reducible first | exact HB.out | apply below_alloc | apply pw_below_drewN | apply below_drew1) | exact HB.out)) hb); clear HO_8; clear HO_10; clear HO_11; clear HB; have HO_8 := n0_; have HO_10 := n1_; have HO_11 := n2_; have HO555 := n3_; have HB := n4_; clear n0_ n1_ n2_ n3_ n4_; (try clear hb); (try clear hb2); (try clear hk); (try clear hi); (try clear ho0); obtain ⟨Ao68, co68, eo68⟩ := Kd.R_slice HO555.out; subst eo68) | ((with_reducible refine gate_callee (f := 27) rfl ?_); refine goesL_ (some 52) rfl rfl Try.func27 (by kernel_rfl) rfl #[.slice Ao15 t545.length co15, .slice Ao68 t553.length co68] rfl (by (try simp only [List.map_toArray, List.map_cons, List.map_nil]); first | done | rfl | (simp only [List.length_drop, List.length_take]; rfl)) ?_; (with_reducible refine (laws_eqEdgeS.calls kj9 _ _ t545 _ _ t553 false _ ?side1 ?side2 ?side3 ?side4 A25.out).mono ?_); (case side1 => repeat (first | exact (Kd.R_reads' HO_10.out).2.2 | (with_reducible refine Kd.C_alloc ?_ _) | (with_reducible refine Kd.C_drewN ?_ _) | (with_reducible refine Kd.C_drew ?_))); (case side2 => exact (Kd.R_reads' HO_10.out).2.1); (case side3 => repeat (first | exact (Kd.R_reads' HO555.out).2.2 | (with_reducible refine Kd.C_alloc ?_ _) | (with_reducible refine Kd.C_drewN ?_ _) | (with_reducible refine Kd.C_drew ?_))); (case side4 => exact (Kd.R_reads' HO555.out).2.1); rintro e w69 ⟨rfl, hb⟩; refine ⟨_, rfl, ?_⟩; have n0_ := Aside0.mk (Kd.R_below (by (with_reducible repeat (first | apply Kd.R_alloc | apply Kd.R_drewN | apply Kd.R_drew)); exact HO_8.out) hb); have n1_ := Aside0.mk (Kd.R_below (by (with_reducible repeat (first | apply Kd.R_alloc | apply Kd.R_drewN | apply Kd.R_drew)); exact HO_10.out) hb); have n2_ := Aside0.mk (Kd.R_below (by (with_reducible repeat (first | apply Kd.R_alloc | apply Kd.R_drewN | apply Kd.R_drew)); exact HO_11.out) hb); have n3_ := Aside0.mk (Kd.R_below (by (with_reducible repeat (first | apply Kd.R_alloc | apply Kd.R_drewN | apply Kd.R_drew)); exact HO555.out) hb); have n4_ := Aside0.mk (below_step (by repeat (first | (with_reducible first | exact HB.out | apply below_alloc | apply pw_below_drewN | apply below_drew1) | exact HB.out)) hb); clear HO_8; clear HO_10; clear HO_11; clear HO555; clear HB; have HO_8 := n0_; have HO_10 := n1_; have HO_11 := n2_; have HO555 := n3_; have HB := n4_; clear n0_ n1_ n2_ n3_ n4_; (try clear hb); (try clear hb2); (try clear hk); (try clear hi)))
            go_ret
            exact ⟨by first | rfl | (simp [errW_none, errW_some] <;> rfl) | (simp [*, errW_none, errW_some] <;> rfl), by repeat (first | (with_reducible first | exact HB.out | apply below_alloc | apply pw_below_drewN | apply below_drew1) | exact HB.out)⟩
end Go.Proofs.Ytedegfbheihopaa.P

namespace Go.Proofs.Ytedegfbheihopaa.P
open Go.RowKit Go.Proofs.YtedegfbheihopaaW.PrintWords Go.Proofs.YtedegfbheihopaaW.PrintLast
def wfS81 (s : S81) : Prop := (fun n : Int => (Lit.int .i64 n).wf = true) s.f0 ∧ (fun n : Int => (Lit.int .i64 n).wf = true) s.f1 ∧ (fun n : Int => (Lit.int .i64 n).wf = true) s.f2
/-- The one pure statement of laws_FnExactTreeAt. -/
def laws_FnExactTreeAt.Pure : Prop := ∀ (a0 : Int) (l1 : List (S81)) (a2 : Int), (fun n : Int => (Lit.int .i64 n).wf = true) a0 → (fun l : List (S81) => l.length ≤ maxLen ∧ ∀ x ∈ l, wfS81 x) l1 → (fun n : Int => (Lit.int .i64 n).wf = true) a2 → ∃ k, laws_FnExactTreeAt.f k a0 l1 a2 = some true
end Go.Proofs.Ytedegfbheihopaa.P

namespace Go.Proofs.Ytedegfbheihopaa.P
open Go.RowKit Go.Proofs.YtedegfbheihopaaW.PrintWords
set_option linter.unusedVariables false
set_option linter.unusedSimpArgs false
theorem wrap_id {x : Int} (h0 : -9223372036854775808 ≤ x) (h1 : x ≤ 9223372036854775807) : wrap64 x = x := by unfold wrap64; omega
theorem Ev.succ {α : Type} {g : Nat → Option α} {r : α} (h : Ev (fun k => g (k + 1)) r) : Ev g r := Ev.step (fun _ => rfl) h
theorem Ev.some_ {α : Type} {r s : α} (h : r = s) : Ev (fun _ => some r) s := h ▸ Ev.now r
theorem getD_mid {α : Type} (d : α) (pre : List α) (x : α) (suf : List α) : (pre ++ x :: suf).getD ((pre.length : Int)).toNat d = x := by simp
theorem set_mid {α : Type} (pre : List α) (x y : α) (suf : List α) : (pre ++ x :: suf).set ((pre.length : Int)).toNat y = pre ++ y :: suf := by simp
theorem app_one {α : Type} (pre : List α) (x : α) (suf : List α) : pre ++ x :: suf = (pre ++ [x]) ++ suf := by simp
theorem len_mid {α : Type} (pre : List α) (x : α) (suf : List α) : ((pre ++ x :: suf).length : Int) = pre.length + suf.length + 1 := by simp; omega
theorem len_one {α : Type} (pre : List α) (x : α) : ((pre ++ [x]).length : Int) = pre.length + 1 := by simp
theorem nil_or_snoc {α : Type} (l : List α) : l = [] ∨ ∃ p y, l = p ++ [y] := by
  rcases List.eq_nil_or_concat l with rfl | ⟨p, y, rfl⟩
  · exact .inl rfl
  · exact .inr ⟨p, y, by simp⟩
end Go.Proofs.Ytedegfbheihopaa.P

namespace Go.Proofs.Ytedegfbheihopaa.P
open Go.RowKit Go.Proofs.YtedegfbheihopaaW.PrintWords Go.Proofs.YtedegfbheihopaaW.PrintLast
set_option linter.unusedVariables false
set_option linter.unusedSimpArgs false
theorem rdEdge_mid (pre : List S79) (x : S79) (suf : List S79) : rd_T79 (pre ++ x :: suf) (pre.length : Int) = x := getD_mid _ pre x suf
theorem rdLEdge_mid (pre : List S81) (x : S81) (suf : List S81) : rd_T81 (pre ++ x :: suf) (pre.length : Int) = x := getD_mid _ pre x suf
instance decEdge : DecidableEq S79 := fun a b => decidable_of_iff (a.f0 = b.f0 ∧ a.f1 = b.f1 ∧ a.f2 = b.f2) (by cases a; cases b; simp)
def cvEdge (x : S81) : S79 := ⟨x.f0, x.f1, x.f2⟩
theorem toEdgeS_l (suf : List S81) : ∀ (pre : List S81) (k : Nat), suf.length < k → (pre.length : Int) + suf.length ≤ 1099511627776 →
    laws_toEdgeS.l0 k (pre ++ suf) (pre.map cvEdge ++ List.replicate suf.length z79) (pre.length : Int) = some ((pre ++ suf).map cvEdge) := by
  induction suf with
  | nil =>
    intro pre k hk hb
    obtain ⟨k, rfl⟩ : ∃ m, k = m + 1 := ⟨k - 1, by omega⟩
    simp only [laws_toEdgeS.l0]
    rw [if_neg (by simp)]
    simp
  | cons x suf ih =>
    intro pre k hk hb
    simp only [List.length_cons] at hk hb
    obtain ⟨k, rfl⟩ : ∃ m, k = m + 1 := ⟨k - 1, by omega⟩
    have h := ih (pre ++ [x]) k (by omega) (by simp; omega)
    simp only [laws_toEdgeS.l0]
    rw [if_pos (by simp; omega), if_pos (by omega), rdLEdge_mid]
    simp only [laws_toEdge.f, Option.bind_some]
    rw [if_pos (by simp; omega), wrap_id (by omega) (by omega)]
    have e : (pre.map cvEdge ++ List.replicate (x :: suf).length z79).set ((pre.length : Int)).toNat (⟨x.f0, x.f1, x.f2⟩ : S79) = (pre ++ [x]).map cvEdge ++ List.replicate suf.length z79 := by
      simp [List.replicate_succ, cvEdge]
    rw [e]
    simpa using h
theorem toEdgeS_ev (l : List S81) (hl : l.length ≤ 1048576) : Ev (fun k => laws_toEdgeS.f k l) (l.map cvEdge) := by
  refine ⟨l.length + 1, fun k hk => ?_⟩
  have h := toEdgeS_l l [] k (by omega) (by simp; omega)
  show laws_toEdgeS.f k l = _
  unfold laws_toEdgeS.f
  rw [if_pos (by omega), if_pos (by simp; omega)]
  simpa using h
theorem eqEdge_is (a b : S79) : laws_eqEdge.f a.f0 a.f1 a.f2 b.f0 b.f1 b.f2 = some (decide (a = b)) := by
  cases a; cases b
  unfold laws_eqEdge.f
  simp only [S79.mk.injEq]
  split
  · split
    · split
      · rename_i h1 h2 h3; simp [h1, h2, h3]
      · rename_i h1 h2 h3; simp [h3]
    · rename_i h1 h2; simp [h2]
  · rename_i h1; simp [h1]
theorem eqEdgeS_l (s : List S79) : ∀ (t pre qre : List S79) (k : Nat), s.length < k → pre.length = qre.length → s.length = t.length → (pre.length : Int) + s.length ≤ 1099511627776 →
    laws_eqEdgeS.l0 k (pre ++ s) (qre ++ t) (pre.length : Int) = some (decide (s = t)) := by
  induction s with
  | nil =>
    intro t pre qre k hk hq hl hb
    obtain ⟨k, rfl⟩ : ∃ m, k = m + 1 := ⟨k - 1, by omega⟩
    obtain rfl : t = [] := List.eq_nil_of_length_eq_zero (by simpa using hl.symm)
    simp only [laws_eqEdgeS.l0]
    rw [if_neg (by simp)]
    simp
  | cons x s ih =>
    intro t pre qre k hk hq hl hb
    cases t with
    | nil => simp at hl
    | cons y t =>
      simp only [List.length_cons] at hk hl hb
      obtain ⟨k, rfl⟩ : ∃ m, k = m + 1 := ⟨k - 1, by omega⟩
      have h := ih t (pre ++ [x]) (qre ++ [y]) k (by omega) (by simp; omega) (by omega) (by simp; omega)
      have hy : rd_T79 (qre ++ y :: t) (pre.length : Int) = y := by rw [hq]; exact rdEdge_mid qre y t
      simp only [laws_eqEdgeS.l0]
      rw [if_pos (by simp; omega), if_pos (by omega), if_pos (by simp; omega), rdEdge_mid, hy, eqEdge_is, wrap_id (by omega) (by omega)]
      simp only [Option.bind_some]
      by_cases e : x = y
      · subst e
        rw [if_pos (by simp)]
        simpa using h
      · rw [if_neg (by simpa using e)]
        simp [e]
theorem eqEdgeS_ev (s t : List S79) (hs : s.length ≤ 1099511627776) : Ev (fun k => laws_eqEdgeS.f k s t) (decide (s = t)) := by
  refine ⟨s.length + 1, fun k hk => ?_⟩
  show laws_eqEdgeS.f k s t = _
  unfold laws_eqEdgeS.f
  by_cases hl : s.length = t.length
  · rw [if_pos (by omega)]
    exact eqEdgeS_l s t [] [] k (by omega) rfl hl (by simp; omega)
  · rw [if_neg (by omega)]
    have : s ≠ t := fun e => hl (by rw [e])
    simp [this]
theorem szEdgeS_is (l : List S81) (hl : l.length ≤ maxLen) (a : Int) (h0 : 0 ≤ a) (h1 : a ≤ 1048576) : laws_szEdgeS.f l a = some (if a - l.length < 0 then -1 else a - l.length) := by
  have hm : l.length ≤ 9223372036854775807 := by unfold maxLen at hl; exact hl
  unfold laws_szEdgeS.f
  rw [wrap_id (by omega) (by omega)]
  split <;> rfl
end Go.Proofs.Ytedegfbheihopaa.P

namespace Go.Proofs.Ytedegfbheihopaa.P
open Go.RowKit Go.Proofs.YtedegfbheihopaaW.PrintWords Go.Proofs.YtedegfbheihopaaW.PrintLast
set_option linter.unusedVariables false
set_option linter.unusedSimpArgs false
theorem rd_mid (pre : List Int) (x : Int) (suf : List Int) : rd (pre ++ x :: suf) (pre.length : Int) = x := getD_mid _ pre x suf
theorem eqIntS_l (s : List Int) : ∀ (t pre qre : List Int) (k : Nat), s.length < k → pre.length = qre.length → s.length = t.length → (pre.length : Int) + s.length ≤ 1099511627776 →
    laws_eqIntS.l0 k (pre ++ s) (qre ++ t) (pre.length : Int) = some (decide (s = t)) := by
  induction s with
  | nil =>
    intro t pre qre k hk hq hl hb
    obtain ⟨k, rfl⟩ : ∃ m, k = m + 1 := ⟨k - 1, by omega⟩
    obtain rfl : t = [] := List.eq_nil_of_length_eq_zero (by simpa using hl.symm)
    simp only [laws_eqIntS.l0]
    rw [if_neg (by simp)]
    simp
  | cons x s ih =>
    intro t pre qre k hk hq hl hb
    cases t with
    | nil => simp at hl
    | cons y t =>
      simp only [List.length_cons] at hk hl hb
      obtain ⟨k, rfl⟩ : ∃ m, k = m + 1 := ⟨k - 1, by omega⟩
      have h := ih t (pre ++ [x]) (qre ++ [y]) k (by omega) (by simp; omega) (by omega) (by simp; omega)
      have hy : rd (qre ++ y :: t) (pre.length : Int) = y := by rw [hq]; exact rd_mid qre y t
      simp only [laws_eqIntS.l0]
      rw [if_pos (by simp <;> omega), if_pos (by omega), if_pos (by simp <;> omega), rd_mid, hy, wrap_id (by omega) (by omega)]
      by_cases e : x = y
      · subst e
        rw [if_pos rfl]
        simpa using h
      · rw [if_neg e]
        simp [e]
theorem eqIntS_ev (s t : List Int) (hs : s.length ≤ 1099511627776) : Ev (fun k => laws_eqIntS.f k s t) (decide (s = t)) := by
  refine ⟨s.length + 1, fun k hk => ?_⟩
  show laws_eqIntS.f k s t = _
  unfold laws_eqIntS.f
  by_cases hl : s.length = t.length
  · rw [if_pos (by omega)]
    exact eqIntS_l s t [] [] k (by omega) rfl hl (by simp; omega)
  · rw [if_neg (by omega)]
    have : s ≠ t := fun e => hl (by rw [e])
    simp [this]
end Go.Proofs.Ytedegfbheihopaa.P

namespace Go.Proofs.Ytedegfbheihopaa.P
open Go.RowKit Go.Proofs.YtedegfbheihopaaW.PrintWords Go.Proofs.YtedegfbheihopaaW.PrintLast
set_option linter.unusedVariables false
set_option linter.unusedSimpArgs false
-- sweeps over a list of numbers, and a list taken over, both sides
theorem specIn (a b c : Int) : spec_l1In.f a b c = some (decide (b ≤ a ∧ a ≤ c)) := by
  unfold spec_l1In.f
  by_cases h : a ≥ b
  · rw [if_pos h]
    congr 1
    by_cases h2 : a ≤ c
    · rw [decide_eq_true h2, decide_eq_true ⟨h, h2⟩]
    · rw [decide_eq_false h2, decide_eq_false (fun hc => h2 hc.2)]
  · rw [if_neg h, decide_eq_false (fun hc => h hc.1)]
theorem implIn (a b c : Int) : impl_in.f a b c = some (decide (b ≤ a ∧ a ≤ c)) := specIn a b c
def allIn (a b : Int) (l : List Int) : Bool := l.all fun x => decide (a ≤ x ∧ x ≤ b)
theorem implAll_l (a b : Int) (suf : List Int) : ∀ (pre : List Int), ((pre ++ suf).length : Int) ≤ 1099511627776 → Ev (fun k => impl_allIn.l0 k a b (pre ++ suf) ((pre ++ suf).length : Int) pre.length) (allIn a b suf) := by
  induction suf with
  | nil =>
    intro pre h
    refine Ev.succ ?_
    simp only [impl_allIn.l0, List.append_nil, Int.lt_irrefl, if_false]
    exact Ev.now _
  | cons x suf ih =>
    intro pre h
    refine Ev.succ ?_
    rw [len_mid] at h ⊢
    simp only [impl_allIn.l0]
    simp only [if_pos (show ((pre.length : Int) < pre.length + suf.length + 1) by omega), if_pos (show (0 : Int) ≤ pre.length by omega), len_mid, rd_mid, implIn, Option.bind_some, wrap_id (show (-9223372036854775808 : Int) ≤ pre.length + 1 by omega) (show ((pre.length : Int) + 1 ≤ 9223372036854775807) by omega)]
    by_cases hx : a ≤ x ∧ x ≤ b
    · have := ih (pre ++ [x]) (by rw [← app_one, len_mid]; exact h)
      rw [← app_one, len_mid, len_one] at this
      simp only [hx, and_self, decide_true, if_true]
      rw [show allIn a b (x :: suf) = allIn a b suf by simp [allIn, hx]]
      exact this
    · simp only [decide_eq_true_eq, if_neg hx]
      rw [show allIn a b (x :: suf) = false by simp [allIn]; intro h1 h2; exact absurd ⟨h1, h2⟩ hx]
      exact Ev.now _
theorem implAll_ev (a b : Int) (l : List Int) (h : (l.length : Int) ≤ 1099511627776) : Ev (fun k => impl_allIn.f k l a b) (allIn a b l) := by
  have := implAll_l a b l [] h
  exact this
end Go.Proofs.Ytedegfbheihopaa.P

namespace Go.Proofs.Ytedegfbheihopaa.P
open Go.RowKit Go.Proofs.YtedegfbheihopaaW.PrintWords Go.Proofs.YtedegfbheihopaaW.PrintLast
set_option linter.unusedVariables false
set_option linter.unusedSimpArgs false
def isEdge (m : Int) (x : S79) : Bool := decide (0 ≤ x.f0 ∧ x.f0 ≤ m ∧ 0 ≤ x.f1 ∧ x.f1 ≤ m ∧ x.f0 < x.f1 ∧ 1 ≤ x.f2 ∧ x.f2 ≤ 100)
def edgeLt (y x : S79) : Bool := decide (y.f0 < x.f0 ∨ y.f0 = x.f0 ∧ y.f1 < x.f1)
def goodEF (m : Int) : Option S79 → List S79 → Bool
  | _, [] => true
  | none, x :: r => isEdge m x && goodEF m (some x) r
  | some y, x :: r => isEdge m x && (edgeLt y x && goodEF m (some x) r)
def goodE (n : Int) (l : List S79) : Bool := goodEF (wrap64 (n - 1)) none l && (decide (1 ≤ n ∧ n ≤ 12) && decide (l.length ≤ 40))
theorem isEdge_iff (m : Int) (x : S79) : isEdge m x = true ↔ (0 ≤ x.f0 ∧ x.f0 ≤ m ∧ 0 ≤ x.f1 ∧ x.f1 ≤ m ∧ x.f0 < x.f1 ∧ 1 ≤ x.f2 ∧ x.f2 ≤ 100) := by unfold isEdge; simp only [decide_eq_true_eq]
theorem specGoodE_l (n : Int) (suf : List S79) : ∀ (pre : List S79), (pre.length : Int) + suf.length ≤ 1099511627776 →
    Ev (fun k => spec_GoodEdges.l0 k n (pre ++ suf) (pre ++ suf) ((pre ++ suf).length : Int) (pre.length : Int)) (goodEF (wrap64 (n - 1)) pre.getLast? suf && (decide (1 ≤ n ∧ n ≤ 12) && decide ((pre ++ suf).length ≤ 40))) := by
  induction suf with
  | nil =>
    intro pre hb
    refine Ev.succ ?_
    simp only [spec_GoodEdges.l0]
    simp only [if_neg (show ¬ (pre.length : Int) < ((pre ++ ([] : List S79)).length : Int) by simp), specIn, Option.bind_some]
    have : goodEF (wrap64 (n - 1)) pre.getLast? [] = true := by cases pre.getLast? <;> rfl
    rw [this, Bool.true_and]
    by_cases h : 1 ≤ n ∧ n ≤ 12
    · simp only [h, and_self, decide_true, if_true, Bool.true_and]
      refine Ev.some_ ?_
      congr 1
      simp only [eq_iff_iff]
      omega
    · simp only [h, decide_false, Bool.false_eq_true, if_false, Bool.false_and]
      exact Ev.now _
  | cons x suf ih =>
    intro pre hb
    simp only [List.length_cons] at hb
    have c1 : (pre.length : Int) < ((pre ++ x :: suf).length : Int) := by simp <;> omega
    have c0 : (0 : Int) ≤ (pre.length : Int) := by omega
    have h := ih (pre ++ [x]) (by simp <;> omega)
    rw [← app_one, len_one, List.getLast?_concat] at h
    refine Ev.succ ?_
    simp only [spec_GoodEdges.l0]
    simp only [if_pos c1, if_pos c0, rdEdge_mid, specIn, Option.bind_some]
    generalize wrap64 (n - 1) = m at h ⊢
    generalize hfin : (decide (1 ≤ n ∧ n ≤ 12) && decide ((pre ++ x :: suf).length ≤ 40)) = fin at h ⊢
    have bad : ∀ (b : Bool), isEdge m x = false → b = true → Ev (fun k => spec_GoodEdges.j1 k n (pre ++ x :: suf) (pre.length : Int) (pre ++ x :: suf) ((pre ++ x :: suf).length : Int) (pre.length : Int) b x.f0 x.f1 x.f2) (goodEF m pre.getLast? (x :: suf) && fin) := by
      intro b he hb
      refine Ev.succ ?_
      simp only [spec_GoodEdges.j1, hb, if_true]
      refine Ev.some_ ?_
      cases pre.getLast? <;> simp [goodEF, he]
    by_cases h1 : 0 ≤ x.f0 ∧ x.f0 ≤ m
    · simp only [h1, and_self, decide_true, if_true]
      by_cases h2 : 0 ≤ x.f1 ∧ x.f1 ≤ m
      · simp only [h2, and_self, decide_true, if_true]
        by_cases h3 : x.f0 ≥ x.f1
        · simp only [if_pos h3]
          refine bad true ?_ rfl
          unfold isEdge; simp only [decide_eq_false_iff_not]; omega
        · simp only [if_neg h3]
          by_cases h4 : 1 ≤ x.f2 ∧ x.f2 ≤ 100
          · have he : isEdge m x = true := by rw [isEdge_iff]; omega
            simp only [h4, and_self, decide_true, Bool.not_true]
            refine Ev.succ ?_
            simp only [spec_GoodEdges.j1, Bool.false_eq_true, if_false]
            rw [wrap_id (x := (pre.length : Int) + 1) (by omega) (by omega)]
            rcases nil_or_snoc pre with rfl | ⟨pre', y, rfl⟩
            · simp only [if_neg (show ¬ (([] : List S79).length : Int) > 0 by simp)]
              have e : goodEF m ([] : List S79).getLast? (x :: suf) = goodEF m (some x) suf := by simp [goodEF, he]
              rw [e]
              exact h
            · have hy : rd_T79 ((pre' ++ [y]) ++ x :: suf) (((pre' ++ [y]).length : Int) - 1) = y := by
                rw [show ((pre' ++ [y]) ++ x :: suf) = pre' ++ y :: (x :: suf) by simp, show (((pre' ++ [y]).length : Int) - 1) = (pre'.length : Int) by simp]
                exact rdEdge_mid _ _ _
              have q0 : (((pre' ++ [y]).length : Int)) > 0 := by simp <;> omega
              rw [wrap_id (x := ((pre' ++ [y]).length : Int) - 1) (by omega) (by omega)]
              simp only [if_pos q0, if_pos (show 0 ≤ ((pre' ++ [y]).length : Int) - 1 by omega), if_pos (show ((pre' ++ [y]).length : Int) - 1 < (((pre' ++ [y]) ++ x :: suf).length : Int) by omega), hy]
              have e : goodEF m (pre' ++ [y]).getLast? (x :: suf) = (edgeLt y x && goodEF m (some x) suf) := by simp [goodEF, he]
              rw [e]
              by_cases g1 : y.f0 > x.f0
              · simp only [if_pos g1]
                refine Ev.some_ ?_
                have : edgeLt y x = false := by unfold edgeLt; simp only [decide_eq_false_iff_not]; omega
                rw [this]; rfl
              · simp only [if_neg g1]
                by_cases g2 : y.f0 = x.f0
                · simp only [if_pos g2]
                  by_cases g3 : y.f1 ≥ x.f1
                  · simp only [if_pos g3]
                    refine Ev.some_ ?_
                    have : edgeLt y x = false := by unfold edgeLt; simp only [decide_eq_false_iff_not]; omega
                    rw [this]; rfl
                  · simp only [if_neg g3]
                    have : edgeLt y x = true := by unfold edgeLt; simp only [decide_eq_true_eq]; omega
                    rw [this, Bool.true_and]
                    exact h
                · simp only [if_neg g2]
                  have : edgeLt y x = true := by unfold edgeLt; simp only [decide_eq_true_eq]; omega
                  rw [this, Bool.true_and]
                  exact h
          · simp only [h4, decide_false, Bool.not_false]
            refine bad true ?_ rfl
            unfold isEdge; simp only [decide_eq_false_iff_not]; omega
      · simp only [h2, decide_false, Bool.false_eq_true, if_false]
        refine bad true ?_ rfl
        unfold isEdge; simp only [decide_eq_false_iff_not]; omega
    · simp only [h1, decide_false, Bool.false_eq_true, if_false]
      refine bad true ?_ rfl
      unfold isEdge; simp only [decide_eq_false_iff_not]; omega
theorem specGoodE_ev (n : Int) (l : List S79) (hl : l.length ≤ 1048576) : Ev (fun k => spec_GoodEdges.f k n l) (goodE n l) := by
  unfold spec_GoodEdges.f
  exact specGoodE_l n l [] (by simp <;> omega)
theorem implGoodE_l (n : Int) (hm : wrap64 (n - 1) ≤ 9223372036854775807) (suf : List S79) : ∀ (pre : List S79), (pre.length : Int) + suf.length ≤ 1099511627776 → (∀ y, pre.getLast? = some y → isEdge (wrap64 (n - 1)) y = true) →
    Ev (fun k => impl_GoodEdges.l0 k n (pre ++ suf) (pre ++ suf) ((pre ++ suf).length : Int) (pre.length : Int)) (goodEF (wrap64 (n - 1)) pre.getLast? suf && (decide (1 ≤ n ∧ n ≤ 12) && decide ((pre ++ suf).length ≤ 40))) := by
  induction suf with
  | nil =>
    intro pre hb _
    refine Ev.succ ?_
    simp only [impl_GoodEdges.l0]
    simp only [if_neg (show ¬ (pre.length : Int) < ((pre ++ ([] : List S79)).length : Int) by simp), impl_isSpots.f, implIn, Option.bind_some]
    have : goodEF (wrap64 (n - 1)) pre.getLast? [] = true := by cases pre.getLast? <;> rfl
    rw [this, Bool.true_and]
    by_cases h : 1 ≤ n ∧ n ≤ 12
    · simp only [h, and_self, decide_true, if_true, Bool.true_and]
      refine Ev.some_ ?_
      congr 1
      simp only [eq_iff_iff]
      omega
    · simp only [h, decide_false, Bool.false_eq_true, if_false, Bool.false_and]
      exact Ev.now _
  | cons x suf ih =>
    intro pre hb hlast
    simp only [List.length_cons] at hb
    have c1 : (pre.length : Int) < ((pre ++ x :: suf).length : Int) := by simp <;> omega
    have c0 : (0 : Int) ≤ (pre.length : Int) := by omega
    have h := ih (pre ++ [x]) (by simp <;> omega)
    rw [← app_one, len_one, List.getLast?_concat] at h
    refine Ev.succ ?_
    simp only [impl_GoodEdges.l0]
    simp only [if_pos c1, if_pos c0, rdEdge_mid, implIn, Option.bind_some]
    generalize wrap64 (n - 1) = m at h hm hlast ⊢
    generalize hfin : (decide (1 ≤ n ∧ n ≤ 12) && decide ((pre ++ x :: suf).length ≤ 40)) = fin at h ⊢
    have bad : isEdge m x = false → Ev (fun k => some false) (goodEF m pre.getLast? (x :: suf) && fin) := by
      intro he
      refine Ev.some_ ?_
      cases pre.getLast? <;> simp [goodEF, he]
    by_cases h1 : 0 ≤ x.f0 ∧ x.f0 ≤ m
    · simp only [h1, and_self, decide_true, if_true]
      by_cases h2 : 0 ≤ x.f1 ∧ x.f1 ≤ m
      · simp only [h2, and_self, decide_true, if_true]
        by_cases h3 : x.f0 ≥ x.f1
        · simp only [if_pos h3]
          refine bad ?_
          unfold isEdge; simp only [decide_eq_false_iff_not]; omega
        · simp only [if_neg h3]
          by_cases h4 : 1 ≤ x.f2 ∧ x.f2 ≤ 100
          · have he : isEdge m x = true := by rw [isEdge_iff]; omega
            have h := h (fun y hy => by cases hy; exact he)
            simp only [h4, and_self, decide_true, if_true]
            rw [wrap_id (x := (pre.length : Int) + 1) (by omega) (by omega)]
            rcases nil_or_snoc pre with rfl | ⟨pre', y, rfl⟩
            · simp only [if_neg (show ¬ (([] : List S79).length : Int) > 0 by simp)]
              have e : goodEF m ([] : List S79).getLast? (x :: suf) = goodEF m (some x) suf := by simp [goodEF, he]
              rw [e]
              exact h
            · have hy : rd_T79 ((pre' ++ [y]) ++ x :: suf) (((pre' ++ [y]).length : Int) - 1) = y := by
                rw [show ((pre' ++ [y]) ++ x :: suf) = pre' ++ y :: (x :: suf) by simp, show (((pre' ++ [y]).length : Int) - 1) = (pre'.length : Int) by simp]
                exact rdEdge_mid _ _ _
              have hye := (isEdge_iff m y).1 (hlast y (by simp))
              have hxe := (isEdge_iff m x).1 he
              have q0 : (((pre' ++ [y]).length : Int)) > 0 := by simp <;> omega
              rw [wrap_id (x := ((pre' ++ [y]).length : Int) - 1) (by omega) (by omega)]
              simp only [if_pos q0, if_pos (show 0 ≤ ((pre' ++ [y]).length : Int) - 1 by omega), if_pos (show ((pre' ++ [y]).length : Int) - 1 < (((pre' ++ [y]) ++ x :: suf).length : Int) by omega), hy]
              have e : goodEF m (pre' ++ [y]).getLast? (x :: suf) = (edgeLt y x && goodEF m (some x) suf) := by simp [goodEF, he]
              rw [e]
              have eb : impl_byEnds.f y.f0 y.f1 y.f2 x.f0 x.f1 x.f2 = some (if y.f0 = x.f0 then y.f1 - x.f1 else y.f0 - x.f0) := by
                unfold impl_byEnds.f
                split
                · rw [wrap_id (by omega) (by omega)]
                · rw [wrap_id (by omega) (by omega)]
              simp only [eb, Option.bind_some]
              by_cases g : edgeLt y x = true
              · have g' : (y.f0 < x.f0 ∨ y.f0 = x.f0 ∧ y.f1 < x.f1) := by unfold edgeLt at g; simpa only [decide_eq_true_eq] using g
                rw [g, Bool.true_and]
                simp only [if_neg (show ¬ (if y.f0 = x.f0 then y.f1 - x.f1 else y.f0 - x.f0) ≥ 0 by split <;> omega)]
                exact h
              · have g' : ¬ (y.f0 < x.f0 ∨ y.f0 = x.f0 ∧ y.f1 < x.f1) := by unfold edgeLt at g; simpa only [decide_eq_true_eq] using g
                simp only [if_pos (show (if y.f0 = x.f0 then y.f1 - x.f1 else y.f0 - x.f0) ≥ 0 by split <;> omega)]
                refine Ev.some_ ?_
                rw [Bool.not_eq_true] at g
                rw [g]; rfl
          · simp only [h4, decide_false, Bool.false_eq_true, if_false]
            refine bad ?_
            unfold isEdge; simp only [decide_eq_false_iff_not]; omega
      · simp only [h2, decide_false, Bool.false_eq_true, if_false]
        refine bad ?_
        unfold isEdge; simp only [decide_eq_false_iff_not]; omega
    · simp only [h1, decide_false, Bool.false_eq_true, if_false]
      refine bad ?_
      unfold isEdge; simp only [decide_eq_false_iff_not]; omega
theorem wrap_top (x : Int) : -9223372036854775808 ≤ wrap64 x ∧ wrap64 x ≤ 9223372036854775807 := by unfold wrap64; omega
theorem implGoodE_ev (n : Int) (l : List S79) (hl : l.length ≤ 1048576) : Ev (fun k => impl_GoodEdges.f k n l) (goodE n l) := by
  unfold impl_GoodEdges.f
  exact implGoodE_l n (wrap_top _).2 l [] (by simp <;> omega) (fun y hy => by simp at hy)
/-- What good edges are. -/
theorem goodE_n {n : Int} {l : List S79} (h : goodE n l = true) : 1 ≤ n ∧ n ≤ 12 ∧ l.length ≤ 40 := by
  unfold goodE at h
  simp only [Bool.and_eq_true, decide_eq_true_eq] at h
  exact ⟨h.2.1.1, h.2.1.2, h.2.2⟩
theorem goodEF_all {m : Int} : ∀ (l : List S79) (o : Option S79), goodEF m o l = true → ∀ x ∈ l, isEdge m x = true
  | [], _, _, x, hx => by simp at hx
  | y :: r, o, h, x, hx => by
    have h2 : isEdge m y = true ∧ goodEF m (some y) r = true := by
      cases o with
      | none => simpa [goodEF] using h
      | some z =>
        simp only [goodEF, Bool.and_eq_true] at h
        exact ⟨h.1, h.2.2⟩
    rcases List.mem_cons.1 hx with rfl | hx
    · exact h2.1
    · exact goodEF_all r _ h2.2 x hx
theorem goodE_edge {n : Int} {l : List S79} (h : goodE n l = true) : ∀ x ∈ l, 0 ≤ x.f0 ∧ x.f0 < x.f1 ∧ x.f1 < n ∧ 1 ≤ x.f2 ∧ x.f2 ≤ 100 := by
  have hn := goodE_n h
  intro x hx
  unfold goodE at h
  simp only [Bool.and_eq_true] at h
  have := (isEdge_iff _ _).1 (goodEF_all l none h.1 x hx)
  rw [wrap_id (by omega) (by omega)] at this
  omega
end Go.Proofs.Ytedegfbheihopaa.P

namespace Go.Proofs.Ytedegfbheihopaa.P
open Go.RowKit Go.Proofs.YtedegfbheihopaaW.PrintWords Go.Proofs.YtedegfbheihopaaW.PrintLast
set_option linter.unusedVariables false
set_option linter.unusedSimpArgs false
/-- The spots' own numbers. -/
def own0 (n : Nat) : List Int := (List.range n).map fun (i : Nat) => (i : Int)
theorem own0_len (n : Nat) : (own0 n).length = n := by simp [own0]
end Go.Proofs.Ytedegfbheihopaa.P

namespace Go.Proofs.Ytedegfbheihopaa.P
open Go.RowKit Go.Proofs.YtedegfbheihopaaW.PrintWords Go.Proofs.YtedegfbheihopaaW.PrintLast
set_option linter.unusedVariables false
set_option linter.unusedSimpArgs false
-- sweeps over a list of numbers; the least of two
theorem least_is (a b : Int) : spec_l1Least.f a b = some (min a b) := by
  unfold spec_l1Least.f
  split
  · rw [Int.min_eq_left (by omega)]
  · rw [Int.min_eq_right (by omega)]
theorem mn_is (a b : Int) : mn a b = min a b := by
  unfold mn
  split
  · rw [Int.min_eq_right (by omega)]
  · rw [Int.min_eq_left (by omega)]
theorem own0_succ (n : Nat) : own0 (n + 1) = own0 n ++ [(n : Int)] := by
  unfold own0
  rw [List.range_succ, List.map_append]
  rfl
theorem mx_is (a b : Int) : mx a b = max a b := by
  unfold mx
  split <;> omega
theorem own0_mem (n : Nat) (x : Int) : x ∈ own0 n ↔ 0 ≤ x ∧ x < n := by
  unfold own0
  rw [List.mem_map]
  constructor
  · rintro ⟨i, hi, rfl⟩
    have := List.mem_range.1 hi
    omega
  · intro ⟨h0, h1⟩
    exact ⟨x.toNat, List.mem_range.2 (by omega), by omega⟩
theorem own0_sorted : ∀ (n : Nat), (own0 n).Pairwise (· < ·)
  | 0 => by simp [own0]
  | n + 1 => by
    rw [own0_succ]
    refine List.pairwise_append.2 ⟨own0_sorted n, by simp, fun a ha b hb => ?_⟩
    have := (own0_mem n a).1 ha
    simp only [List.mem_singleton] at hb
    omega
end Go.Proofs.Ytedegfbheihopaa.P

namespace Go.Proofs.Ytedegfbheihopaa.P
open Go.RowKit Go.Proofs.YtedegfbheihopaaW.PrintWords Go.Proofs.YtedegfbheihopaaW.PrintLast
set_option linter.unusedVariables false
set_option linter.unusedSimpArgs false
-- one round of shortening, both sides
def relStep (old out : List Int) (e : S79) : List Int := (out.set e.f0.toNat (min (rd out e.f0) (wrap64 (rd old e.f1 + e.f2)))).set e.f1.toNat (min (rd (out.set e.f0.toNat (min (rd out e.f0) (wrap64 (rd old e.f1 + e.f2)))) e.f1) (wrap64 (rd old e.f0 + e.f2)))
theorem relStep_len (old out : List Int) (e : S79) : (relStep old out e).length = out.length := by simp [relStep]
def relaxM (l : List S79) (old : List Int) : List Int := l.foldl (relStep old) old
theorem relFold_len (old : List Int) : ∀ (l : List S79) (out : List Int), (l.foldl (relStep old) out).length = out.length
  | [], _ => rfl
  | e :: l, out => by rw [List.foldl_cons, relFold_len old l, relStep_len]
theorem relaxM_len (l : List S79) (old : List Int) : (relaxM l old).length = old.length := relFold_len old l old
theorem specRelax_l (old : List Int) (suf : List S79) : ∀ (pre : List S79) (out : List Int), ((pre ++ suf).length : Int) ≤ 1099511627776 → out.length = old.length → (∀ x ∈ suf, 0 ≤ x.f0 ∧ x.f0 < x.f1 ∧ x.f1 < old.length) →
    Ev (fun k => spec_l9Relax.l0 k old out (pre ++ suf) ((pre ++ suf).length : Int) pre.length) (suf.foldl (relStep old) out) := by
  induction suf with
  | nil =>
    intro pre out h ho hx
    refine Ev.succ ?_
    simp only [spec_l9Relax.l0, List.append_nil, Int.lt_irrefl, if_false, List.foldl_nil]
    exact Ev.now _
  | cons e suf ih =>
    intro pre out h ho hx
    refine Ev.succ ?_
    rw [len_mid] at h ⊢
    have hs := relStep_len old out e
    have := ih (pre ++ [e]) (relStep old out e) (by rw [← app_one, len_mid]; exact h) (by omega) (fun x hm => hx x (List.mem_cons_of_mem _ hm))
    rw [← app_one, len_mid, len_one] at this
    have he := hx e (List.mem_cons_self ..)
    simp only [spec_l9Relax.l0, List.foldl_cons]
    simp only [if_pos (show ((pre.length : Int) < pre.length + suf.length + 1) by omega), if_pos (show (0 : Int) ≤ pre.length by omega), len_mid, rdEdge_mid, wrap_id (show (-9223372036854775808 : Int) ≤ pre.length + 1 by omega) (show ((pre.length : Int) + 1 ≤ 9223372036854775807) by omega), if_pos he.1, if_pos (show e.f0 < (out.length : Int) by omega), if_pos (show 0 ≤ e.f1 by omega), if_pos he.2.2, if_pos (show e.f1 < (out.length : Int) by omega), if_pos (show e.f0 < (old.length : Int) by omega), least_is, Option.bind_some]
    exact this
theorem implRelax_l (old : List Int) (suf : List S79) : ∀ (pre : List S79) (out : List Int), ((pre ++ suf).length : Int) ≤ 1099511627776 → out.length = old.length → (∀ x ∈ suf, 0 ≤ x.f0 ∧ x.f0 < x.f1 ∧ x.f1 < old.length) →
    Ev (fun k => impl_relaxed.l0 k old out (pre ++ suf) ((pre ++ suf).length : Int) pre.length) (suf.foldl (relStep old) out) := by
  induction suf with
  | nil =>
    intro pre out h ho hx
    refine Ev.succ ?_
    simp only [impl_relaxed.l0, List.append_nil, Int.lt_irrefl, if_false, List.foldl_nil]
    exact Ev.now _
  | cons e suf ih =>
    intro pre out h ho hx
    refine Ev.succ ?_
    rw [len_mid] at h ⊢
    have hs := relStep_len old out e
    have := ih (pre ++ [e]) (relStep old out e) (by rw [← app_one, len_mid]; exact h) (by omega) (fun x hm => hx x (List.mem_cons_of_mem _ hm))
    rw [← app_one, len_mid, len_one] at this
    have he := hx e (List.mem_cons_self ..)
    simp only [impl_relaxed.l0, List.foldl_cons]
    simp only [if_pos (show ((pre.length : Int) < pre.length + suf.length + 1) by omega), if_pos (show (0 : Int) ≤ pre.length by omega), len_mid, rdEdge_mid, wrap_id (show (-9223372036854775808 : Int) ≤ pre.length + 1 by omega) (show ((pre.length : Int) + 1 ≤ 9223372036854775807) by omega), if_pos he.1, if_pos (show e.f0 < (out.length : Int) by omega), if_pos (show 0 ≤ e.f1 by omega), if_pos he.2.2, if_pos (show e.f1 < (out.length : Int) by omega), if_pos (show e.f0 < (old.length : Int) by omega), mn_is, Option.bind_some]
    exact this
theorem specRelax_ev (l : List S79) (old : List Int) (hb : (l.length : Int) ≤ 1099511627776) (ho : old.length ≤ 1048576) (hx : ∀ x ∈ l, 0 ≤ x.f0 ∧ x.f0 < x.f1 ∧ x.f1 < old.length) : Ev (fun k => spec_l9Relax.f k l old) (relaxM l old) := by
  unfold spec_l9Relax.f
  simp only [Option.bind_some, List.length_nil, Nat.zero_add, List.nil_append, if_pos (show old.length < 17592186044416 by omega)]
  have := specRelax_l old l [] old hb rfl hx
  exact this
theorem implRelax_ev (l : List S79) (old : List Int) (hb : (l.length : Int) ≤ 1099511627776) (ho : old.length ≤ 1048576) (hx : ∀ x ∈ l, 0 ≤ x.f0 ∧ x.f0 < x.f1 ∧ x.f1 < old.length) : Ev (fun k => impl_relaxed.f k l old) (relaxM l old) := by
  unfold impl_relaxed.f
  simp only [Option.bind_some, List.length_nil, Nat.zero_add, List.nil_append, if_pos (show old.length < 17592186044416 by omega)]
  have := implRelax_l old l [] old hb rfl hx
  exact this
end Go.Proofs.Ytedegfbheihopaa.P

namespace Go.Proofs.Ytedegfbheihopaa.P
open Go.RowKit Go.Proofs.YtedegfbheihopaaW.PrintWords Go.Proofs.YtedegfbheihopaaW.PrintLast
set_option linter.unusedVariables false
set_option linter.unusedSimpArgs false
-- the neighbours of a node: the sorted puts and the sweep over costs give one list
def putI : List Int → Int → List Int
  | [], x => [x]
  | y :: r, x => if y < x then y :: putI r x else if y = x then y :: r else x :: y :: r
theorem putI_len : ∀ (l : List Int) (x : Int), (putI l x).length ≤ l.length + 1
  | [], x => by simp [putI]
  | y :: r, x => by
    have := putI_len r x
    unfold putI
    split
    · simp; omega
    · split <;> simp
theorem putI_mem : ∀ (l : List Int) (x z : Int), z ∈ putI l x ↔ z = x ∨ z ∈ l
  | [], x, z => by simp [putI]
  | y :: r, x, z => by
    have := putI_mem r x z
    unfold putI
    split
    · simp only [List.mem_cons, this]
      constructor
      · rintro (h | h | h) <;> simp [h]
      · rintro (h | h | h) <;> simp [h]
    · split
      · rename_i h
        subst h
        simp
      · simp
theorem putI_sorted : ∀ (l : List Int) (x : Int), l.Pairwise (· < ·) → (putI l x).Pairwise (· < ·)
  | [], x, _ => by simp [putI]
  | y :: r, x, h => by
    have h1 := List.pairwise_cons.1 h
    have := putI_sorted r x h1.2
    unfold putI
    split
    · rename_i hyx
      refine List.pairwise_cons.2 ⟨fun z hz => ?_, this⟩
      rcases (putI_mem r x z).1 hz with h2 | h2
      · omega
      · exact h1.1 z h2
    · split
      · exact h
      · refine List.pairwise_cons.2 ⟨fun z hz => ?_, h⟩
        rcases List.mem_cons.1 hz with h2 | h2
        · omega
        · have := h1.1 z h2
          omega
theorem sorted_ext : ∀ (a b : List Int), a.Pairwise (· < ·) → b.Pairwise (· < ·) → (∀ x, x ∈ a ↔ x ∈ b) → a = b
  | [], [], _, _, _ => rfl
  | [], y :: b, _, _, h => by have := (h y).2 (List.mem_cons_self ..); simp at this
  | x :: a, [], _, _, h => by have := (h x).1 (List.mem_cons_self ..); simp at this
  | x :: a, y :: b, ha, hb, h => by
    have ha1 := List.pairwise_cons.1 ha
    have hb1 := List.pairwise_cons.1 hb
    have hxy : x = y := by
      rcases List.mem_cons.1 ((h x).1 (List.mem_cons_self ..)) with h1 | h1
      · exact h1
      · rcases List.mem_cons.1 ((h y).2 (List.mem_cons_self ..)) with h2 | h2
        · exact h2.symm
        · have := ha1.1 y h2
          have := hb1.1 x h1
          omega
    subst hxy
    rw [sorted_ext a b ha1.2 hb1.2 fun z => ?_]
    constructor
    · intro hz
      rcases List.mem_cons.1 ((h z).1 (List.mem_cons_of_mem _ hz)) with h1 | h1
      · have := ha1.1 z hz
        omega
      · exact h1
    · intro hz
      rcases List.mem_cons.1 ((h z).2 (List.mem_cons_of_mem _ hz)) with h1 | h1
      · have := hb1.1 z hz
        omega
      · exact h1
theorem put_l (x : Int) (suf : List Int) : ∀ (pre : List Int), ((pre ++ suf).length : Int) ≤ 4398046511104 → Ev (fun k => spec_l1Put.l0 k (pre ++ suf) x pre.length) (pre ++ putI suf x) := by
  induction suf with
  | nil =>
    intro pre h
    refine Ev.succ ?_
    simp only [List.append_nil] at h ⊢
    have h0 : pre.length < 17592186044416 := by omega
    simp only [spec_l1Put.l0, Int.lt_irrefl, if_false, Option.bind_some, if_pos (show (0 : Int) ≤ pre.length by omega), if_pos (Int.le_refl (pre.length : Int)), Int.toNat_natCast, List.take_length, List.drop_length, List.nil_append, List.length_nil, Nat.zero_add, if_pos h0, List.length_append, List.length_cons, Nat.add_zero, List.append_nil, if_pos (show pre.length + (0 + 1) < 17592186044416 by omega), if_pos (show pre.length + 1 < 17592186044416 by omega), putI]
    exact Ev.now _
  | cons y suf ih =>
    intro pre h
    refine Ev.succ ?_
    have hl := len_mid pre y suf
    rw [hl] at h
    simp only [spec_l1Put.l0, hl, rd_mid, if_pos (show ((pre.length : Int) < pre.length + suf.length + 1) by omega), if_pos (show (0 : Int) ≤ pre.length by omega), wrap_id (show (-9223372036854775808 : Int) ≤ pre.length + 1 by omega) (show ((pre.length : Int) + 1 ≤ 9223372036854775807) by omega)]
    by_cases h1 : y < x
    · have := ih (pre ++ [y]) (by rw [← app_one, hl]; exact h)
      rw [← app_one, len_one] at this
      simp only [if_pos h1, putI]
      rw [app_one] at this
      rw [app_one pre y (putI suf x)]
      rw [← app_one] at this
      exact this
    · by_cases h2 : y = x
      · simp only [if_neg h1, if_pos h2, putI]
        exact Ev.now _
      · have h0 : pre.length < 17592186044416 := by omega
        simp only [if_neg h1, if_neg h2, putI, Option.bind_some, if_pos (show (pre.length : Int) ≤ pre.length + suf.length + 1 by omega), Int.toNat_natCast, List.take_left, List.drop_left, List.nil_append, List.length_nil, Nat.zero_add, if_pos h0, List.length_append, List.length_cons, if_pos (show pre.length + 1 + (suf.length + 1) < 17592186044416 by omega), if_pos (show pre.length + (0 + 1) + (suf.length + 1) < 17592186044416 by omega), List.append_assoc, List.cons_append]
        exact Ev.now _
theorem put_ev (l : List Int) (x : Int) (h : (l.length : Int) ≤ 4398046511104) : Ev (fun k => spec_l1Put.f k l x) (putI l x) := by
  have := put_l x l [] h
  exact this
def nearStep (v : Int) (out : List Int) (e : S79) : List Int := if e.f0 = v then (if e.f1 = v then putI (putI out e.f1) e.f0 else putI out e.f1) else (if e.f1 = v then putI out e.f0 else out)
theorem nearStep_len (v : Int) (out : List Int) (e : S79) : (nearStep v out e).length ≤ out.length + 2 := by
  unfold nearStep
  split
  · split
    · have := putI_len (putI out e.f1) e.f0
      have := putI_len out e.f1
      omega
    · have := putI_len out e.f1
      omega
  · split
    · have := putI_len out e.f0
      omega
    · omega
theorem specNear_l (v : Int) (suf : List S79) : ∀ (pre : List S79) (out : List Int), ((pre ++ suf).length : Int) ≤ 1099511627776 → (out.length : Int) ≤ 2 * pre.length →
    Ev (fun k => spec_l8Near.l0 k v out (pre ++ suf) ((pre ++ suf).length : Int) pre.length) (suf.foldl (nearStep v) out) := by
  induction suf with
  | nil =>
    intro pre out h ho
    refine Ev.succ ?_
    simp only [spec_l8Near.l0, List.append_nil, Int.lt_irrefl, if_false, List.foldl_nil]
    exact Ev.now _
  | cons e suf ih =>
    intro pre out h ho
    refine Ev.succ ?_
    rw [len_mid] at h ⊢
    have hs := nearStep_len v out e
    have := ih (pre ++ [e]) (nearStep v out e) (by rw [← app_one, len_mid]; exact h) (by rw [len_one]; omega)
    rw [← app_one, len_mid, len_one] at this
    simp only [spec_l8Near.l0, List.foldl_cons]
    simp only [if_pos (show ((pre.length : Int) < pre.length + suf.length + 1) by omega), if_pos (show (0 : Int) ≤ pre.length by omega), len_mid, rdEdge_mid, wrap_id (show (-9223372036854775808 : Int) ≤ pre.length + 1 by omega) (show ((pre.length : Int) + 1 ≤ 9223372036854775807) by omega)]
    have hp := putI_len out e.f1
    by_cases h1 : e.f0 = v
    · by_cases h2 : e.f1 = v
      · simp only [if_pos h1, if_pos h2]
        refine Ev.bind (put_ev _ _ (by omega)) ?_
        refine Ev.bind (put_ev _ _ (by omega)) ?_
        rw [show nearStep v out e = putI (putI out e.f1) e.f0 by simp [nearStep, h1, h2]] at this
        rw [show nearStep v out e = putI (putI out e.f1) e.f0 by simp [nearStep, h1, h2]]
        exact this
      · simp only [if_pos h1, if_neg h2]
        refine Ev.bind (put_ev _ _ (by omega)) ?_
        rw [show nearStep v out e = putI out e.f1 by simp only [nearStep, if_pos h1, if_neg h2]] at this
        rw [show nearStep v out e = putI out e.f1 by simp only [nearStep, if_pos h1, if_neg h2]]
        exact this
    · by_cases h2 : e.f1 = v
      · simp only [if_neg h1, if_pos h2]
        refine Ev.bind (put_ev _ _ (by omega)) ?_
        rw [show nearStep v out e = putI out e.f0 by simp only [nearStep, if_neg h1, if_pos h2]] at this
        rw [show nearStep v out e = putI out e.f0 by simp only [nearStep, if_neg h1, if_pos h2]]
        exact this
      · simp only [if_neg h1, if_neg h2]
        rw [show nearStep v out e = out by simp only [nearStep, if_neg h1, if_neg h2]] at this
        rw [show nearStep v out e = out by simp only [nearStep, if_neg h1, if_neg h2]]
        exact this
def nearS (l : List S79) (v : Int) : List Int := l.foldl (nearStep v) []
theorem specNear_ev (l : List S79) (v : Int) (h : (l.length : Int) ≤ 1099511627776) : Ev (fun k => spec_l8Near.f k l v) (nearS l v) := by
  have := specNear_l v l [] [] h (by simp)
  exact this
theorem foldNear (v : Int) : ∀ (l : List S79) (out : List Int), out.Pairwise (· < ·) → (l.foldl (nearStep v) out).Pairwise (· < ·) ∧ ∀ x, x ∈ l.foldl (nearStep v) out ↔ x ∈ out ∨ ∃ e ∈ l, (e.f0 = v ∧ e.f1 = x) ∨ (e.f1 = v ∧ e.f0 = x)
  | [], out, h => by simp [h]
  | e :: l, out, h => by
    have h1 : (nearStep v out e).Pairwise (· < ·) := by
      unfold nearStep
      split
      · split
        · exact putI_sorted _ _ (putI_sorted _ _ h)
        · exact putI_sorted _ _ h
      · split
        · exact putI_sorted _ _ h
        · exact h
    have h2 : ∀ x, x ∈ nearStep v out e ↔ x ∈ out ∨ (e.f0 = v ∧ e.f1 = x) ∨ (e.f1 = v ∧ e.f0 = x) := by
      intro x
      unfold nearStep
      split
      · rename_i a
        split
        · rename_i b
          rw [putI_mem, putI_mem]
          constructor
          · rintro (c | c | c)
            · exact .inr (.inr ⟨b, c.symm⟩)
            · exact .inr (.inl ⟨a, c.symm⟩)
            · exact .inl c
          · rintro (c | c | c)
            · exact .inr (.inr c)
            · exact .inr (.inl c.2.symm)
            · exact .inl c.2.symm
        · rename_i b
          rw [putI_mem]
          constructor
          · rintro (c | c)
            · exact .inr (.inl ⟨a, c.symm⟩)
            · exact .inl c
          · rintro (c | c | c)
            · exact .inr c
            · exact .inl c.2.symm
            · exact absurd c.1 b
      · rename_i a
        split
        · rename_i b
          rw [putI_mem]
          constructor
          · rintro (c | c)
            · exact .inr (.inr ⟨b, c.symm⟩)
            · exact .inl c
          · rintro (c | c | c)
            · exact .inr c
            · exact absurd c.1 a
            · exact .inl c.2.symm
        · rename_i b
          constructor
          · exact .inl
          · rintro (c | c | c)
            · exact c
            · exact absurd c.1 a
            · exact absurd c.1 b
    have h3 := foldNear v l (nearStep v out e) h1
    refine ⟨h3.1, fun x => ?_⟩
    rw [List.foldl_cons, h3.2, h2]
    constructor
    · rintro ((c | c) | ⟨y, c, d⟩)
      · exact .inl c
      · exact .inr ⟨e, List.mem_cons_self .., c⟩
      · exact .inr ⟨y, List.mem_cons_of_mem _ c, d⟩
    · rintro (c | ⟨y, c, d⟩)
      · exact .inl (.inl c)
      · rcases List.mem_cons.1 c with rfl | c
        · exact .inl (.inr d)
        · exact .inr ⟨y, c, d⟩
def isAt (a b : Int) (e : S79) : Bool := decide (e.f0 = min a b ∧ e.f1 = max a b)
def costM (l : List S79) (a b : Int) : Int := match l.find? (isAt a b) with
  | some e => e.f2
  | none => 0
theorem implCost_l (a b : Int) (suf : List S79) : ∀ (pre : List S79), ((pre ++ suf).length : Int) ≤ 1099511627776 →
    Ev (fun k => impl_cost.l0 k a b (pre ++ suf) ((pre ++ suf).length : Int) pre.length) (costM suf a b) := by
  induction suf with
  | nil =>
    intro pre h
    refine Ev.succ ?_
    simp only [impl_cost.l0, List.append_nil, Int.lt_irrefl, if_false]
    exact Ev.now _
  | cons e suf ih =>
    intro pre h
    refine Ev.succ ?_
    rw [len_mid] at h ⊢
    have := ih (pre ++ [e]) (by rw [← app_one, len_mid]; exact h)
    rw [← app_one, len_mid, len_one] at this
    simp only [impl_cost.l0]
    simp only [if_pos (show ((pre.length : Int) < pre.length + suf.length + 1) by omega), if_pos (show (0 : Int) ≤ pre.length by omega), len_mid, rdEdge_mid, wrap_id (show (-9223372036854775808 : Int) ≤ pre.length + 1 by omega) (show ((pre.length : Int) + 1 ≤ 9223372036854775807) by omega), mn_is, mx_is]
    by_cases h1 : e.f0 = min a b
    · by_cases h2 : e.f1 = max a b
      · simp only [if_pos h1, if_pos h2]
        rw [show costM (e :: suf) a b = e.f2 by unfold costM; rw [List.find?_cons_of_pos (by simp only [isAt, h1, h2, and_self, decide_true])]]
        exact Ev.now _
      · simp only [if_pos h1, if_neg h2]
        rw [show costM (e :: suf) a b = costM suf a b by unfold costM; rw [List.find?_cons_of_neg (by simp only [isAt, h2, and_false, decide_false]; simp)]]
        exact this
    · simp only [if_neg h1]
      rw [show costM (e :: suf) a b = costM suf a b by unfold costM; rw [List.find?_cons_of_neg (by simp only [isAt, h1, false_and, decide_false]; simp)]]
      exact this
theorem implCost_ev (l : List S79) (a b : Int) (h : (l.length : Int) ≤ 1099511627776) : Ev (fun k => impl_cost.f k l a b) (costM l a b) := by
  have := implCost_l a b l [] h
  exact this
def nearM (n : Nat) (l : List S79) (v : Int) : List Int := (own0 n).filter fun u => decide (costM l v u > 0)
theorem nearM_succ (n : Nat) (l : List S79) (v : Int) : nearM (n + 1) l v = if costM l v n > 0 then nearM n l v ++ [(n : Int)] else nearM n l v := by
  unfold nearM
  rw [own0_succ, List.filter_append]
  split
  · rename_i h
    simp [h]
  · rename_i h
    simp [h]
theorem nearM_len (n : Nat) (l : List S79) (v : Int) : (nearM n l v).length ≤ n := by
  have := List.length_filter_le (fun u => decide (costM l v u > 0)) (own0 n)
  rw [own0_len] at this
  exact this
theorem implNear_l (l : List S79) (v : Int) (hb : (l.length : Int) ≤ 1099511627776) (d : Nat) : ∀ (c : Nat), c + d ≤ 1000000 →
    Ev (fun k => impl_near.l0 k l v (nearM c l v) ((c + d : Nat) : Int) c) (nearM (c + d) l v) := by
  induction d with
  | zero =>
    intro c h
    refine Ev.succ ?_
    simp only [impl_near.l0, Nat.add_zero, Int.lt_irrefl, if_false]
    exact Ev.now _
  | succ d ih =>
    intro c h
    refine Ev.succ ?_
    have := ih (c + 1) (by omega)
    rw [show c + 1 + d = c + (d + 1) by omega] at this
    have hl := nearM_len c l v
    simp only [impl_near.l0, if_pos (show (c : Int) < ((c + (d + 1) : Nat) : Int) by omega), wrap_id (show (-9223372036854775808 : Int) ≤ c + 1 by omega) (show ((c : Int) + 1 ≤ 9223372036854775807) by omega)]
    refine Ev.bind (implCost_ev l v c hb) ?_
    rw [nearM_succ] at this
    by_cases h1 : costM l v c > 0
    · simp only [if_pos h1, if_pos (show (nearM c l v).length < 17592186044416 by omega)] at this ⊢
      exact this
    · simp only [if_neg h1] at this ⊢
      exact this
theorem implNear_ev (n : Int) (l : List S79) (v : Int) (h0 : 0 ≤ n) (hn : n ≤ 1000) (hb : (l.length : Int) ≤ 1099511627776) : Ev (fun k => impl_near.f k n l v) (nearM n.toNat l v) := by
  have := implNear_l l v hb n.toNat 0 (by omega)
  rw [Nat.zero_add, show ((n.toNat : Nat) : Int) = n by omega] at this
  exact this
theorem costM_pos {n : Int} {l : List S79} (hx : ∀ x ∈ l, 0 ≤ x.f0 ∧ x.f0 < x.f1 ∧ x.f1 < n ∧ 1 ≤ x.f2 ∧ x.f2 ≤ 100) (a b : Int) : costM l a b > 0 ↔ ∃ e ∈ l, (e.f0 = a ∧ e.f1 = b) ∨ (e.f1 = a ∧ e.f0 = b) := by
  unfold costM
  cases hf : l.find? (isAt a b) with
  | none =>
    simp only [gt_iff_lt, Int.lt_irrefl, false_iff]
    rintro ⟨e, he, hc⟩
    have := hx e he
    have h1 := List.find?_eq_none.1 hf e he
    simp only [isAt, decide_eq_true_eq] at h1
    omega
  | some e =>
    have he := List.mem_of_find?_eq_some hf
    have := hx e he
    have h1 := List.find?_some hf
    simp only [isAt, decide_eq_true_eq] at h1
    simp only [gt_iff_lt]
    refine ⟨fun _ => ⟨e, he, ?_⟩, fun _ => by omega⟩
    omega
theorem near_same {n : Int} {l : List S79} (hx : ∀ x ∈ l, 0 ≤ x.f0 ∧ x.f0 < x.f1 ∧ x.f1 < n ∧ 1 ≤ x.f2 ∧ x.f2 ≤ 100) (v : Int) : nearS l v = nearM n.toNat l v := by
  have h := foldNear v l [] (by simp)
  refine sorted_ext _ _ h.1 ?_ fun x => ?_
  · exact (own0_sorted _).filter _
  · unfold nearM
    rw [List.mem_filter, own0_mem, decide_eq_true_eq, costM_pos hx]
    have h2 := h.2 x
    simp only [List.not_mem_nil, false_or] at h2
    refine h2.trans ⟨fun hc => ⟨?_, hc⟩, fun hc => hc.2⟩
    obtain ⟨e, he, hc⟩ := hc
    have := hx e he
    omega
theorem goodAt_ev (n : Int) (l : List S79) (q : List Int) (hl : l.length ≤ 1048576) (hq : (q.length : Int) ≤ 1099511627776) : Ev (fun k => impl_goodAt.f k n l q) (goodE n l && allIn 0 (wrap64 (n - 1)) q) := by
  unfold impl_goodAt.f
  refine Ev.bind (implGoodE_ev n l hl) ?_
  by_cases h : goodE n l = true
  · simp only [h, if_true, Bool.true_and]
    exact Ev.bind (implAll_ev _ _ q hq) (Ev.now _)
  · simp only [h, Bool.false_and, Bool.false_eq_true, if_false]
    exact Ev.now _
end Go.Proofs.Ytedegfbheihopaa.P

namespace Go.Proofs.Ytedegfbheihopaa.P
open Go.RowKit Go.Proofs.YtedegfbheihopaaW.PrintWords Go.Proofs.YtedegfbheihopaaW.PrintLast
set_option linter.unusedVariables false
set_option linter.unusedSimpArgs false
-- all the shortest ways from a node, both sides
def farsIt (l : List S79) : Nat → List Int → List Int
  | 0, x => x
  | d + 1, x => farsIt l d (relaxM l x)
theorem farsIt_len (l : List S79) : ∀ (d : Nat) (x : List Int), (farsIt l d x).length = x.length
  | 0, _ => rfl
  | d + 1, x => by rw [farsIt, farsIt_len l d, relaxM_len]
def fars0 (n : Nat) (a : Int) : List Int := (List.replicate n (100000 : Int)).set a.toNat 0
theorem fars0_len (n : Nat) (a : Int) : (fars0 n a).length = n := by simp [fars0]
def farsM (n : Nat) (l : List S79) (a : Int) : List Int := farsIt l n (fars0 n a)
theorem farsM_len (n : Nat) (l : List S79) (a : Int) : (farsM n l a).length = n := by rw [farsM, farsIt_len, fars0_len]
theorem specFars_l1 (n : Nat) (hn : n ≤ 1000) (l : List S79) (hb : (l.length : Int) ≤ 1099511627776) (hx : ∀ x ∈ l, 0 ≤ x.f0 ∧ x.f0 < x.f1 ∧ x.f1 < n) (d : Nat) : ∀ (c : Nat) (x : List Int), c + d = n → x.length = n →
    Ev (fun k => spec_l9Fars.l1 k n l x c) (farsIt l d x) := by
  induction d with
  | zero =>
    intro c x h hl
    refine Ev.succ ?_
    simp only [spec_l9Fars.l1, if_neg (show ¬ (c : Int) < n by omega)]
    exact Ev.now _
  | succ d ih =>
    intro c x h hl
    refine Ev.succ ?_
    have := ih (c + 1) (relaxM l x) (by omega) (by rw [relaxM_len, hl])
    simp only [spec_l9Fars.l1, if_pos (show (c : Int) < n by omega), wrap_id (show (-9223372036854775808 : Int) ≤ c + 1 by omega) (show ((c : Int) + 1 ≤ 9223372036854775807) by omega)]
    refine Ev.bind (specRelax_ev l x hb (by omega) (by rw [hl]; exact hx)) ?_
    exact this
theorem implFars_l1 (n : Nat) (hn : n ≤ 1000) (l : List S79) (hb : (l.length : Int) ≤ 1099511627776) (hx : ∀ x ∈ l, 0 ≤ x.f0 ∧ x.f0 < x.f1 ∧ x.f1 < n) (d : Nat) : ∀ (c : Nat) (x : List Int), c + d = n → x.length = n →
    Ev (fun k => impl_fars.l1 k l x n c) (farsIt l d x) := by
  induction d with
  | zero =>
    intro c x h hl
    refine Ev.succ ?_
    simp only [impl_fars.l1, if_neg (show ¬ (c : Int) < n by omega)]
    exact Ev.now _
  | succ d ih =>
    intro c x h hl
    refine Ev.succ ?_
    have := ih (c + 1) (relaxM l x) (by omega) (by rw [relaxM_len, hl])
    simp only [impl_fars.l1, if_pos (show (c : Int) < n by omega), wrap_id (show (-9223372036854775808 : Int) ≤ c + 1 by omega) (show ((c : Int) + 1 ≤ 9223372036854775807) by omega)]
    refine Ev.bind (implRelax_ev l x hb (by omega) (by rw [hl]; exact hx)) ?_
    exact this
theorem rep_succ (c : Nat) (x : Int) : List.replicate c x ++ [x] = List.replicate (c + 1) x := by
  rw [List.replicate_succ']
theorem specFars_l0 (n : Nat) (hn : n ≤ 1000) (l : List S79) (a : Int) (R : List Int) (ha : 0 ≤ a) (ha1 : a < n) (hR : Ev (fun k => spec_l9Fars.l1 k n l (fars0 n a) 0) R) (d : Nat) : ∀ (c : Nat), c + d = n →
    Ev (fun k => spec_l9Fars.l0 k n l a (List.replicate c 100000) c) R := by
  induction d with
  | zero =>
    intro c h
    refine Ev.succ ?_
    have hc : c = n := by omega
    subst hc
    simp only [spec_l9Fars.l0, Int.lt_irrefl, if_false, if_pos ha, List.length_replicate, if_pos ha1]
    exact hR
  | succ d ih =>
    intro c h
    refine Ev.succ ?_
    have := ih (c + 1) (by omega)
    simp only [spec_l9Fars.l0, if_pos (show (c : Int) < n by omega), List.length_replicate, if_pos (show c < 17592186044416 by omega), wrap_id (show (-9223372036854775808 : Int) ≤ c + 1 by omega) (show ((c : Int) + 1 ≤ 9223372036854775807) by omega)]
    rw [rep_succ]
    exact this
theorem specFars_ev (n : Int) (l : List S79) (a : Int) (hn : n ≤ 1000) (hb : (l.length : Int) ≤ 1099511627776) (hx : ∀ x ∈ l, 0 ≤ x.f0 ∧ x.f0 < x.f1 ∧ x.f1 < n) (ha : 0 ≤ a) (ha1 : a < n) : Ev (fun k => spec_l9Fars.f k n l a) (farsM n.toNat l a) := by
  obtain ⟨m, rfl⟩ := Int.eq_ofNat_of_zero_le (show 0 ≤ n by omega)
  rw [Int.toNat_natCast]
  have := specFars_l0 m (by omega) l a _ ha ha1 (specFars_l1 m (by omega) l hb hx m 0 _ (by omega) (fars0_len m a)) m 0 (by omega)
  exact this
theorem implFars_l0 (n : Nat) (hn : n ≤ 1000) (l : List S79) (a : Int) (R : List Int) (ha : 0 ≤ a) (ha1 : a < n) (hR : Ev (fun k => impl_fars.l1 k l (fars0 n a) n 0) R) (d : Nat) : ∀ (c : Nat), c + d = n →
    Ev (fun k => impl_fars.l0 k n l a (List.replicate c 100000 ++ List.replicate d 0) n c) R := by
  induction d with
  | zero =>
    intro c h
    refine Ev.succ ?_
    have hc : c = n := by omega
    subst hc
    simp only [impl_fars.l0, Int.lt_irrefl, if_false, if_pos ha, List.replicate_zero, List.append_nil, List.length_replicate, if_pos ha1]
    exact hR
  | succ d ih =>
    intro c h
    refine Ev.succ ?_
    have := ih (c + 1) (by omega)
    have hl : ((List.replicate c (100000 : Int) ++ List.replicate (d + 1) (0 : Int)).length : Int) = n := by simp; omega
    simp only [impl_fars.l0, hl, if_pos (show (c : Int) < n by omega), if_pos (show (0 : Int) ≤ c by omega), wrap_id (show (-9223372036854775808 : Int) ≤ c + 1 by omega) (show ((c : Int) + 1 ≤ 9223372036854775807) by omega)]
    have hs := set_mid (List.replicate c (100000 : Int)) 0 100000 (List.replicate d 0)
    rw [List.length_replicate] at hs
    rw [List.replicate_succ, hs, app_one, rep_succ]
    exact this
theorem implFars_ev (n : Int) (l : List S79) (a : Int) (hn : n ≤ 1000) (hb : (l.length : Int) ≤ 1099511627776) (hx : ∀ x ∈ l, 0 ≤ x.f0 ∧ x.f0 < x.f1 ∧ x.f1 < n) (ha : 0 ≤ a) (ha1 : a < n) : Ev (fun k => impl_fars.f k n l a) (farsM n.toNat l a) := by
  obtain ⟨m, rfl⟩ := Int.eq_ofNat_of_zero_le (show 0 ≤ n by omega)
  rw [Int.toNat_natCast]
  unfold impl_fars.f
  simp only [Int.toNat_natCast, if_pos (show (0 : Int) ≤ (m : Int) by omega), if_pos (show m ≤ 35184372088832 by omega), Option.bind_some, List.length_replicate]
  have := implFars_l0 m (by omega) l a _ ha ha1 (implFars_l1 m (by omega) l hb hx m 0 _ (by omega) (fars0_len m a)) m 0 (by omega)
  exact this
theorem allIn1 (a b x : Int) : allIn a b [x] = decide (a ≤ x ∧ x ≤ b) := by rw [allIn, List.all_cons, List.all_nil, Bool.and_true]
theorem edge3 {n : Int} {l : List S79} (h : goodE n l = true) : ∀ x ∈ l, 0 ≤ x.f0 ∧ x.f0 < x.f1 ∧ x.f1 < n := fun x hm => ⟨(goodE_edge h x hm).1, (goodE_edge h x hm).2.1, (goodE_edge h x hm).2.2.1⟩
theorem top_is {n : Int} (h0 : 1 ≤ n) (h1 : n ≤ 12) : wrap64 (n - 1) = n - 1 := wrap_id (by omega) (by omega)
end Go.Proofs.Ytedegfbheihopaa.P

namespace Go.Proofs.Ytedegfbheihopaa.P
open Go.RowKit Go.Proofs.YtedegfbheihopaaW.PrintWords Go.Proofs.YtedegfbheihopaaW.PrintLast
set_option linter.unusedVariables false
set_option linter.unusedSimpArgs false
-- the cost of a list of nodes, both sides
theorem specEdge_l (a b : Int) (suf : List S79) : ∀ (pre : List S79), ((pre ++ suf).length : Int) ≤ 1099511627776 → (∀ x ∈ suf, x.f0 < x.f1) →
    Ev (fun k => spec_l9Edge.l0 k a b (pre ++ suf) ((pre ++ suf).length : Int) pre.length) (costM suf a b) := by
  induction suf with
  | nil =>
    intro pre h hx
    refine Ev.succ ?_
    simp only [spec_l9Edge.l0, List.append_nil, Int.lt_irrefl, if_false]
    exact Ev.now _
  | cons e suf ih =>
    intro pre h hx
    refine Ev.succ ?_
    rw [len_mid] at h ⊢
    have := ih (pre ++ [e]) (by rw [← app_one, len_mid]; exact h) (fun x hm => hx x (List.mem_cons_of_mem _ hm))
    rw [← app_one, len_mid, len_one] at this
    have he := hx e (List.mem_cons_self ..)
    simp only [spec_l9Edge.l0]
    simp only [if_pos (show ((pre.length : Int) < pre.length + suf.length + 1) by omega), if_pos (show (0 : Int) ≤ pre.length by omega), len_mid, rdEdge_mid, wrap_id (show (-9223372036854775808 : Int) ≤ pre.length + 1 by omega) (show ((pre.length : Int) + 1 ≤ 9223372036854775807) by omega)]
    by_cases hc : e.f0 = min a b ∧ e.f1 = max a b
    · rw [show costM (e :: suf) a b = e.f2 by unfold costM; rw [List.find?_cons_of_pos (by simp only [isAt, hc, and_self, decide_true])]]
      by_cases hab : a ≤ b
      · simp only [if_pos (show e.f0 = a by omega), if_pos (show e.f1 = b by omega)]
        exact Ev.now _
      · simp only [if_neg (show ¬ e.f0 = a by omega), if_pos (show e.f0 = b by omega), if_pos (show e.f1 = a by omega)]
        exact Ev.now _
    · rw [show costM (e :: suf) a b = costM suf a b by unfold costM; rw [List.find?_cons_of_neg (by simp only [isAt, hc, decide_false]; simp)]]
      by_cases h1 : e.f0 = a
      · simp only [if_pos h1, if_neg (show ¬ e.f1 = b by omega)]
        by_cases h2 : e.f0 = b
        · simp only [if_pos h2, if_neg (show ¬ e.f1 = a by omega)]
          exact this
        · simp only [if_neg h2]
          exact this
      · simp only [if_neg h1]
        by_cases h2 : e.f0 = b
        · simp only [if_pos h2, if_neg (show ¬ e.f1 = a by omega)]
          exact this
        · simp only [if_neg h2]
          exact this
theorem specEdge_ev {n : Int} (l : List S79) (a b : Int) (h : (l.length : Int) ≤ 1099511627776) (hg : ∀ x ∈ l, 0 ≤ x.f0 ∧ x.f0 < x.f1 ∧ x.f1 < n) : Ev (fun k => spec_l9Edge.f k l a b) (costM l a b) := by
  have := specEdge_l a b l [] h (fun x hm => (hg x hm).2.1)
  exact this
end Go.Proofs.Ytedegfbheihopaa.P

namespace Go.Proofs.Ytedegfbheihopaa.P
open Go.RowKit Go.Proofs.YtedegfbheihopaaW.PrintWords Go.Proofs.YtedegfbheihopaaW.PrintLast
set_option linter.unusedVariables false
set_option linter.unusedSimpArgs false
-- the first steps of the shortest ways, one side
def hopsGo (l : List S79) (a : Int) (F : List Int) (q : List Int) : List Int := q.filter fun u => decide (rd F a < 100000 ∧ wrap64 (rd F u + costM l a u) = rd F a)
theorem hopsGo_pos (l : List S79) (a : Int) (F : List Int) (u : Int) (q : List Int) (h : rd F a < 100000 ∧ wrap64 (rd F u + costM l a u) = rd F a) : hopsGo l a F (u :: q) = u :: hopsGo l a F q := by
  unfold hopsGo
  exact List.filter_cons_of_pos (decide_eq_true h)
theorem hopsGo_neg (l : List S79) (a : Int) (F : List Int) (u : Int) (q : List Int) (h : ¬ (rd F a < 100000 ∧ wrap64 (rd F u + costM l a u) = rd F a)) : hopsGo l a F (u :: q) = hopsGo l a F q := by
  unfold hopsGo
  exact List.filter_cons_of_neg (by rw [decide_eq_true_eq]; exact h)
theorem implHops_l (n : Nat) (l : List S79) (hb : (l.length : Int) ≤ 1099511627776) (a : Int) (ha : 0 ≤ a) (ha1 : a < n) (F : List Int) (hF : F.length = n) (suf : List Int) : ∀ (pre out : List Int), ((pre ++ suf).length : Int) ≤ 1000000 → out.length ≤ pre.length → (∀ u ∈ suf, 0 ≤ u ∧ u < n) →
    Ev (fun k => impl_hops.l0 k l a F out (pre ++ suf) ((pre ++ suf).length : Int) pre.length) (out ++ hopsGo l a F suf) := by
  induction suf with
  | nil =>
    intro pre out h ho hu
    refine Ev.succ ?_
    simp only [impl_hops.l0, List.append_nil, Int.lt_irrefl, if_false, hopsGo, List.filter_nil]
    exact Ev.now _
  | cons u suf ih =>
    intro pre out h ho hu
    refine Ev.succ ?_
    rw [len_mid] at h ⊢
    have h0 := hu u (List.mem_cons_self ..)
    have := fun o ho => ih (pre ++ [u]) o (by rw [← app_one, len_mid]; exact h) ho (fun x hm => hu x (List.mem_cons_of_mem _ hm))
    rw [← app_one, len_mid, len_one] at this
    simp only [impl_hops.l0]
    simp only [if_pos (show ((pre.length : Int) < pre.length + suf.length + 1) by omega), if_pos (show (0 : Int) ≤ pre.length by omega), len_mid, rd_mid, wrap_id (show (-9223372036854775808 : Int) ≤ pre.length + 1 by omega) (show ((pre.length : Int) + 1 ≤ 9223372036854775807) by omega), if_pos ha, if_pos (show a < (F.length : Int) by omega), if_pos h0.1, if_pos (show u < (F.length : Int) by omega)]
    by_cases h1 : rd F a < 100000
    · simp only [if_pos h1]
      refine Ev.bind (implCost_ev l a u hb) ?_
      by_cases h2 : wrap64 (rd F u + costM l a u) = rd F a
      · simp only [if_pos h2, if_pos (show out.length < 17592186044416 by omega)]
        rw [hopsGo_pos l a F u suf ⟨h1, h2⟩, app_one out u (hopsGo l a F suf)]
        exact this (out ++ [u]) (by simp only [List.length_append, List.length_singleton]; omega)
      · simp only [if_neg h2]
        rw [hopsGo_neg l a F u suf (fun hc => h2 hc.2)]
        exact this out (by rw [List.length_append]; omega)
    · simp only [if_neg h1]
      rw [hopsGo_neg l a F u suf (fun hc => h1 hc.1)]
      exact this out (by rw [List.length_append]; omega)
def hopsM (n : Nat) (l : List S79) (a b : Int) : List Int := hopsGo l a (farsM n l b) (nearM n l a)
theorem nearM_in (n : Nat) (l : List S79) (a u : Int) (h : u ∈ nearM n l a) : 0 ≤ u ∧ u < n := (own0_mem n u).1 (List.mem_filter.1 h).1
theorem implHops_ev (n : Int) (l : List S79) (a b : Int) (hl : l.length ≤ 1048576) (h : goodE n l = true) (ha : 0 ≤ a) (ha1 : a < n) : Ev (fun k => impl_hops.f k n l a (farsM n.toNat l b)) (hopsM n.toNat l a b) := by
  have hn := goodE_n h
  unfold impl_hops.f
  refine Ev.bind (implNear_ev n l a (by omega) (by omega) (by omega)) ?_
  have hq := nearM_len n.toNat l a
  have := implHops_l n.toNat l (by omega) a ha (by omega) (farsM n.toNat l b) (farsM_len ..) (nearM n.toNat l a) [] [] (by rw [List.nil_append]; omega) (by simp) (fun u hu => nearM_in _ _ _ _ hu)
  exact this
end Go.Proofs.Ytedegfbheihopaa.P

namespace Go.Proofs.Ytedegfbheihopaa.P
open Go.RowKit Go.Proofs.YtedegfbheihopaaW.PrintWords Go.Proofs.YtedegfbheihopaaW.PrintLast
set_option linter.unusedVariables false
set_option linter.unusedSimpArgs false
-- the tree of shortest ways to a node, both sides
theorem costM_symm (l : List S79) (a b : Int) : costM l a b = costM l b a := by
  unfold costM
  rw [show isAt a b = isAt b a from funext fun e => by unfold isAt; rw [Int.min_comm, Int.max_comm]]
def parM (n : Nat) (l : List S79) (a v : Int) : Int := if v = a then -1 else (hopsM n l v a).headD (-1)
theorem specAt_l1 (n : Nat) (l : List S79) (hb : (l.length : Int) ≤ 1099511627776) (hg : ∀ x ∈ l, 0 ≤ x.f0 ∧ x.f0 < x.f1 ∧ x.f1 < n) (a v : Int) (hv : 0 ≤ v) (hv1 : v < n) (F out : List Int) (hF : F.length = n) (ho : out.length ≤ 1000) (R : List Int) (suf : List Int) : ∀ (pre : List Int) (b : Int), ((pre ++ suf).length : Int) ≤ 1000000 → (∀ u ∈ suf, 0 ≤ u ∧ u < n) →
    Ev (fun k => spec_l10At.l0 k n l a F (out ++ [if b < 0 then (if v = a then b else (hopsGo l v F suf).headD b) else b]) (wrap64 (v + 1))) R →
    Ev (fun k => spec_l10At.l1 k n l a F out v b (pre ++ suf) ((pre ++ suf).length : Int) pre.length) R := by
  induction suf with
  | nil =>
    intro pre b h hu hR
    refine Ev.succ ?_
    rw [show (hopsGo l v F []).headD b = b from rfl] at hR
    simp only [ite_self] at hR
    simp only [spec_l10At.l1, List.append_nil, Int.lt_irrefl, if_false, if_pos (show out.length < 17592186044416 by omega)]
    exact hR
  | cons u suf ih =>
    intro pre b h hu hR
    refine Ev.succ ?_
    rw [len_mid] at h ⊢
    have h0 := hu u (List.mem_cons_self ..)
    have := fun b => ih (pre ++ [u]) b (by rw [← app_one, len_mid]; exact h) (fun x hm => hu x (List.mem_cons_of_mem _ hm))
    rw [← app_one, len_mid, len_one] at this
    simp only [spec_l10At.l1]
    simp only [if_pos (show ((pre.length : Int) < pre.length + suf.length + 1) by omega), if_pos (show (0 : Int) ≤ pre.length by omega), len_mid, rd_mid, wrap_id (show (-9223372036854775808 : Int) ≤ pre.length + 1 by omega) (show ((pre.length : Int) + 1 ≤ 9223372036854775807) by omega)]
    by_cases hb0 : b < 0
    · simp only [if_pos hb0] at hR ⊢
      by_cases hva : v = a
      · simp only [if_pos hva] at hR ⊢
        refine this b ?_
        simp only [if_pos hb0, if_pos hva]
        exact hR
      · simp only [if_neg hva, if_pos hv, if_pos (show v < (F.length : Int) by omega), if_pos h0.1, if_pos (show u < (F.length : Int) by omega)] at hR ⊢
        by_cases h1 : rd F v < 100000
        · simp only [if_pos h1]
          refine Ev.bind (specEdge_ev l u v hb hg) ?_
          rw [costM_symm l u v]
          by_cases h2 : wrap64 (rd F u + costM l v u) = rd F v
          · simp only [if_pos h2]
            rw [hopsGo_pos l v F u suf ⟨h1, h2⟩, List.headD_cons] at hR
            refine this u ?_
            simp only [if_neg (show ¬ u < 0 by omega)]
            exact hR
          · simp only [if_neg h2]
            rw [hopsGo_neg l v F u suf (fun hc => h2 hc.2)] at hR
            refine this b ?_
            simp only [if_pos hb0, if_neg hva]
            exact hR
        · simp only [if_neg h1]
          rw [hopsGo_neg l v F u suf (fun hc => h1 hc.1)] at hR
          refine this b ?_
          simp only [if_pos hb0, if_neg hva]
          exact hR
    · simp only [if_neg hb0] at hR ⊢
      refine this b ?_
      simp only [if_neg hb0]
      exact hR
def pars (n : Nat) (l : List S79) (a : Int) (c : Nat) : List Int := (own0 c).map (parM n l a)
theorem pars_len (n : Nat) (l : List S79) (a : Int) (c : Nat) : (pars n l a c).length = c := by unfold pars; rw [List.length_map, own0_len]
theorem pars_succ (n : Nat) (l : List S79) (a : Int) (c : Nat) : pars n l a (c + 1) = pars n l a c ++ [parM n l a c] := by
  unfold pars
  rw [own0_succ, List.map_append]
  rfl
theorem specAt_l0 (n : Nat) (hn : n ≤ 1000) (l : List S79) (hb : (l.length : Int) ≤ 1099511627776) (hx : ∀ x ∈ l, 0 ≤ x.f0 ∧ x.f0 < x.f1 ∧ x.f1 < n ∧ 1 ≤ x.f2 ∧ x.f2 ≤ 100) (a : Int) (d : Nat) : ∀ (c : Nat), c + d = n →
    Ev (fun k => spec_l10At.l0 k n l a (farsM n l a) (pars n l a c) c) (pars n l a n) := by
  induction d with
  | zero =>
    intro c h
    refine Ev.succ ?_
    have hc : c = n := by omega
    subst hc
    simp only [spec_l10At.l0, Int.lt_irrefl, if_false]
    exact Ev.now _
  | succ d ih =>
    intro c h
    refine Ev.succ ?_
    have hi := ih (c + 1) (by omega)
    have hp := pars_len n l a c
    simp only [spec_l10At.l0, if_pos (show (c : Int) < n by omega)]
    refine Ev.bind (specNear_ev l c hb) ?_
    rw [near_same hx, Int.toNat_natCast]
    have hq := nearM_len n l c
    have := specAt_l1 n l hb (fun x hm => ⟨(hx x hm).1, (hx x hm).2.1, (hx x hm).2.2.1⟩) a c (by omega) (by omega) (farsM n l a) (pars n l a c) (farsM_len ..) (by omega) (pars n l a n) (nearM n l c) [] (-1) (by rw [List.nil_append]; omega) (fun u hu => nearM_in _ _ _ _ hu)
    refine this ?_
    simp only [if_pos (show (-1 : Int) < 0 by omega), wrap_id (show (-9223372036854775808 : Int) ≤ c + 1 by omega) (show ((c : Int) + 1 ≤ 9223372036854775807) by omega)]
    rw [pars_succ] at hi
    exact hi
theorem implAt_l0 (n : Nat) (hn : n ≤ 1000) (l : List S79) (hl : l.length ≤ 1048576) (hgood : goodE n l = true) (a : Int) (d : Nat) : ∀ (c : Nat), c + d = n →
    Ev (fun k => impl_treeAt.l0 k n l a (farsM n l a) (pars n l a c ++ List.replicate d 0) n c) (pars n l a n) := by
  induction d with
  | zero =>
    intro c h
    refine Ev.succ ?_
    have hc : c = n := by omega
    subst hc
    simp only [impl_treeAt.l0, Int.lt_irrefl, if_false, List.replicate_zero, List.append_nil]
    exact Ev.now _
  | succ d ih =>
    intro c h
    refine Ev.succ ?_
    have hi := ih (c + 1) (by omega)
    have hp := pars_len n l a c
    have hlen : ((pars n l a c ++ List.replicate (d + 1) (0 : Int)).length : Int) = n := by simp [hp]; omega
    simp only [impl_treeAt.l0, hlen, if_pos (show (c : Int) < n by omega), if_pos (show (0 : Int) ≤ c by omega), Option.bind_some, wrap_id (show (-9223372036854775808 : Int) ≤ c + 1 by omega) (show ((c : Int) + 1 ≤ 9223372036854775807) by omega)]
    have hh := implHops_ev (n : Int) l c a hl hgood (by omega) (by omega)
    rw [Int.toNat_natCast] at hh
    refine Ev.bind hh ?_
    have hs := fun y => set_mid (pars n l a c) (0 : Int) y (List.replicate d 0)
    have hs2 := fun x y => set_mid (pars n l a c) (x : Int) y (List.replicate d 0)
    rw [hp] at hs hs2
    rw [List.replicate_succ, hs]
    rw [pars_succ] at hi
    by_cases h1 : (c : Int) = a
    · simp only [if_pos h1]
      rw [parM, if_pos h1, ← app_one] at hi
      exact hi
    · simp only [if_neg h1]
      rw [parM, if_neg h1, ← app_one] at hi
      by_cases h2 : ((hopsM n l c a).length : Int) > 0
      · simp only [if_pos h2, if_pos (show (0 : Int) < ((hopsM n l c a).length : Int) from h2)]
        rw [hs2]
        rw [show rd (hopsM n l c a) 0 = (hopsM n l c a).headD (-1) from ?_]
        · exact hi
        · cases hm : hopsM n l c a with
          | nil => rw [hm] at h2; simp at h2
          | cons x r => rfl
      · simp only [if_neg h2]
        rw [show (hopsM n l c a).headD (-1) = -1 from ?_] at hi
        · exact hi
        · cases hm : hopsM n l c a with
          | nil => rfl
          | cons x r => rw [hm] at h2; simp at h2
def treeAt (n : Int) (l : List S79) (v : Int) : List Int × Bool := if goodE n l = true then (if 0 ≤ v ∧ v ≤ wrap64 (n - 1) then (pars n.toNat l v n.toNat, true) else ([], false)) else ([], false)
theorem treeAt_len (n : Int) (l : List S79) (v : Int) : (treeAt n l v).1.length ≤ 12 := by
  unfold treeAt
  split
  · rename_i h
    have := goodE_n h
    have := pars_len n.toNat l v n.toNat
    split
    · show (pars n.toNat l v n.toNat).length ≤ 12
      omega
    · simp
  · simp
theorem specTreeAt_ev (n : Int) (l : List S79) (v : Int) (hl : l.length ≤ 1048576) : Ev (fun k => spec_TreeAt.f k n l v) (treeAt n l v) := by
  unfold spec_TreeAt.f treeAt
  refine Ev.bind (specGoodE_ev n l hl) ?_
  by_cases h : goodE n l = true
  · have hn := goodE_n h
    simp only [if_pos h, specIn, Option.bind_some]
    by_cases hv : 0 ≤ v ∧ v ≤ wrap64 (n - 1)
    · simp only [if_pos hv, decide_eq_true_eq]
      rw [top_is hn.1 hn.2.1] at hv
      have hg := goodE_edge h
      obtain ⟨m, rfl⟩ := Int.eq_ofNat_of_zero_le (show 0 ≤ n by omega)
      rw [Int.toNat_natCast]
      have h1 : Ev (fun k => spec_l10At.f k m l v) (pars m l v m) := by
        unfold spec_l10At.f
        have := specFars_ev (m : Int) l v (by omega) (by omega) (edge3 h) hv.1 (by omega)
        rw [Int.toNat_natCast] at this
        refine Ev.bind this ?_
        exact specAt_l0 m (by omega) l (by omega) hg v m 0 (by omega)
      refine Ev.bind h1 ?_
      exact Ev.now _
    · simp only [if_neg hv, decide_eq_true_eq]
      exact Ev.now _
  · simp only [if_neg h]
    exact Ev.now _
theorem implTreeAt_ev (n : Int) (l : List S79) (v : Int) (hl : l.length ≤ 1048576) : Ev (fun k => impl_TreeAt.f k n l v) (treeAt n l v) := by
  unfold impl_TreeAt.f treeAt
  have hga := goodAt_ev n l [v] hl (by simp)
  rw [allIn1] at hga
  by_cases h : goodE n l = true
  · have hn := goodE_n h
    by_cases hv : 0 ≤ v ∧ v ≤ wrap64 (n - 1)
    · rw [h, decide_eq_true hv, Bool.true_and] at hga
      refine Ev.bind hga ?_
      simp only [if_true]
      rw [if_pos h, if_pos hv]
      rw [top_is hn.1 hn.2.1] at hv
      obtain ⟨m, rfl⟩ := Int.eq_ofNat_of_zero_le (show 0 ≤ n by omega)
      rw [Int.toNat_natCast]
      have h1 : Ev (fun k => impl_treeAt.f k m l v) (pars m l v m) := by
        unfold impl_treeAt.f
        have := implFars_ev (m : Int) l v (by omega) (by omega) (edge3 h) hv.1 (by omega)
        rw [Int.toNat_natCast] at this
        refine Ev.bind this ?_
        simp only [Int.toNat_natCast, if_pos (show (0 : Int) ≤ (m : Int) by omega), if_pos (show m ≤ 35184372088832 by omega), Option.bind_some, List.length_replicate]
        exact implAt_l0 m (by omega) l hl h v m 0 (by omega)
      refine Ev.bind h1 ?_
      exact Ev.now _
    · rw [h, decide_eq_false hv, Bool.true_and] at hga
      refine Ev.bind hga ?_
      simp only [Bool.false_eq_true, if_false]
      rw [if_pos h, if_neg hv]
      exact Ev.now _
  · rw [Bool.eq_false_iff.2 h, Bool.false_and] at hga
    refine Ev.bind hga ?_
    simp only [Bool.false_eq_true, if_false]
    rw [if_neg h]
    exact Ev.now _
end Go.Proofs.Ytedegfbheihopaa.P

namespace Go.Proofs.Ytedegfbheihopaa.P
open Go.RowKit Go.Proofs.YtedegfbheihopaaW.PrintWords Go.Proofs.YtedegfbheihopaaW.PrintLast
set_option linter.unusedVariables false
set_option linter.unusedSimpArgs false
def marksI : Nat → Int → List Int
  | 0, _ => []
  | n + 1, q => q :: marksI n (q + 1)
theorem markIntS_l (suf : List Int) : ∀ (pre : List Int) (k : Nat) (q : Int), suf.length < k → (pre.length : Int) + suf.length ≤ 1099511627776 → 0 ≤ q → q + suf.length ≤ 4611686018427387904 →
    laws_markIntS.l0 k (pre ++ suf) q (pre.length : Int) = some (q + suf.length, pre ++ marksI suf.length q) := by
  induction suf with
  | nil =>
    intro pre k q hk hb h0 h1
    obtain ⟨k, rfl⟩ : ∃ m, k = m + 1 := ⟨k - 1, by omega⟩
    simp only [laws_markIntS.l0]
    rw [if_neg (by simp)]
    simp [marksI]
  | cons x suf ih =>
    intro pre k q hk hb h0 h1
    simp only [List.length_cons] at hk hb h1
    obtain ⟨k, rfl⟩ : ∃ m, k = m + 1 := ⟨k - 1, by omega⟩
    have h := ih (pre ++ [q]) k (q + 1) (by omega) (by simp <;> omega) (by omega) (by omega)
    simp only [laws_markIntS.l0]
    rw [if_pos (by simp <;> omega), if_pos (by omega), set_mid, wrap_id (x := q + 1) (by omega) (by omega), wrap_id (x := (pre.length : Int) + 1) (by omega) (by omega)]
    rw [len_one] at h
    rw [app_one, h]
    simp only [marksI, List.length_cons, List.append_assoc, List.cons_append, List.nil_append, Option.some.injEq, Prod.mk.injEq, and_true]
    omega
theorem markIntS_ev (l : List Int) (q : Int) (hl : l.length ≤ 1099511627776) (h0 : 0 ≤ q) (h1 : q ≤ 1099511627776) : Ev (fun k => laws_markIntS.f k l q) (q + l.length, marksI l.length q) := by
  refine ⟨l.length + 1, fun k hk => ?_⟩
  show laws_markIntS.f k l q = _
  unfold laws_markIntS.f
  simpa using markIntS_l l [] k q (by omega) (by simp <;> omega) h0 (by omega)
theorem heldIntS_l (n : Nat) : ∀ (pre : List Int) (k : Nat) (q : Int), n < k → (pre.length : Int) + n ≤ 1099511627776 → 0 ≤ q → q + n ≤ 4611686018427387904 →
    laws_heldIntS.l0 k (pre ++ marksI n q) q (pre.length : Int) = some (q + n) := by
  induction n with
  | zero =>
    intro pre k q hk hb h0 h1
    obtain ⟨k, rfl⟩ : ∃ m, k = m + 1 := ⟨k - 1, by omega⟩
    simp only [laws_heldIntS.l0]
    rw [show marksI 0 q = [] from rfl, if_neg (by simp)]
    simp
  | succ n ih =>
    intro pre k q hk hb h0 h1
    obtain ⟨k, rfl⟩ : ∃ m, k = m + 1 := ⟨k - 1, by omega⟩
    have h := ih (pre ++ [q]) k (q + 1) (by omega) (by simp <;> omega) (by omega) (by omega)
    simp only [laws_heldIntS.l0]
    rw [show marksI (n + 1) q = q :: marksI n (q + 1) from rfl]
    rw [if_pos (by simp <;> omega), if_pos (by omega), rd_mid, if_pos rfl, wrap_id (x := q + 1) (by omega) (by omega), wrap_id (x := (pre.length : Int) + 1) (by omega) (by omega)]
    rw [len_one] at h
    rw [app_one, h]
    simp only [Option.some.injEq]
    omega
theorem heldIntS_ev (n : Nat) (q : Int) (hl : n ≤ 1099511627776) (h0 : 0 ≤ q) (h1 : q ≤ 1099511627776) : Ev (fun k => laws_heldIntS.f k (marksI n q) q) (q + n) := by
  refine ⟨n + 1, fun k hk => ?_⟩
  show laws_heldIntS.f k (marksI n q) q = _
  unfold laws_heldIntS.f
  exact heldIntS_l n [] k q (by omega) (by simp <;> omega) h0 (by omega)
end Go.Proofs.Ytedegfbheihopaa.P

namespace Go.Proofs.Ytedegfbheihopaa.P
open Go.RowKit Go.Proofs.YtedegfbheihopaaW.PrintWords Go.Proofs.YtedegfbheihopaaW.PrintLast
set_option linter.unusedVariables false
set_option linter.unusedSimpArgs false
def marksEdge : Nat → Int → List S79
  | 0, _ => []
  | n + 1, q => ⟨q, q + 1, q + 2⟩ :: marksEdge n (q + 3)
theorem markEdgeS_l (suf : List S79) : ∀ (pre : List S79) (k : Nat) (q : Int), suf.length < k → (pre.length : Int) + suf.length ≤ 1099511627776 → 0 ≤ q → q + 3 * suf.length ≤ 4611686018427387904 →
    laws_markEdgeS.l0 k (pre ++ suf) q (pre.length : Int) = some (q + 3 * suf.length, pre ++ marksEdge suf.length q) := by
  induction suf with
  | nil =>
    intro pre k q hk hb h0 h1
    obtain ⟨k, rfl⟩ : ∃ m, k = m + 1 := ⟨k - 1, by omega⟩
    simp only [laws_markEdgeS.l0]
    rw [if_neg (by simp)]
    simp [marksEdge]
  | cons x suf ih =>
    intro pre k q hk hb h0 h1
    simp only [List.length_cons] at hk hb h1
    obtain ⟨k, rfl⟩ : ∃ m, k = m + 1 := ⟨k - 1, by omega⟩
    have h := ih (pre ++ [⟨q, q + 1, q + 2⟩]) k (q + 3) (by omega) (by simp <;> omega) (by omega) (by omega)
    simp only [laws_markEdgeS.l0]
    rw [if_pos (by simp <;> omega), if_pos (by omega)]
    simp only [Option.bind_some, set_mid, rdEdge_mid]
    rw [wrap_id (x := q + 1) (by omega) (by omega), wrap_id (x := q + 1 + 1) (by omega) (by omega), wrap_id (x := q + 1 + 1 + 1) (by omega) (by omega), wrap_id (x := (pre.length : Int) + 1) (by omega) (by omega)]
    rw [show q + 1 + 1 = q + 2 from by omega, show q + 2 + 1 = q + 3 from by omega]
    rw [show ((pre ++ [(⟨q, q + 1, q + 2⟩ : S79)]).length : Int) = (pre.length : Int) + 1 from by simp] at h
    rw [app_one, h]
    simp only [marksEdge, List.length_cons, List.append_assoc, List.cons_append, List.nil_append, Option.some.injEq, Prod.mk.injEq, and_true]
    omega
theorem markEdgeS_ev (l : List S79) (q : Int) (hl : l.length ≤ 1099511627776) (h0 : 0 ≤ q) (h1 : q ≤ 1099511627776) : Ev (fun k => laws_markEdgeS.f k l q) (q + 3 * l.length, marksEdge l.length q) := by
  refine ⟨l.length + 1, fun k hk => ?_⟩
  show laws_markEdgeS.f k l q = _
  unfold laws_markEdgeS.f
  simpa using markEdgeS_l l [] k q (by omega) (by simp <;> omega) h0 (by omega)
end Go.Proofs.Ytedegfbheihopaa.P

namespace Go.Proofs.Ytedegfbheihopaa.Pure
open Go.RowKit Go.Proofs.Ytedegfbheihopaa.P Go.Proofs.YtedegfbheihopaaW.PrintWords Go.Proofs.YtedegfbheihopaaW.PrintLast
set_option linter.unusedVariables false
set_option linter.unusedSimpArgs false
theorem FnExactTreeAt : laws_FnExactTreeAt.Pure := by
  intro a0 l a2 _ ⟨hm, _⟩ _
  refine Ev.rounds ?_
  unfold laws_FnExactTreeAt.f
  rw [szEdgeS_is l hm 1048576 (by omega) (by omega)]
  simp only [Option.bind_some]
  by_cases h : (1048576 : Int) - l.length < 0
  · simp only [if_pos h]
    exact Ev.now _
  · have hl : l.length ≤ 1048576 := by omega
    have hl2 : (l.map cvEdge).length ≤ 1048576 := by simpa using hl
    have hr := treeAt_len a0 (l.map cvEdge) a2
    simp only [if_neg h]
    refine Ev.bind (toEdgeS_ev l hl) ?_
    refine Ev.bind (specTreeAt_ev a0 _ a2 hl2) ?_
    refine Ev.bind (toEdgeS_ev l hl) ?_
    refine Ev.bind (implTreeAt_ev a0 _ a2 hl2) ?_
    have hi := implTreeAt_ev a0 _ a2 hl2
    generalize treeAt a0 (l.map cvEdge) a2 = r at hr hi
    refine Ev.bind (eqIntS_ev _ _ (by omega)) ?_
    simp only [decide_true, if_true, bne_self_eq_false]
    refine Ev.succ ?_
    simp only [laws_FnExactTreeAt.j0, Bool.false_eq_true, if_false]
    refine Ev.bind (toEdgeS_ev l hl) ?_
    refine Ev.bind (eqEdgeS_ev _ _ (by omega)) ?_
    simp only [decide_true, if_true]
    refine Ev.bind (markEdgeS_ev _ 1 (by omega) (by omega) (by omega)) ?_
    simp only [if_neg (show ¬ (1 + 3 * ((l.map cvEdge).length : Int)) < 0 by omega)]
    refine Ev.bind (eqIntS_ev _ _ (by omega)) ?_
    simp only [decide_true, if_true, bne_self_eq_false]
    refine Ev.succ ?_
    simp only [laws_FnExactTreeAt.j1, Bool.false_eq_true, if_false]
    refine Ev.bind (markIntS_ev _ 1 (by omega) (by omega) (by omega)) ?_
    refine Ev.bind (heldIntS_ev _ 1 (by omega) (by omega) (by omega)) ?_
    simp only [if_neg (show ¬ (1 + (r.1.length : Int)) < 0 by omega), if_true]
    refine Ev.bind (toEdgeS_ev l hl) ?_
    refine Ev.bind hi ?_
    refine Ev.bind (eqIntS_ev _ _ (by omega)) ?_
    simp only [decide_true, if_true, bne_self_eq_false]
    refine Ev.succ ?_
    simp only [laws_FnExactTreeAt.j2, Bool.false_eq_true, if_false]
    refine Ev.bind (heldIntS_ev _ 1 (by omega) (by omega) (by omega)) ?_
    simp only [if_neg (show ¬ (1 + (r.1.length : Int)) < 0 by omega), if_true]
    exact Ev.now _
end Go.Proofs.Ytedegfbheihopaa.Pure
