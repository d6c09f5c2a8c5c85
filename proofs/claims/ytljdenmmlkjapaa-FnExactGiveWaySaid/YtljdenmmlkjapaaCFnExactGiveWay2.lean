/- Functions, walks and plain lemmas that the law FnExactGiveWay reaches, part 2. -/
import Derived.Test.YtljdenmmlkjapaaCFnExactGiveWay1
import Derived.WalkKit
import Derived.ProofKit
import Derived.OpenShut
import Derived.ChangeOld
import Derived.Below
import Derived.SizedLaws
import Derived.ChangeArms
import Derived.DataElems
import Derived.Deep.Draws
import Derived.Deep.AppendLies
import Derived.Maps.AppendAt
import Derived.OwnWalk
import Derived.Laws.BytesArg
import Derived.Laws.MakeOwn
import Derived.Laws.OwnMore
import Derived.Deep.OwnRows
import Derived.Tactics
import Derived.Lib.ConvBytes
import Derived.Laws.Slices
import Derived.KernelRfl
import Derived.RowKit3
import Derived.Deep.LoopGhost
import Derived.Deep.QuietTactic
import Derived.BigQuiet
import Derived.WideLaws
import Derived.Deep.DeepCutAuto
import Derived.Deep.CutBlock
import Derived.Deep.RegionHeld3
import Derived.Laws.Rows
import Derived.Lib.AppendStr
import Derived.ArgAppend
import Derived.Laws.IdiomCopy
import Derived.OrdersHeld
import Derived.Laws.BitsLemmas
import Derived.RowKit
import Derived.WalkSpells
import Derived.Lib.SliceRun
import Derived.Shelf.Abstract
import Derived.ShutString
import Derived.Test.YtljdenmmlkjapaaWWords
import Derived.Test.YtljdenmmlkjapaaWLast
import Derived.Test.YtljdenmmlkjapaaWTab
import Derived.Test.YtljdenmmlkjapaaWApart
import Derived.Test.YtljdenmmlkjapaaWKept
import Derived.Test.YtljdenmmlkjapaaWMore
namespace Go.Proofs.Ytljdenmmlkjapaa.P
open Go.RowKit Go.Proofs.YtljdenmmlkjapaaW.PrintWords Go.Proofs.YtljdenmmlkjapaaW.PrintLast Go.Proofs.YtljdenmmlkjapaaW.PrintMore
attribute [local go_sem] max2_int min2_int max_two min_two max_three min_three max_four min_four   -- for this text's walks alone
set_option linter.unusedVariables false
set_option linter.unusedSimpArgs false
def laws_markOwnerS.l0 : Nat → List (S26) → Int → Int → Option (Int × (List (S26)))
  | 0, _, _, _ => none
  | k + 1, x0, x1, x5 => if x5 < (x0.length : Int) then (if 0 ≤ x5 then ((some (x0.set (x5 : Int).toNat (⟨x1, (rd_T26 x0 x5).f1, (rd_T26 x0 x5).f2⟩ : S26) : List (S26))).bind fun y329 => ((some (y329.set (x5 : Int).toNat (⟨(rd_T26 y329 x5).f0, wrap64 (x1 + 1), (rd_T26 y329 x5).f2⟩ : S26) : List (S26))).bind fun y330 => (laws_markOwnerS.l0 k (y330.set (x5 : Int).toNat (⟨(rd_T26 y330 x5).f0, (rd_T26 y330 x5).f1, wrap64 ((wrap64 (x1 + 1)) + 1)⟩ : S26)) (wrap64 ((wrap64 ((wrap64 (x1 + 1)) + 1)) + 1)) (wrap64 (x5 + 1))))) else (none)) else (some (x1, x0))
def laws_markOwnerS.f (k : Nat) (l0 : List (S26)) (a1 : Int) : Option (Int × (List (S26))) := laws_markOwnerS.l0 k l0 a1 0
set_option maxHeartbeats 8000000 in
set_option maxRecDepth 100000 in
theorem laws_markOwnerS.calls (k : Nat) (P0_ : Nat → Prop) (u9000_ : Value) (l0 : List (S26)) (a1 : Int) (r1 : Int) (r2 : List (S26)) (w0 w : World) (hB : Below w0.heap.size w0 w) (ho0 : Kd.R k26 26 w w0.heap.size P0_ u9000_ l0) (h : laws_markOwnerS.f k l0 a1 = some (r1, r2)) :
    Calls Try.prog 31 #[u9000_, .int .i64 a1] w fun e w' => e = .returned (.int .i64 r1) ∧ Kd.R k26 26 w' w0.heap.size (fun k_ => (P0_ k_ ∨ w.heap.size ≤ k_)) u9000_ r2 ∧ Below w0.heap.size w0 w' ∧ Kept w w' (fun k_ => P0_ k_) := by
  have HO0 := Aside0.mk (show Kd.R k26 26 w w0.heap.size (fun k_ => (P0_ k_ ∨ w.heap.size ≤ k_)) u9000_ l0 from Kd.R_mono ho0 (fun k_ hk => (.inl hk)))
  have HK := Aside0.mk (Kept.refl w (fun k_ => P0_ k_))
  have HW0 := Aside0.mk hB.size
  have HB := Aside0.mk hB
  clear hB
  have H : (laws_markOwnerS.l0 k l0 a1 0) = some (r1, r2) := h
  clear h
  have H' := Aside0.mk H
  clear H
  go_enter Try.func31, Try.ntmps31
  go_wp2
  go_loopg [1, 5] k (fun kq v1 v5 w' => ∃ (x0_1 : List (S26)) (x1_1 : Int) (x5_1 : Int), v1 = .int .i64 x1_1 ∧ v5 = .int .i64 x5_1 ∧ Aside0 (laws_markOwnerS.l0 kq x0_1 x1_1 x5_1 = some (r1, r2)) ∧ Aside0 (kq ≤ k) ∧ Aside0 (Kd.R k26 26 w' w0.heap.size (fun k_ => (P0_ k_ ∨ w.heap.size ≤ k_)) u9000_ x0_1) ∧ Aside0 (Kept w w' (fun k_ => P0_ k_)) ∧ Aside0 (Below w0.heap.size w0 w'))
  case atStart => exact ⟨(l0), (a1), (0), (by first | rfl | (simp; done) | (simp [*]; done)), (by first | rfl | (simp; done) | (simp [*]; done)), H', ⟨Nat.le_refl _⟩, ⟨by (with_reducible repeat (first | apply Kd.R_alloc | apply Kd.R_drewN | apply Kd.R_drew)); exact HO0.out⟩, ⟨by repeat (first | (with_reducible first | exact HK.out | apply Kept.alloc | apply Kept.drewN | apply Kept.drew) | exact HK.out)⟩, ⟨by repeat (first | (with_reducible first | exact HB.out | apply below_alloc | apply pw_below_drewN | apply below_drew1) | exact HB.out)⟩⟩
  case round =>
    clear H'
    try clear p2
    obtain ⟨x0_1, x1_1, x5_1, rfl, rfl, HA, HK1, HO_0, HK, HB⟩ := hrel
    cases gk with
    | zero => exact absurd HA.out (by simp [laws_markOwnerS.l0])
    | succ k1 =>
      have H := HA.out
      clear HA
      simp only [laws_markOwnerS.l0] at H
      by_cases c3 : x5_1 < (x0_1.length : Int)
      · rw [if_pos c3] at H
        have c3b0 : decide (x5_1 < (x0_1.length : Int)) = true := decide_eq_true c3
        clear c3
        by_cases c4 : 0 ≤ x5_1
        · rw [if_pos c4] at H
          have c4b0 : decide (0 ≤ x5_1) = true := decide_eq_true c4
          clear c4
          obtain ⟨y329, hy329⟩ : ∃ y_ : List (S26), y_ = (x0_1.set (x5_1 : Int).toNat (⟨x1_1, (rd_T26 x0_1 x5_1).f1, (rd_T26 x0_1 x5_1).f2⟩ : S26)) := ⟨_, rfl⟩
          replace H : ((some (y329.set (x5_1 : Int).toNat (⟨(rd_T26 y329 x5_1).f0, wrap64 (x1_1 + 1), (rd_T26 y329 x5_1).f2⟩ : S26) : List (S26))).bind fun y330 => (laws_markOwnerS.l0 k1 (y330.set (x5_1 : Int).toNat (⟨(rd_T26 y330 x5_1).f0, (rd_T26 y330 x5_1).f1, wrap64 ((wrap64 (x1_1 + 1)) + 1)⟩ : S26)) (wrap64 ((wrap64 ((wrap64 (x1_1 + 1)) + 1)) + 1)) (wrap64 (x5_1 + 1)))) = some (r1, r2) := by first | (rw [hy329]; with_reducible exact H) | (have H2_ := (Option.bind_some _ _).symm.trans H; rw [hy329]; with_reducible exact H2_) | (have H2_ := (Option.bind_some _ _).symm.trans H; with_reducible exact H2_) | with_reducible exact H | (rw [hy329]; exact H) | exact H
          have Ny329 := Aside0.mk hy329
          clear hy329
          obtain ⟨y330, hy330⟩ : ∃ y_ : List (S26), y_ = (y329.set (x5_1 : Int).toNat (⟨(rd_T26 y329 x5_1).f0, wrap64 (x1_1 + 1), (rd_T26 y329 x5_1).f2⟩ : S26)) := ⟨_, rfl⟩
          replace H : (laws_markOwnerS.l0 k1 (y330.set (x5_1 : Int).toNat (⟨(rd_T26 y330 x5_1).f0, (rd_T26 y330 x5_1).f1, wrap64 ((wrap64 (x1_1 + 1)) + 1)⟩ : S26)) (wrap64 ((wrap64 ((wrap64 (x1_1 + 1)) + 1)) + 1)) (wrap64 (x5_1 + 1))) = some (r1, r2) := by first | (rw [hy330]; with_reducible exact H) | (have H2_ := (Option.bind_some _ _).symm.trans H; rw [hy330]; with_reducible exact H2_) | (have H2_ := (Option.bind_some _ _).symm.trans H; with_reducible exact H2_) | with_reducible exact H | (rw [hy330]; exact H) | exact H
          have Ny330 := Aside0.mk hy330
          clear hy330
          obtain ⟨y331, hy331⟩ : ∃ y_ : List (S26), y_ = (y330.set (x5_1 : Int).toNat (⟨(rd_T26 y330 x5_1).f0, (rd_T26 y330 x5_1).f1, wrap64 ((wrap64 (x1_1 + 1)) + 1)⟩ : S26)) := ⟨_, rfl⟩
          replace H : (laws_markOwnerS.l0 k1 y331 (wrap64 ((wrap64 ((wrap64 (x1_1 + 1)) + 1)) + 1)) (wrap64 (x5_1 + 1))) = some (r1, r2) := by first | (rw [hy331]; with_reducible exact H) | (have H2_ := (Option.bind_some _ _).symm.trans H; rw [hy331]; with_reducible exact H2_) | (have H2_ := (Option.bind_some _ _).symm.trans H; with_reducible exact H2_) | with_reducible exact H | (rw [hy331]; exact H) | exact H
          have Ny331 := Aside0.mk hy331
          clear hy331
          have H' := Aside0.mk H
          clear H
          obtain ⟨Ao8, co8, eo8⟩ := Kd.R_slice HO_0.out
          subst eo8
          have p5 : 0 ≤ (x5_1 : Int) := of_decide_eq_true (by first | (with_reducible assumption) | assumption)
          have q5 : (x5_1 : Int) < ((x0_1.length : Int) : Int) := of_decide_eq_true (by first | (with_reducible assumption) | assumption)
          obtain ⟨go5, co5, eo5, gb5, gl5, cl5, HG5⟩ := Kd.R_form HO_0.out (by omega)
          (first | cases eo5 | (injection eo5 with ea_ en_ ec_; (first | subst ea_ | (injection ea_ with ea_; subst ea_)); subst ec_; clear en_))
          have GB5 := Aside0.mk gb5
          have GG5 := Aside0.mk HG5
          clear gb5 gl5 HG5
          have HMgo5 := Aside0.mk (show (P0_ go5 ∨ w.heap.size ≤ go5) from (HO_0.out.1 _ rfl))
          obtain ⟨ce5, hcl5, hM5, hcc5, hfr5⟩ := Kd.R_elem HO_0.out z26 (x5_1 : Int) p5 q5
          obtain rfl := k26_openM hM5
          have hx5_0 : wr.cell? ⟨go5, (x5_1 : Int).toNat * 3, none⟩ = some (.int .i64 ((rd_T26 x0_1 x5_1).f0)) := hcc5 0 _ rfl
          have hx5_1 : wr.cell? ⟨go5, (x5_1 : Int).toNat * 3 + 1, none⟩ = some (.int .i64 ((rd_T26 x0_1 x5_1).f1)) := hcc5 1 _ rfl
          have hx5_2 : wr.cell? ⟨go5, (x5_1 : Int).toNat * 3 + 2, none⟩ = some (.int .i64 ((rd_T26 x0_1 x5_1).f2)) := hcc5 2 _ rfl
          have hf5_0 : wr.frozen? ⟨go5, (x5_1 : Int).toNat * 3, none⟩ = false := hfr5 0
          have hf5_1 : wr.frozen? ⟨go5, (x5_1 : Int).toNat * 3 + 1, none⟩ = false := hfr5 1
          have hf5_2 : wr.frozen? ⟨go5, (x5_1 : Int).toNat * 3 + 2, none⟩ = false := hfr5 2
          clear hcl5 hcc5 hfr5 hM5
          replace p5 := eq_true p5
          replace q5 := eq_true q5
          have HX9 := Aside0.mk (show Kd.R k26 26 wr w0.heap.size (fun k_ => (P0_ k_ ∨ w.heap.size ≤ k_)) (.slice (some ⟨go5, 0, none⟩) x0_1.length co8) x0_1 from (by (with_reducible repeat (first | apply Kd.R_alloc | apply Kd.R_drewN | apply Kd.R_drew)); exact HO_0.out))
          obtain ⟨ce9, hcl9, hM9, hcc9, hfr9⟩ := Kd.R_elem HX9.out z26 (x5_1 : Int) (of_decide_eq_true (by first | (with_reducible assumption) | assumption)) (by have h_ : (x5_1 : Int) < ((x0_1.length : Int) : Int) := of_decide_eq_true (by first | (with_reducible assumption) | assumption); first | exact h_ | (have e_ := (Kd.R_reads' HO_0.out).1; omega) | simpa using h_)
          obtain rfl := k26_openM hM9
          have HP9 := Kd.R_seg HX9.out (x5_1 : Int) (of_decide_eq_true (by first | (with_reducible assumption) | assumption)) (by have h_ : (x5_1 : Int) < ((x0_1.length : Int) : Int) := of_decide_eq_true (by first | (with_reducible assumption) | assumption); first | exact h_ | (have e_ := (Kd.R_reads' HO_0.out).1; omega) | simpa using h_) (seg := [.int .i64 x1_1]) (j := 0) hcl9 hcc9 (show 1 ≤ 3 from by decide) (x' := (⟨x1_1, (rd_T26 x0_1 x5_1).f1, (rd_T26 x0_1 x5_1).f2⟩ : S26)) (k26_mkM _ _ _ (⟨x1_1, (rd_T26 x0_1 x5_1).f1, (rd_T26 x0_1 x5_1).f2⟩ : S26) ) (fun _ hk => hk)
          have hx9_0 := hcc9 0 _ rfl
          (try simp only [show (k26).sz = 3 from rfl, Nat.mul_one, Nat.add_zero] at hx9_0)
          have hf9_0 := hfr9 0
          (try simp only [show (k26).sz = 3 from rfl, Nat.mul_one, Nat.add_zero] at hf9_0)
          clear hcl9 hcc9 hfr9 hM9
          go_wp2_with (first | ((with_reducible refine gate_store (t := 3) (p := 16) rfl ?_); refine store_event (t := 3) (p := 16) (v := ?vo_w10) (w1 := (wr.setCell ⟨go5, (x5_1 : Int).toNat * 3, none⟩ (.int .i64 x1_1))) ?hg ?ho ?hn ?hr ?_; (case ho => rfl); (case hg => rfl); (case hn => rfl); (case hr => first | (go_simp; done) | (go_simp; rfl)); intro w10 hw; have hg : wr.grownBy w10 (some go5) := (by rw [hw]; exact HP9.2); have hp_ : Kd.R k26 26 w10 w0.heap.size (fun k_ => (P0_ k_ ∨ w.heap.size ≤ k_)) (.slice (some ⟨go5, 0, none⟩) x0_1.length co8) y329 := (by rw [hw, Ny329.out]; exact HP9.1); clear HP9; have n0_ := Aside0.mk (hp_); have n1_ := Aside0.mk ((by rw [hw]; exact below_set (HB.out) GB5.out : Below w0.heap.size w0 w10)); have n2_ := Aside0.mk (Kept.of_grown (S := (fun k_ => P0_ k_)) hg (by repeat (first | (with_reducible first | exact HK.out | apply Kept.alloc | apply Kept.drewN | apply Kept.drew) | exact HK.out)) (fun k_ e_ => (HO_0.out.1 k_ e_))); clear HO_0; clear HB; clear HK; have HO_0 := n0_; have HB := n1_; have HK := n2_; clear n0_ n1_ n2_; clear hg hw hp_; have p6 : 0 ≤ (x5_1 : Int) := of_decide_eq_true (by first | (with_reducible assumption) | assumption); have q6 : (x5_1 : Int) < ((x0_1.length : Int) : Int) := of_decide_eq_true (by first | (with_reducible assumption) | assumption); obtain ⟨ce6, hcl6, hM6, hcc6, hfr6⟩ := Kd.R_elem HO_0.out z26 (x5_1 : Int) p6 q6; obtain rfl := k26_openM hM6; have hx6_0 : w10.cell? ⟨go5, (x5_1 : Int).toNat * 3, none⟩ = some (.int .i64 ((rd_T26 y329 x5_1).f0)) := hcc6 0 _ rfl; have hx6_1 : w10.cell? ⟨go5, (x5_1 : Int).toNat * 3 + 1, none⟩ = some (.int .i64 ((rd_T26 y329 x5_1).f1)) := hcc6 1 _ rfl; have hx6_2 : w10.cell? ⟨go5, (x5_1 : Int).toNat * 3 + 2, none⟩ = some (.int .i64 ((rd_T26 y329 x5_1).f2)) := hcc6 2 _ rfl; have hf6_0 : w10.frozen? ⟨go5, (x5_1 : Int).toNat * 3, none⟩ = false := hfr6 0; have hf6_1 : w10.frozen? ⟨go5, (x5_1 : Int).toNat * 3 + 1, none⟩ = false := hfr6 1; have hf6_2 : w10.frozen? ⟨go5, (x5_1 : Int).toNat * 3 + 2, none⟩ = false := hfr6 2; clear hcl6 hcc6 hfr6 hM6; replace p6 := eq_true p6; replace q6 := eq_true q6; have HX11 := Aside0.mk (show Kd.R k26 26 w10 w0.heap.size (fun k_ => (P0_ k_ ∨ w.heap.size ≤ k_)) (.slice (some ⟨go5, 0, none⟩) x0_1.length co8) y329 from (by (with_reducible repeat (first | apply Kd.R_alloc | apply Kd.R_drewN | apply Kd.R_drew)); exact HO_0.out)); obtain ⟨ce11, hcl11, hM11, hcc11, hfr11⟩ := Kd.R_elem HX11.out z26 (x5_1 : Int) (of_decide_eq_true (by first | (with_reducible assumption) | assumption)) (by have h_ : (x5_1 : Int) < ((x0_1.length : Int) : Int) := of_decide_eq_true (by first | (with_reducible assumption) | assumption); first | exact h_ | (have e_ := (Kd.R_reads' HO_0.out).1; omega) | simpa using h_); obtain rfl := k26_openM hM11; have HP11 := Kd.R_seg HX11.out (x5_1 : Int) (of_decide_eq_true (by first | (with_reducible assumption) | assumption)) (by have h_ : (x5_1 : Int) < ((x0_1.length : Int) : Int) := of_decide_eq_true (by first | (with_reducible assumption) | assumption); first | exact h_ | (have e_ := (Kd.R_reads' HO_0.out).1; omega) | simpa using h_) (seg := [.int .i64 (wrap64 (x1_1 + 1))]) (j := 1) hcl11 hcc11 (show 2 ≤ 3 from by decide) (x' := (⟨(rd_T26 y329 x5_1).f0, wrap64 (x1_1 + 1), (rd_T26 y329 x5_1).f2⟩ : S26)) (k26_mkM _ _ _ (⟨(rd_T26 y329 x5_1).f0, wrap64 (x1_1 + 1), (rd_T26 y329 x5_1).f2⟩ : S26) ) (fun _ hk => hk); have hx11_1 := hcc11 1 _ rfl; (try simp only [show (k26).sz = 3 from rfl, Nat.mul_one, Nat.add_zero] at hx11_1); have hf11_1 := hfr11 1; (try simp only [show (k26).sz = 3 from rfl, Nat.mul_one, Nat.add_zero] at hf11_1); clear hcl11 hcc11 hfr11 hM11) | ((with_reducible refine gate_store (t := 3) (p := 23) rfl ?_); refine store_event (t := 3) (p := 23) (v := ?vo_w12) (w1 := (w10.setCell ⟨go5, (x5_1 : Int).toNat * 3 + 1, none⟩ (.int .i64 (wrap64 (x1_1 + 1))))) ?hg ?ho ?hn ?hr ?_; (case ho => rfl); (case hg => rfl); (case hn => rfl); (case hr => first | (go_simp; done) | (go_simp; rfl)); intro w12 hw; have hg : w10.grownBy w12 (some go5) := (by rw [hw]; exact HP11.2); have hp_ : Kd.R k26 26 w12 w0.heap.size (fun k_ => (P0_ k_ ∨ w.heap.size ≤ k_)) (.slice (some ⟨go5, 0, none⟩) x0_1.length co8) y330 := (by rw [hw, Ny330.out]; exact HP11.1); clear HP11; have n0_ := Aside0.mk (hp_); have n1_ := Aside0.mk ((by rw [hw]; exact below_set (HB.out) GB5.out : Below w0.heap.size w0 w12)); have n2_ := Aside0.mk (Kept.of_grown (S := (fun k_ => P0_ k_)) hg (by repeat (first | (with_reducible first | exact HK.out | apply Kept.alloc | apply Kept.drewN | apply Kept.drew) | exact HK.out)) (fun k_ e_ => (HO_0.out.1 k_ e_))); clear HO_0; clear HB; clear HK; have HO_0 := n0_; have HB := n1_; have HK := n2_; clear n0_ n1_ n2_; clear hg hw hp_; have p7 : 0 ≤ (x5_1 : Int) := of_decide_eq_true (by first | (with_reducible assumption) | assumption); have q7 : (x5_1 : Int) < ((x0_1.length : Int) : Int) := of_decide_eq_true (by first | (with_reducible assumption) | assumption); obtain ⟨ce7, hcl7, hM7, hcc7, hfr7⟩ := Kd.R_elem HO_0.out z26 (x5_1 : Int) p7 q7; obtain rfl := k26_openM hM7; have hx7_0 : w12.cell? ⟨go5, (x5_1 : Int).toNat * 3, none⟩ = some (.int .i64 ((rd_T26 y330 x5_1).f0)) := hcc7 0 _ rfl; have hx7_1 : w12.cell? ⟨go5, (x5_1 : Int).toNat * 3 + 1, none⟩ = some (.int .i64 ((rd_T26 y330 x5_1).f1)) := hcc7 1 _ rfl; have hx7_2 : w12.cell? ⟨go5, (x5_1 : Int).toNat * 3 + 2, none⟩ = some (.int .i64 ((rd_T26 y330 x5_1).f2)) := hcc7 2 _ rfl; have hf7_0 : w12.frozen? ⟨go5, (x5_1 : Int).toNat * 3, none⟩ = false := hfr7 0; have hf7_1 : w12.frozen? ⟨go5, (x5_1 : Int).toNat * 3 + 1, none⟩ = false := hfr7 1; have hf7_2 : w12.frozen? ⟨go5, (x5_1 : Int).toNat * 3 + 2, none⟩ = false := hfr7 2; clear hcl7 hcc7 hfr7 hM7; replace p7 := eq_true p7; replace q7 := eq_true q7; have HX13 := Aside0.mk (show Kd.R k26 26 w12 w0.heap.size (fun k_ => (P0_ k_ ∨ w.heap.size ≤ k_)) (.slice (some ⟨go5, 0, none⟩) x0_1.length co8) y330 from (by (with_reducible repeat (first | apply Kd.R_alloc | apply Kd.R_drewN | apply Kd.R_drew)); exact HO_0.out)); obtain ⟨ce13, hcl13, hM13, hcc13, hfr13⟩ := Kd.R_elem HX13.out z26 (x5_1 : Int) (of_decide_eq_true (by first | (with_reducible assumption) | assumption)) (by have h_ : (x5_1 : Int) < ((x0_1.length : Int) : Int) := of_decide_eq_true (by first | (with_reducible assumption) | assumption); first | exact h_ | (have e_ := (Kd.R_reads' HO_0.out).1; omega) | simpa using h_); obtain rfl := k26_openM hM13; have HP13 := Kd.R_seg HX13.out (x5_1 : Int) (of_decide_eq_true (by first | (with_reducible assumption) | assumption)) (by have h_ : (x5_1 : Int) < ((x0_1.length : Int) : Int) := of_decide_eq_true (by first | (with_reducible assumption) | assumption); first | exact h_ | (have e_ := (Kd.R_reads' HO_0.out).1; omega) | simpa using h_) (seg := [.int .i64 (wrap64 ((wrap64 (x1_1 + 1)) + 1))]) (j := 2) hcl13 hcc13 (show 3 ≤ 3 from by decide) (x' := (⟨(rd_T26 y330 x5_1).f0, (rd_T26 y330 x5_1).f1, wrap64 ((wrap64 (x1_1 + 1)) + 1)⟩ : S26)) (k26_mkM _ _ _ (⟨(rd_T26 y330 x5_1).f0, (rd_T26 y330 x5_1).f1, wrap64 ((wrap64 (x1_1 + 1)) + 1)⟩ : S26) ) (fun _ hk => hk); have hx13_2 := hcc13 2 _ rfl; (try simp only [show (k26).sz = 3 from rfl, Nat.mul_one, Nat.add_zero] at hx13_2); have hf13_2 := hfr13 2; (try simp only [show (k26).sz = 3 from rfl, Nat.mul_one, Nat.add_zero] at hf13_2); clear hcl13 hcc13 hfr13 hM13) | ((with_reducible refine gate_store (t := 3) (p := 30) rfl ?_); refine store_event (t := 3) (p := 30) (v := ?vo_w14) (w1 := (w12.setCell ⟨go5, (x5_1 : Int).toNat * 3 + 2, none⟩ (.int .i64 (wrap64 ((wrap64 (x1_1 + 1)) + 1))))) ?hg ?ho ?hn ?hr ?_; (case ho => rfl); (case hg => rfl); (case hn => rfl); (case hr => first | (go_simp; done) | (go_simp; rfl)); intro w14 hw; have hg : w12.grownBy w14 (some go5) := (by rw [hw]; exact HP13.2); have hp_ : Kd.R k26 26 w14 w0.heap.size (fun k_ => (P0_ k_ ∨ w.heap.size ≤ k_)) (.slice (some ⟨go5, 0, none⟩) x0_1.length co8) y331 := (by rw [hw, Ny331.out]; exact HP13.1); clear HP13; have n0_ := Aside0.mk (hp_); have n1_ := Aside0.mk ((by rw [hw]; exact below_set (HB.out) GB5.out : Below w0.heap.size w0 w14)); have n2_ := Aside0.mk (Kept.of_grown (S := (fun k_ => P0_ k_)) hg (by repeat (first | (with_reducible first | exact HK.out | apply Kept.alloc | apply Kept.drewN | apply Kept.drew) | exact HK.out)) (fun k_ e_ => (HO_0.out.1 k_ e_))); clear HO_0; clear HB; clear HK; have HO_0 := n0_; have HB := n1_; have HK := n2_; clear n0_ n1_ n2_; clear hg hw hp_))
          go_roundg k1
          case measure => have := HK1.out; omega
          case rel => exact ⟨(y331), (wrap64 ((wrap64 ((wrap64 (x1_1 + 1)) + 1)) + 1)), (wrap64 (x5_1 + 1)), (by first | rfl | (simp; done) | (simp [*]; done)), (by first | rfl | (simp; done) | (simp [*]; done)), H', ⟨by have := HK1.out; omega⟩, ⟨by (with_reducible repeat (first | apply Kd.R_alloc | apply Kd.R_drewN | apply Kd.R_drew)); exact HO_0.out⟩, ⟨by repeat (first | (with_reducible first | exact HK.out | apply Kept.alloc | apply Kept.drewN | apply Kept.drew) | exact HK.out)⟩, ⟨by repeat (first | (with_reducible first | exact HB.out | apply below_alloc | apply pw_below_drewN | apply below_drew1) | exact HB.out)⟩⟩
        · rw [if_neg c4] at H
          exact absurd H (by simp)
      · rw [if_neg c3] at H
        have c3b0 : decide (x5_1 < (x0_1.length : Int)) = false := decide_eq_false c3
        clear c3
        simp only [Option.some.injEq, Prod.mk.injEq] at H
        obtain ⟨rfl, rfl⟩ := H
        obtain ⟨Ao15, co15, eo15⟩ := Kd.R_slice HO_0.out
        subst eo15
        go_wp2
        go_ret
        exact ⟨by first | rfl | (simp [errW_none, errW_some] <;> rfl) | (simp [*, errW_none, errW_some] <;> rfl), by (with_reducible repeat (first | apply Kd.R_alloc | apply Kd.R_drewN | apply Kd.R_drew)); exact HO_0.out, by repeat (first | (with_reducible first | exact HB.out | apply below_alloc | apply pw_below_drewN | apply below_drew1) | exact HB.out), by repeat (first | (with_reducible first | exact HK.out | apply Kept.alloc | apply Kept.drewN | apply Kept.drew) | exact HK.out)⟩
def laws_heldOwnerS.l0 : Nat → List (S26) → Int → Int → Option (Int)
  | 0, _, _, _ => none
  | k + 1, x0, x1, x5 => if x5 < (x0.length : Int) then (if 0 ≤ x5 then (if ((rd_T26 x0 x5).f0) = x1 then (if ((rd_T26 x0 x5).f1) = (wrap64 (x1 + 1)) then (if ((rd_T26 x0 x5).f2) = (wrap64 ((wrap64 (x1 + 1)) + 1)) then (laws_heldOwnerS.l0 k x0 (wrap64 ((wrap64 ((wrap64 (x1 + 1)) + 1)) + 1)) (wrap64 (x5 + 1))) else (some (-1))) else (some (-1))) else (some (-1))) else (none)) else (some x1)
def laws_heldOwnerS.f (k : Nat) (l0 : List (S26)) (a1 : Int) : Option (Int) := laws_heldOwnerS.l0 k l0 a1 0
set_option maxHeartbeats 8000000 in
set_option maxRecDepth 100000 in
theorem laws_heldOwnerS.calls (k : Nat) (A0 : Option Addr) (c0 : Nat) (l0 : List (S26)) (a1 : Int) (r : Int) (w : World) (hr0 : Kd.C k26 w A0 l0.length l0) (hc0 : l0.length ≤ c0) (h : laws_heldOwnerS.f k l0 a1 = some r) :
    Calls Try.prog 32 #[.slice A0 l0.length c0, .int .i64 a1] w fun e w' => e = .returned (.int .i64 r) ∧ Drawn0 w w' := by
  have HR0 := Aside0.mk hr0
  have HC0 := Aside0.mk hc0
  clear hr0 hc0
  have H : (laws_heldOwnerS.l0 k l0 a1 0) = some r := h
  clear h
  have H' := Aside0.mk H
  clear H
  go_enter Try.func32, Try.ntmps32
  go_wp2
  go_loopg [1, 5] k (fun kq v1 v5 w' => ∃ (x1_1 : Int) (x5_1 : Int), v1 = .int .i64 x1_1 ∧ v5 = .int .i64 x5_1 ∧ Aside0 (laws_heldOwnerS.l0 kq l0 x1_1 x5_1 = some r) ∧ Aside0 (kq ≤ k) ∧ Drawn0 w w')
  case atStart => exact ⟨(a1), (0), (by first | rfl | (simp; done) | (simp [*]; done)), (by first | rfl | (simp; done) | (simp [*]; done)), H', ⟨Nat.le_refl _⟩, by repeat (first | exact Drawn0.refl _ | apply Drawn0.step)⟩
  case round =>
    clear H'
    try clear p2
    obtain ⟨x1_1, x5_1, rfl, rfl, HA, HK1, ⟨m1, rfl⟩⟩ := hrel
    cases gk with
    | zero => exact absurd HA.out (by simp [laws_heldOwnerS.l0])
    | succ k1 =>
      have H := HA.out
      clear HA
      simp only [laws_heldOwnerS.l0] at H
      by_cases c3 : x5_1 < (l0.length : Int)
      · rw [if_pos c3] at H
        have c3b0 : decide (x5_1 < (l0.length : Int)) = true := decide_eq_true c3
        clear c3
        by_cases c4 : 0 ≤ x5_1
        · rw [if_pos c4] at H
          have c4b0 : decide (0 ≤ x5_1) = true := decide_eq_true c4
          clear c4
          by_cases c5 : ((rd_T26 l0 x5_1).f0) = x1_1
          · rw [if_pos c5] at H
            have c5b0 : (((rd_T26 l0 x5_1).f0) == x1_1) = true := beq_iff_eq.mpr c5
            have c5b1 : (((rd_T26 l0 x5_1).f0) != x1_1) = false := bne_eq_false_iff_eq.mpr c5
            clear c5
            by_cases c6 : ((rd_T26 l0 x5_1).f1) = (wrap64 (x1_1 + 1))
            · rw [if_pos c6] at H
              have c6b0 : (((rd_T26 l0 x5_1).f1) == (wrap64 (x1_1 + 1))) = true := beq_iff_eq.mpr c6
              have c6b1 : (((rd_T26 l0 x5_1).f1) != (wrap64 (x1_1 + 1))) = false := bne_eq_false_iff_eq.mpr c6
              clear c6
              by_cases c7 : ((rd_T26 l0 x5_1).f2) = (wrap64 ((wrap64 (x1_1 + 1)) + 1))
              · rw [if_pos c7] at H
                have c7b0 : (((rd_T26 l0 x5_1).f2) == (wrap64 ((wrap64 (x1_1 + 1)) + 1))) = true := beq_iff_eq.mpr c7
                have c7b1 : (((rd_T26 l0 x5_1).f2) != (wrap64 ((wrap64 (x1_1 + 1)) + 1))) = false := bne_eq_false_iff_eq.mpr c7
                clear c7
                have H' := Aside0.mk H
                clear H
                have p332 : 0 ≤ (x5_1 : Int) := of_decide_eq_true (by first | (with_reducible assumption) | assumption)
                have q332 : x5_1 < (l0.length : Int) := of_decide_eq_true (by first | (with_reducible assumption) | assumption)
                obtain ⟨ad332, e332, hx332_0, hx332_1, hx332_2⟩ := at_T26 HR0.out x5_1 p332 q332
                cases e332
                replace p332 := eq_true p332
                replace q332 := eq_true q332
                have p333 : 0 ≤ (x5_1 : Int) := of_decide_eq_true (by first | (with_reducible assumption) | assumption)
                have q333 : x5_1 < (l0.length : Int) := of_decide_eq_true (by first | (with_reducible assumption) | assumption)
                obtain ⟨ad333, e333, hx333_0, hx333_1, hx333_2⟩ := at_T26 HR0.out x5_1 p333 q333
                obtain rfl : ad332 = ad333 := (by injection e333)
                replace p333 := eq_true p333
                replace q333 := eq_true q333
                have p334 : 0 ≤ (x5_1 : Int) := of_decide_eq_true (by first | (with_reducible assumption) | assumption)
                have q334 : x5_1 < (l0.length : Int) := of_decide_eq_true (by first | (with_reducible assumption) | assumption)
                obtain ⟨ad334, e334, hx334_0, hx334_1, hx334_2⟩ := at_T26 HR0.out x5_1 p334 q334
                obtain rfl : ad332 = ad334 := (by injection e334)
                replace p334 := eq_true p334
                replace q334 := eq_true q334
                go_wp2
                go_roundg k1
                case measure => have := HK1.out; omega
                case rel => exact ⟨(wrap64 ((wrap64 ((wrap64 (x1_1 + 1)) + 1)) + 1)), (wrap64 (x5_1 + 1)), (by first | rfl | (simp; done) | (simp [*]; done)), (by first | rfl | (simp; done) | (simp [*]; done)), H', ⟨by have := HK1.out; omega⟩, by repeat (first | exact Drawn0.refl _ | apply Drawn0.step)⟩
              · rw [if_neg c7] at H
                have c7b0 : (((rd_T26 l0 x5_1).f2) == (wrap64 ((wrap64 (x1_1 + 1)) + 1))) = false := beq_eq_false_iff_ne.mpr c7
                have c7b1 : (((rd_T26 l0 x5_1).f2) != (wrap64 ((wrap64 (x1_1 + 1)) + 1))) = true := bne_iff_ne.mpr c7
                obtain rfl := Option.some.inj H
                have p332 : 0 ≤ (x5_1 : Int) := of_decide_eq_true (by first | (with_reducible assumption) | assumption)
                have q332 : x5_1 < (l0.length : Int) := of_decide_eq_true (by first | (with_reducible assumption) | assumption)
                obtain ⟨ad332, e332, hx332_0, hx332_1, hx332_2⟩ := at_T26 HR0.out x5_1 p332 q332
                cases e332
                replace p332 := eq_true p332
                replace q332 := eq_true q332
                have p333 : 0 ≤ (x5_1 : Int) := of_decide_eq_true (by first | (with_reducible assumption) | assumption)
                have q333 : x5_1 < (l0.length : Int) := of_decide_eq_true (by first | (with_reducible assumption) | assumption)
                obtain ⟨ad333, e333, hx333_0, hx333_1, hx333_2⟩ := at_T26 HR0.out x5_1 p333 q333
                obtain rfl : ad332 = ad333 := (by injection e333)
                replace p333 := eq_true p333
                replace q333 := eq_true q333
                have p334 : 0 ≤ (x5_1 : Int) := of_decide_eq_true (by first | (with_reducible assumption) | assumption)
                have q334 : x5_1 < (l0.length : Int) := of_decide_eq_true (by first | (with_reducible assumption) | assumption)
                obtain ⟨ad334, e334, hx334_0, hx334_1, hx334_2⟩ := at_T26 HR0.out x5_1 p334 q334
                obtain rfl : ad332 = ad334 := (by injection e334)
                replace p334 := eq_true p334
                replace q334 := eq_true q334
                go_wp2
                go_ret
                exact ⟨by first | rfl | (simp; done) | (simp [*]; done), by repeat (first | exact Drawn0.refl _ | apply Drawn0.step)⟩
            · rw [if_neg c6] at H
              have c6b0 : (((rd_T26 l0 x5_1).f1) == (wrap64 (x1_1 + 1))) = false := beq_eq_false_iff_ne.mpr c6
              have c6b1 : (((rd_T26 l0 x5_1).f1) != (wrap64 (x1_1 + 1))) = true := bne_iff_ne.mpr c6
              obtain rfl := Option.some.inj H
              have p332 : 0 ≤ (x5_1 : Int) := of_decide_eq_true (by first | (with_reducible assumption) | assumption)
              have q332 : x5_1 < (l0.length : Int) := of_decide_eq_true (by first | (with_reducible assumption) | assumption)
              obtain ⟨ad332, e332, hx332_0, hx332_1, hx332_2⟩ := at_T26 HR0.out x5_1 p332 q332
              cases e332
              replace p332 := eq_true p332
              replace q332 := eq_true q332
              have p333 : 0 ≤ (x5_1 : Int) := of_decide_eq_true (by first | (with_reducible assumption) | assumption)
              have q333 : x5_1 < (l0.length : Int) := of_decide_eq_true (by first | (with_reducible assumption) | assumption)
              obtain ⟨ad333, e333, hx333_0, hx333_1, hx333_2⟩ := at_T26 HR0.out x5_1 p333 q333
              obtain rfl : ad332 = ad333 := (by injection e333)
              replace p333 := eq_true p333
              replace q333 := eq_true q333
              go_wp2
              go_ret
              exact ⟨by first | rfl | (simp; done) | (simp [*]; done), by repeat (first | exact Drawn0.refl _ | apply Drawn0.step)⟩
          · rw [if_neg c5] at H
            have c5b0 : (((rd_T26 l0 x5_1).f0) == x1_1) = false := beq_eq_false_iff_ne.mpr c5
            have c5b1 : (((rd_T26 l0 x5_1).f0) != x1_1) = true := bne_iff_ne.mpr c5
            obtain rfl := Option.some.inj H
            have p332 : 0 ≤ (x5_1 : Int) := of_decide_eq_true (by first | (with_reducible assumption) | assumption)
            have q332 : x5_1 < (l0.length : Int) := of_decide_eq_true (by first | (with_reducible assumption) | assumption)
            obtain ⟨ad332, e332, hx332_0, hx332_1, hx332_2⟩ := at_T26 HR0.out x5_1 p332 q332
            cases e332
            replace p332 := eq_true p332
            replace q332 := eq_true q332
            go_wp2
            go_ret
            exact ⟨by first | rfl | (simp; done) | (simp [*]; done), by repeat (first | exact Drawn0.refl _ | apply Drawn0.step)⟩
        · rw [if_neg c4] at H
          exact absurd H (by simp)
      · rw [if_neg c3] at H
        have c3b0 : decide (x5_1 < (l0.length : Int)) = false := decide_eq_false c3
        clear c3
        obtain rfl := Option.some.inj H
        go_wp2
        go_ret
        exact ⟨by first | rfl | (simp; done) | (simp [*]; done), by repeat (first | exact Drawn0.refl _ | apply Drawn0.step)⟩
end Go.Proofs.Ytljdenmmlkjapaa.P

namespace Go.Proofs.Ytljdenmmlkjapaa.P
open Go.RowKit Go.Proofs.YtljdenmmlkjapaaW.PrintWords Go.Proofs.YtljdenmmlkjapaaW.PrintLast Go.Proofs.YtljdenmmlkjapaaW.PrintMore
attribute [local go_sem] max2_int min2_int max_two min_two max_three min_three max_four min_four   -- for this text's walks alone
set_option linter.unusedVariables false
set_option linter.unusedSimpArgs false
mutual
def laws_FnExactGiveWay.j0 : Nat → List (S23) → List (S26) → Int → Bool → List (S26) → List (S26) → Int → Bool → Bool → Option (Bool)
  | 0, _, _, _, _, _, _, _, _, _ => none
  | k + 1, x0, x4, x5, x6, x7, x8, x9, x10, x50 => if x50 = true then (some false) else ((laws_toOwnerS.f k x0).bind fun t353 => ((laws_eqOwnerS.f k x7 t353).bind fun t356 => (if t356 = true then ((laws_markOwnerS.f k x7 1).bind fun bt357 => (if bt357.1 < 0 then (laws_FnExactGiveWay.j1 k x0 x4 x5 x6 x8 true) else ((laws_eqOwnerS.f k x8 x4).bind fun t359 => (if t359 = true then (if x9 = x5 then (laws_FnExactGiveWay.j1 k x0 x4 x5 x6 x8 (x10 != x6)) else (laws_FnExactGiveWay.j1 k x0 x4 x5 x6 x8 true)) else (laws_FnExactGiveWay.j1 k x0 x4 x5 x6 x8 true))))) else (some false))))
def laws_FnExactGiveWay.j1 : Nat → List (S23) → List (S26) → Int → Bool → List (S26) → Bool → Option (Bool)
  | 0, _, _, _, _, _, _ => none
  | k + 1, x0, x4, x5, x6, x8, x76 => if x76 = true then (some false) else ((laws_markOwnerS.f k x8 1).bind fun bt360 => ((laws_heldOwnerS.f k bt360.2 1).bind fun t362 => (if t362 < 0 then (some false) else (if t362 = bt360.1 then ((laws_toOwnerS.f k x0).bind fun t363 => ((impl_GiveWay.f k t363).bind fun bt366 => ((laws_eqOwnerS.f k bt366.1 x4).bind fun t371 => (if t371 = true then (if bt366.2.1 = x5 then (laws_FnExactGiveWay.j2 k bt360.2 bt360.1 (bt366.2.2 != x6)) else (laws_FnExactGiveWay.j2 k bt360.2 bt360.1 true)) else (laws_FnExactGiveWay.j2 k bt360.2 bt360.1 true))))) else (some false)))))
def laws_FnExactGiveWay.j2 : Nat → List (S26) → Int → Bool → Option (Bool)
  | 0, _, _, _ => none
  | k + 1, x8, x12, x108 => if x108 = true then (some false) else ((laws_heldOwnerS.f k x8 1).bind fun t372 => (if t372 < 0 then (some false) else (if t372 = x12 then (some true) else (some false))))
end
def laws_FnExactGiveWay.f (k : Nat) (l0 : List (S23)) : Option (Bool) := (laws_szOwnerS.f l0 1048576).bind fun t335 => (if t335 < 0 then (some true) else ((laws_toOwnerS.f k l0).bind fun t336 => ((spec_GiveWay.f k t336).bind fun bt339 => ((laws_toOwnerS.f k l0).bind fun t344 => ((impl_GiveWay.f k t344).bind fun bt347 => ((laws_eqOwnerS.f k bt347.1 bt339.1).bind fun t352 => (if t352 = true then (if bt347.2.1 = bt339.2.1 then (laws_FnExactGiveWay.j0 k l0 bt339.1 bt339.2.1 bt339.2.2 t344 bt347.1 bt347.2.1 bt347.2.2 (bt347.2.2 != bt339.2.2)) else (laws_FnExactGiveWay.j0 k l0 bt339.1 bt339.2.1 bt339.2.2 t344 bt347.1 bt347.2.1 bt347.2.2 true)) else (laws_FnExactGiveWay.j0 k l0 bt339.1 bt339.2.1 bt339.2.2 t344 bt347.1 bt347.2.1 bt347.2.2 true))))))))
set_option maxHeartbeats 8000000 in
set_option maxRecDepth 100000 in
theorem laws_FnExactGiveWay.calls (k : Nat) (A0 : Option Addr) (c0 : Nat) (l0 : List (S23)) (r : Bool) (w : World) (hr0 : Kd.C k23 w A0 l0.length l0) (hc0 : l0.length ≤ c0) (h : laws_FnExactGiveWay.f k l0 = some r) :
    Calls Try.prog 9 #[.slice A0 l0.length c0] w fun e w' => e = .returned (.bool r) ∧ Below w.heap.size w w' := by
  have HR0 := Aside0.mk hr0
  have HC0 := Aside0.mk hc0
  clear hr0 hc0
  have HB := Aside0.mk (Below.refl w.heap.size w)
  have H : ((laws_szOwnerS.f l0 1048576).bind fun t335 => (if t335 < 0 then (some true) else ((laws_toOwnerS.f k l0).bind fun t336 => ((spec_GiveWay.f k t336).bind fun bt339 => ((laws_toOwnerS.f k l0).bind fun t344 => ((impl_GiveWay.f k t344).bind fun bt347 => ((laws_eqOwnerS.f k bt347.1 bt339.1).bind fun t352 => (if t352 = true then (if bt347.2.1 = bt339.2.1 then (laws_FnExactGiveWay.j0 k l0 bt339.1 bt339.2.1 bt339.2.2 t344 bt347.1 bt347.2.1 bt347.2.2 (bt347.2.2 != bt339.2.2)) else (laws_FnExactGiveWay.j0 k l0 bt339.1 bt339.2.1 bt339.2.2 t344 bt347.1 bt347.2.1 bt347.2.2 true)) else (laws_FnExactGiveWay.j0 k l0 bt339.1 bt339.2.1 bt339.2.2 t344 bt347.1 bt347.2.1 bt347.2.2 true))))))))) = some r := h
  clear h
  replace H := Option.bind_eq_some_iff.mp H
  obtain ⟨t335, A20, H⟩ := H
  replace H : (if t335 < 0 then (some true) else ((laws_toOwnerS.f k l0).bind fun t336 => ((spec_GiveWay.f k t336).bind fun bt339 => ((laws_toOwnerS.f k l0).bind fun t344 => ((impl_GiveWay.f k t344).bind fun bt347 => ((laws_eqOwnerS.f k bt347.1 bt339.1).bind fun t352 => (if t352 = true then (if bt347.2.1 = bt339.2.1 then (laws_FnExactGiveWay.j0 k l0 bt339.1 bt339.2.1 bt339.2.2 t344 bt347.1 bt347.2.1 bt347.2.2 (bt347.2.2 != bt339.2.2)) else (laws_FnExactGiveWay.j0 k l0 bt339.1 bt339.2.1 bt339.2.2 t344 bt347.1 bt347.2.1 bt347.2.2 true)) else (laws_FnExactGiveWay.j0 k l0 bt339.1 bt339.2.1 bt339.2.2 t344 bt347.1 bt347.2.1 bt347.2.2 true)))))))) = some r := H
  have A2 := Aside0.mk A20
  clear A20
  by_cases c3 : t335 < 0
  · rw [if_pos c3] at H
    have c3b0 : decide (t335 < 0) = true := decide_eq_true c3
    clear c3
    obtain rfl := Option.some.inj H
    go_enter Try.func9, Try.ntmps9
    go_wp2_with (first | ((with_reducible refine gate_callee (f := 16) rfl ?_); refine goesL_ (some 19) rfl rfl Try.func16 (by kernel_rfl) rfl #[.slice A0 l0.length c0, .int .i64 1048576] rfl (by (try simp only [List.map_toArray, List.map_cons, List.map_nil]); first | done | rfl | (simp only [List.length_drop, List.length_take]; rfl)) ?_; (with_reducible refine (laws_szOwnerS.calls _ _ l0 1048576 t335 _ ?side1 ?side2 A2.out).mono ?_); (case side1 => repeat (first | exact HR0.out | (with_reducible refine Kd.C_alloc ?_ _) | (with_reducible refine Kd.C_drewN ?_ _) | (with_reducible refine Kd.C_drew ?_))); (case side2 => exact HC0.out); rintro e w' ⟨rfl, ⟨nd, rfl⟩⟩; refine ⟨_, rfl, ?_⟩))
    go_ret
    exact ⟨by first | rfl | (simp [errW_none, errW_some] <;> rfl) | (simp [*, errW_none, errW_some] <;> rfl), by repeat (first | (with_reducible first | exact HB.out | apply below_alloc | apply pw_below_drewN | apply below_drew1) | exact HB.out)⟩
  · rw [if_neg c3] at H
    have c3b0 : decide (t335 < 0) = false := decide_eq_false c3
    clear c3
    replace H := Option.bind_eq_some_iff.mp H
    obtain ⟨t336, A40, H⟩ := H
    replace H : ((spec_GiveWay.f k t336).bind fun bt339 => ((laws_toOwnerS.f k l0).bind fun t344 => ((impl_GiveWay.f k t344).bind fun bt347 => ((laws_eqOwnerS.f k bt347.1 bt339.1).bind fun t352 => (if t352 = true then (if bt347.2.1 = bt339.2.1 then (laws_FnExactGiveWay.j0 k l0 bt339.1 bt339.2.1 bt339.2.2 t344 bt347.1 bt347.2.1 bt347.2.2 (bt347.2.2 != bt339.2.2)) else (laws_FnExactGiveWay.j0 k l0 bt339.1 bt339.2.1 bt339.2.2 t344 bt347.1 bt347.2.1 bt347.2.2 true)) else (laws_FnExactGiveWay.j0 k l0 bt339.1 bt339.2.1 bt339.2.2 t344 bt347.1 bt347.2.1 bt347.2.2 true)))))) = some r := H
    have A4 := Aside0.mk A40
    clear A40
    replace H := Option.bind_eq_some_iff.mp H
    obtain ⟨⟨t339, t340, t341⟩, A50, H⟩ := H
    replace H : ((laws_toOwnerS.f k l0).bind fun t344 => ((impl_GiveWay.f k t344).bind fun bt347 => ((laws_eqOwnerS.f k bt347.1 t339).bind fun t352 => (if t352 = true then (if bt347.2.1 = t340 then (laws_FnExactGiveWay.j0 k l0 t339 t340 t341 t344 bt347.1 bt347.2.1 bt347.2.2 (bt347.2.2 != t341)) else (laws_FnExactGiveWay.j0 k l0 t339 t340 t341 t344 bt347.1 bt347.2.1 bt347.2.2 true)) else (laws_FnExactGiveWay.j0 k l0 t339 t340 t341 t344 bt347.1 bt347.2.1 bt347.2.2 true))))) = some r := H
    have A5 := Aside0.mk A50
    clear A50
    replace H := Option.bind_eq_some_iff.mp H
    obtain ⟨t344, A60, H⟩ := H
    replace H : ((impl_GiveWay.f k t344).bind fun bt347 => ((laws_eqOwnerS.f k bt347.1 t339).bind fun t352 => (if t352 = true then (if bt347.2.1 = t340 then (laws_FnExactGiveWay.j0 k l0 t339 t340 t341 t344 bt347.1 bt347.2.1 bt347.2.2 (bt347.2.2 != t341)) else (laws_FnExactGiveWay.j0 k l0 t339 t340 t341 t344 bt347.1 bt347.2.1 bt347.2.2 true)) else (laws_FnExactGiveWay.j0 k l0 t339 t340 t341 t344 bt347.1 bt347.2.1 bt347.2.2 true)))) = some r := H
    have A6 := Aside0.mk A60
    clear A60
    replace H := Option.bind_eq_some_iff.mp H
    obtain ⟨⟨t347, t348, t349⟩, A70, H⟩ := H
    replace H : ((laws_eqOwnerS.f k t347 t339).bind fun t352 => (if t352 = true then (if t348 = t340 then (laws_FnExactGiveWay.j0 k l0 t339 t340 t341 t344 t347 t348 t349 (t349 != t341)) else (laws_FnExactGiveWay.j0 k l0 t339 t340 t341 t344 t347 t348 t349 true)) else (laws_FnExactGiveWay.j0 k l0 t339 t340 t341 t344 t347 t348 t349 true))) = some r := H
    have A7 := Aside0.mk A70
    clear A70
    have HC8 := Aside0.mk H
    clear H
    go_enter Try.func9, Try.ntmps9
    go_upto_region 8 with (first | ((with_reducible refine gate_callee (f := 16) rfl ?_); refine goesL_ (some 19) rfl rfl Try.func16 (by kernel_rfl) rfl #[.slice A0 l0.length c0, .int .i64 1048576] rfl (by (try simp only [List.map_toArray, List.map_cons, List.map_nil]); first | done | rfl | (simp only [List.length_drop, List.length_take]; rfl)) ?_; (with_reducible refine (laws_szOwnerS.calls _ _ l0 1048576 t335 _ ?side1 ?side2 A2.out).mono ?_); (case side1 => repeat (first | exact HR0.out | (with_reducible refine Kd.C_alloc ?_ _) | (with_reducible refine Kd.C_drewN ?_ _) | (with_reducible refine Kd.C_drew ?_))); (case side2 => exact HC0.out); rintro e w' ⟨rfl, ⟨nd, rfl⟩⟩; refine ⟨_, rfl, ?_⟩) | ((with_reducible refine gate_callee (f := 18) rfl ?_); refine goesL_ (some 24) rfl rfl Try.func18 (by kernel_rfl) rfl #[.slice A0 l0.length c0] rfl (by (try simp only [List.map_toArray, List.map_cons, List.map_nil]); first | done | rfl | (simp only [List.length_drop, List.length_take]; rfl)) ?_; (with_reducible refine (laws_toOwnerS.calls k _ _ l0 t336 _ ?side1 ?side2 A4.out).mono ?_); (case side1 => repeat (first | exact HR0.out | (with_reducible refine Kd.C_alloc ?_ _) | (with_reducible refine Kd.C_drewN ?_ _) | (with_reducible refine Kd.C_drew ?_))); (case side2 => exact HC0.out); rintro e w9 ⟨v337, rfl, ho0, hb⟩; refine ⟨_, rfl, ?_⟩; have n0_ := Aside0.mk (Kd.R_lower ho0 (below_size (by repeat (first | (with_reducible first | exact HB.out | apply below_alloc | apply pw_below_drewN | apply below_drew1) | exact HB.out)))); have n1_ := Aside0.mk (below_step (by repeat (first | (with_reducible first | exact HB.out | apply below_alloc | apply pw_below_drewN | apply below_drew1) | exact HB.out)) hb); clear HB; have HO338 := n0_; have HB := n1_; clear n0_ n1_; (try clear hb); (try clear hb2); (try clear hk); (try clear hi); (try clear ho0); obtain ⟨Ao10, co10, eo10⟩ := Kd.R_slice HO338.out; subst eo10) | ((with_reducible refine gate_callee (f := 29) rfl ?_); refine goesL_ (some 25) rfl rfl Try.func29 (by kernel_rfl) rfl #[.slice Ao10 t336.length co10] rfl (by (try simp only [List.map_toArray, List.map_cons, List.map_nil]); first | done | rfl | (simp only [List.length_drop, List.length_take]; rfl)) ?_; (with_reducible refine (spec_GiveWay.calls k _ _ t336 t339 t340 t341 _ ?side1 ?side2 A5.out).mono ?_); (case side1 => repeat (first | exact (Kd.R_reads' HO338.out).2.2 | (with_reducible refine Kd.C_alloc ?_ _) | (with_reducible refine Kd.C_drewN ?_ _) | (with_reducible refine Kd.C_drew ?_))); (case side2 => exact (Kd.R_reads' HO338.out).2.1); rintro e w11 ⟨v342, rfl, ho0, hb⟩; refine ⟨_, rfl, ?_⟩; have n0_ := Aside0.mk (Kd.R_elder' (by (with_reducible repeat (first | apply Kd.R_alloc | apply Kd.R_drewN | apply Kd.R_drew)); exact HO338.out) (Kd.R_base ho0) hb); have n1_ := Aside0.mk (Kd.R_lower (Kd.R_new' ho0 (Kd.R_lt (by (with_reducible repeat (first | apply Kd.R_alloc | apply Kd.R_drewN | apply Kd.R_drew)); exact HO338.out))) (below_size (by repeat (first | (with_reducible first | exact HB.out | apply below_alloc | apply pw_below_drewN | apply below_drew1) | exact HB.out)))); have n2_ := Aside0.mk (below_step (by repeat (first | (with_reducible first | exact HB.out | apply below_alloc | apply pw_below_drewN | apply below_drew1) | exact HB.out)) hb); clear HO338; clear HB; have HO338 := n0_; have HO343 := n1_; have HB := n2_; clear n0_ n1_ n2_; (try clear hb); (try clear hb2); (try clear hk); (try clear hi); (try clear ho0)) | ((with_reducible refine gate_callee (f := 18) rfl ?_); refine goesL_ (some 30) rfl rfl Try.func18 (by kernel_rfl) rfl #[.slice A0 l0.length c0] rfl (by (try simp only [List.map_toArray, List.map_cons, List.map_nil]); first | done | rfl | (simp only [List.length_drop, List.length_take]; rfl)) ?_; (with_reducible refine (laws_toOwnerS.calls k _ _ l0 t344 _ ?side1 ?side2 A6.out).mono ?_); (case side1 => repeat (first | exact (Kd.C_below HR0.out HB.out) | (with_reducible refine Kd.C_alloc ?_ _) | (with_reducible refine Kd.C_drewN ?_ _) | (with_reducible refine Kd.C_drew ?_))); (case side2 => exact HC0.out); rintro e w12 ⟨v345, rfl, ho0, hb⟩; refine ⟨_, rfl, ?_⟩; have n0_ := Aside0.mk (Kd.R_elder' (by (with_reducible repeat (first | apply Kd.R_alloc | apply Kd.R_drewN | apply Kd.R_drew)); exact HO338.out) (Kd.R_base ho0) hb); have n1_ := Aside0.mk (Kd.R_elder' (by (with_reducible repeat (first | apply Kd.R_alloc | apply Kd.R_drewN | apply Kd.R_drew)); exact HO343.out) (Kd.R_base ho0) hb); have n2_ := Aside0.mk (Kd.R_lower (Kd.R_new' (Kd.R_new' ho0 (Kd.R_lt (by (with_reducible repeat (first | apply Kd.R_alloc | apply Kd.R_drewN | apply Kd.R_drew)); exact HO338.out))) (Kd.R_lt (by (with_reducible repeat (first | apply Kd.R_alloc | apply Kd.R_drewN | apply Kd.R_drew)); exact HO343.out))) (below_size (by repeat (first | (with_reducible first | exact HB.out | apply below_alloc | apply pw_below_drewN | apply below_drew1) | exact HB.out)))); have n3_ := Aside0.mk (below_step (by repeat (first | (with_reducible first | exact HB.out | apply below_alloc | apply pw_below_drewN | apply below_drew1) | exact HB.out)) hb); clear HO338; clear HO343; clear HB; have HO338 := n0_; have HO343 := n1_; have HO346 := n2_; have HB := n3_; clear n0_ n1_ n2_ n3_; (try clear hb); (try clear hb2); (try clear hk); (try clear hi); (try clear ho0); obtain ⟨Ao13, co13, eo13⟩ := Kd.R_slice HO346.out; subst eo13) | ((with_reducible refine gate_callee (f := 30) rfl ?_); refine goesL_ (some 33) rfl rfl Try.func30 (by kernel_rfl) rfl #[.slice Ao13 t344.length co13] rfl (by (try simp only [List.map_toArray, List.map_cons, List.map_nil]); first | done | rfl | (simp only [List.length_drop, List.length_take]; rfl)) ?_; (with_reducible refine (impl_GiveWay.calls k _ _ t344 t347 t348 t349 _ ?side1 ?side2 A7.out).mono ?_); (case side1 => repeat (first | exact (Kd.R_reads' HO346.out).2.2 | (with_reducible refine Kd.C_alloc ?_ _) | (with_reducible refine Kd.C_drewN ?_ _) | (with_reducible refine Kd.C_drew ?_))); (case side2 => exact (Kd.R_reads' HO346.out).2.1); rintro e w14 ⟨v350, rfl, ho0, hb⟩; refine ⟨_, rfl, ?_⟩; have n0_ := Aside0.mk (Kd.R_elder' (by (with_reducible repeat (first | apply Kd.R_alloc | apply Kd.R_drewN | apply Kd.R_drew)); exact HO338.out) (Kd.R_base ho0) hb); have n1_ := Aside0.mk (Kd.R_elder' (by (with_reducible repeat (first | apply Kd.R_alloc | apply Kd.R_drewN | apply Kd.R_drew)); exact HO343.out) (Kd.R_base ho0) hb); have n2_ := Aside0.mk (Kd.R_elder' (by (with_reducible repeat (first | apply Kd.R_alloc | apply Kd.R_drewN | apply Kd.R_drew)); exact HO346.out) (Kd.R_base ho0) hb); have n3_ := Aside0.mk (Kd.R_lower (Kd.R_new' (Kd.R_new' (Kd.R_new' ho0 (Kd.R_lt (by (with_reducible repeat (first | apply Kd.R_alloc | apply Kd.R_drewN | apply Kd.R_drew)); exact HO338.out))) (Kd.R_lt (by (with_reducible repeat (first | apply Kd.R_alloc | apply Kd.R_drewN | apply Kd.R_drew)); exact HO343.out))) (Kd.R_lt (by (with_reducible repeat (first | apply Kd.R_alloc | apply Kd.R_drewN | apply Kd.R_drew)); exact HO346.out))) (below_size (by repeat (first | (with_reducible first | exact HB.out | apply below_alloc | apply pw_below_drewN | apply below_drew1) | exact HB.out)))); have n4_ := Aside0.mk (below_step (by repeat (first | (with_reducible first | exact HB.out | apply below_alloc | apply pw_below_drewN | apply below_drew1) | exact HB.out)) hb); clear HO338; clear HO343; clear HO346; clear HB; have HO338 := n0_; have HO343 := n1_; have HO346 := n2_; have HO351 := n3_; have HB := n4_; clear n0_ n1_ n2_ n3_ n4_; (try clear hb); (try clear hb2); (try clear hk); (try clear hi); (try clear ho0)))
    (try simp only [Act.put, List.setIfInBounds_toArray, List.set_cons_zero, List.set_cons_succ])
    go_cut [50] (fun v50 wc => ∃ (kq : Nat) (x50_7 : Bool), v50 = .bool x50_7 ∧ Aside0 (laws_FnExactGiveWay.j0 kq l0 t339 t340 t341 t344 t347 t348 t349 x50_7 = some r) ∧ Aside0 (kq ≤ k) ∧ Aside0 (Kd.R k26 26 wc w.heap.size (fun k_ => some k_ ≠ ((.slice Ao13 t344.length co13) : Value).ownBlock ∧ some k_ ≠ (v350 : Value).ownBlock) v342 t339) ∧ Aside0 (Kd.R k26 26 wc w.heap.size (fun k_ => some k_ ≠ (v342 : Value).ownBlock ∧ some k_ ≠ (v350 : Value).ownBlock) (.slice Ao13 t344.length co13) t344) ∧ Aside0 (Kd.R k26 26 wc w.heap.size (fun k_ => some k_ ≠ (v342 : Value).ownBlock ∧ some k_ ≠ ((.slice Ao13 t344.length co13) : Value).ownBlock) v350 t347) ∧ Aside0 (Below w.heap.size w wc))
    case first =>
      have H := HC8.out
      clear HC8
      replace H := Option.bind_eq_some_iff.mp H
      obtain ⟨t352, A150, H⟩ := H
      replace H : (if t352 = true then (if t348 = t340 then (laws_FnExactGiveWay.j0 k l0 t339 t340 t341 t344 t347 t348 t349 (t349 != t341)) else (laws_FnExactGiveWay.j0 k l0 t339 t340 t341 t344 t347 t348 t349 true)) else (laws_FnExactGiveWay.j0 k l0 t339 t340 t341 t344 t347 t348 t349 true)) = some r := H
      have A15 := Aside0.mk A150
      clear A150
      by_cases c16 : t352 = true
      · subst c16
        have H1 : (if t348 = t340 then (laws_FnExactGiveWay.j0 k l0 t339 t340 t341 t344 t347 t348 t349 (t349 != t341)) else (laws_FnExactGiveWay.j0 k l0 t339 t340 t341 t344 t347 t348 t349 true)) = some r := by rw [if_pos rfl] at H; exact H
        clear H
        have H := H1
        clear H1
        by_cases c17 : t348 = t340
        · rw [if_pos c17] at H
          have c17b0 : (t348 == t340) = true := beq_iff_eq.mpr c17
          have c17b1 : (t348 != t340) = false := bne_eq_false_iff_eq.mpr c17
          clear c17
          (first | rw [c17b0] | (simp only [i64_w, i32_w]; rw [c17b0]) | skip)
          have H' := Aside0.mk H
          clear H
          obtain ⟨Ao18, co18, eo18⟩ := Kd.R_slice HO351.out
          subst eo18
          obtain ⟨Ao19, co19, eo19⟩ := Kd.R_slice HO343.out
          subst eo19
          go_wp2_with (first | ((with_reducible refine gate_callee (f := 20) rfl ?_); refine goesL_ (some 39) rfl rfl Try.func20 (by kernel_rfl) rfl #[.slice Ao18 t347.length co18, .slice Ao19 t339.length co19] rfl (by (try simp only [List.map_toArray, List.map_cons, List.map_nil]); first | done | rfl | (simp only [List.length_drop, List.length_take]; rfl)) ?_; (with_reducible refine (laws_eqOwnerS.calls k _ _ t347 _ _ t339 true _ ?side1 ?side2 ?side3 ?side4 A15.out).mono ?_); (case side1 => repeat (first | exact (Kd.R_reads' HO351.out).2.2 | (with_reducible refine Kd.C_alloc ?_ _) | (with_reducible refine Kd.C_drewN ?_ _) | (with_reducible refine Kd.C_drew ?_))); (case side2 => exact (Kd.R_reads' HO351.out).2.1); (case side3 => repeat (first | exact (Kd.R_reads' HO343.out).2.2 | (with_reducible refine Kd.C_alloc ?_ _) | (with_reducible refine Kd.C_drewN ?_ _) | (with_reducible refine Kd.C_drew ?_))); (case side4 => exact (Kd.R_reads' HO343.out).2.1); rintro e w20 ⟨rfl, hb⟩; refine ⟨_, rfl, ?_⟩; have n0_ := Aside0.mk (Kd.R_below (by (with_reducible repeat (first | apply Kd.R_alloc | apply Kd.R_drewN | apply Kd.R_drew)); exact HO338.out) hb); have n1_ := Aside0.mk (Kd.R_below (by (with_reducible repeat (first | apply Kd.R_alloc | apply Kd.R_drewN | apply Kd.R_drew)); exact HO343.out) hb); have n2_ := Aside0.mk (Kd.R_below (by (with_reducible repeat (first | apply Kd.R_alloc | apply Kd.R_drewN | apply Kd.R_drew)); exact HO346.out) hb); have n3_ := Aside0.mk (Kd.R_below (by (with_reducible repeat (first | apply Kd.R_alloc | apply Kd.R_drewN | apply Kd.R_drew)); exact HO351.out) hb); have n4_ := Aside0.mk (below_step (by repeat (first | (with_reducible first | exact HB.out | apply below_alloc | apply pw_below_drewN | apply below_drew1) | exact HB.out)) hb); clear HO338; clear HO343; clear HO346; clear HO351; clear HB; have HO338 := n0_; have HO343 := n1_; have HO346 := n2_; have HO351 := n3_; have HB := n4_; clear n0_ n1_ n2_ n3_ n4_; (try clear hb); (try clear hb2); (try clear hk); (try clear hi)))
          go_meet
          case rel => exact ⟨_, ((t349 != t341)), (by first | rfl | (simp; done) | (simp [*]; done)), H', ⟨by first | omega | exact Nat.le_refl _⟩, ⟨by (with_reducible repeat (first | apply Kd.R_alloc | apply Kd.R_drewN | apply Kd.R_drew)); exact Kd.R_mono HO343.out (fun _ hk => ⟨hk.1.2, hk.2⟩)⟩, ⟨by (with_reducible repeat (first | apply Kd.R_alloc | apply Kd.R_drewN | apply Kd.R_drew)); exact Kd.R_mono HO346.out (fun _ hk => ⟨hk.1.2, hk.2⟩)⟩, ⟨by (with_reducible repeat (first | apply Kd.R_alloc | apply Kd.R_drewN | apply Kd.R_drew)); exact Kd.R_mono HO351.out (fun _ hk => ⟨hk.1.2, hk.2⟩)⟩, ⟨by repeat (first | (with_reducible first | exact HB.out | apply below_alloc | apply pw_below_drewN | apply below_drew1) | exact HB.out)⟩⟩
        · rw [if_neg c17] at H
          have c17b0 : (t348 == t340) = false := beq_eq_false_iff_ne.mpr c17
          have c17b1 : (t348 != t340) = true := bne_iff_ne.mpr c17
          (first | rw [c17b0] | (simp only [i64_w, i32_w]; rw [c17b0]) | skip)
          have H' := Aside0.mk H
          clear H
          obtain ⟨Ao21, co21, eo21⟩ := Kd.R_slice HO351.out
          subst eo21
          obtain ⟨Ao22, co22, eo22⟩ := Kd.R_slice HO343.out
          subst eo22
          go_wp2_with (first | ((with_reducible refine gate_callee (f := 20) rfl ?_); refine goesL_ (some 39) rfl rfl Try.func20 (by kernel_rfl) rfl #[.slice Ao21 t347.length co21, .slice Ao22 t339.length co22] rfl (by (try simp only [List.map_toArray, List.map_cons, List.map_nil]); first | done | rfl | (simp only [List.length_drop, List.length_take]; rfl)) ?_; (with_reducible refine (laws_eqOwnerS.calls k _ _ t347 _ _ t339 true _ ?side1 ?side2 ?side3 ?side4 A15.out).mono ?_); (case side1 => repeat (first | exact (Kd.R_reads' HO351.out).2.2 | (with_reducible refine Kd.C_alloc ?_ _) | (with_reducible refine Kd.C_drewN ?_ _) | (with_reducible refine Kd.C_drew ?_))); (case side2 => exact (Kd.R_reads' HO351.out).2.1); (case side3 => repeat (first | exact (Kd.R_reads' HO343.out).2.2 | (with_reducible refine Kd.C_alloc ?_ _) | (with_reducible refine Kd.C_drewN ?_ _) | (with_reducible refine Kd.C_drew ?_))); (case side4 => exact (Kd.R_reads' HO343.out).2.1); rintro e w23 ⟨rfl, hb⟩; refine ⟨_, rfl, ?_⟩; have n0_ := Aside0.mk (Kd.R_below (by (with_reducible repeat (first | apply Kd.R_alloc | apply Kd.R_drewN | apply Kd.R_drew)); exact HO338.out) hb); have n1_ := Aside0.mk (Kd.R_below (by (with_reducible repeat (first | apply Kd.R_alloc | apply Kd.R_drewN | apply Kd.R_drew)); exact HO343.out) hb); have n2_ := Aside0.mk (Kd.R_below (by (with_reducible repeat (first | apply Kd.R_alloc | apply Kd.R_drewN | apply Kd.R_drew)); exact HO346.out) hb); have n3_ := Aside0.mk (Kd.R_below (by (with_reducible repeat (first | apply Kd.R_alloc | apply Kd.R_drewN | apply Kd.R_drew)); exact HO351.out) hb); have n4_ := Aside0.mk (below_step (by repeat (first | (with_reducible first | exact HB.out | apply below_alloc | apply pw_below_drewN | apply below_drew1) | exact HB.out)) hb); clear HO338; clear HO343; clear HO346; clear HO351; clear HB; have HO338 := n0_; have HO343 := n1_; have HO346 := n2_; have HO351 := n3_; have HB := n4_; clear n0_ n1_ n2_ n3_ n4_; (try clear hb); (try clear hb2); (try clear hk); (try clear hi)))
          go_meet
          case rel => exact ⟨_, (true), (by first | rfl | (simp; done) | (simp [*]; done)), H', ⟨by first | omega | exact Nat.le_refl _⟩, ⟨by (with_reducible repeat (first | apply Kd.R_alloc | apply Kd.R_drewN | apply Kd.R_drew)); exact Kd.R_mono HO343.out (fun _ hk => ⟨hk.1.2, hk.2⟩)⟩, ⟨by (with_reducible repeat (first | apply Kd.R_alloc | apply Kd.R_drewN | apply Kd.R_drew)); exact Kd.R_mono HO346.out (fun _ hk => ⟨hk.1.2, hk.2⟩)⟩, ⟨by (with_reducible repeat (first | apply Kd.R_alloc | apply Kd.R_drewN | apply Kd.R_drew)); exact Kd.R_mono HO351.out (fun _ hk => ⟨hk.1.2, hk.2⟩)⟩, ⟨by repeat (first | (with_reducible first | exact HB.out | apply below_alloc | apply pw_below_drewN | apply below_drew1) | exact HB.out)⟩⟩
      · replace c16 := Bool.eq_false_iff.mpr c16
        subst c16
        have H1 : (laws_FnExactGiveWay.j0 k l0 t339 t340 t341 t344 t347 t348 t349 true) = some r := by rw [if_neg (show ¬ (false = true) by decide)] at H; exact H
        clear H
        have H := H1
        clear H1
        have H' := Aside0.mk H
        clear H
        obtain ⟨Ao24, co24, eo24⟩ := Kd.R_slice HO351.out
        subst eo24
        obtain ⟨Ao25, co25, eo25⟩ := Kd.R_slice HO343.out
        subst eo25
        go_wp2_with (first | ((with_reducible refine gate_callee (f := 20) rfl ?_); refine goesL_ (some 39) rfl rfl Try.func20 (by kernel_rfl) rfl #[.slice Ao24 t347.length co24, .slice Ao25 t339.length co25] rfl (by (try simp only [List.map_toArray, List.map_cons, List.map_nil]); first | done | rfl | (simp only [List.length_drop, List.length_take]; rfl)) ?_; (with_reducible refine (laws_eqOwnerS.calls k _ _ t347 _ _ t339 false _ ?side1 ?side2 ?side3 ?side4 A15.out).mono ?_); (case side1 => repeat (first | exact (Kd.R_reads' HO351.out).2.2 | (with_reducible refine Kd.C_alloc ?_ _) | (with_reducible refine Kd.C_drewN ?_ _) | (with_reducible refine Kd.C_drew ?_))); (case side2 => exact (Kd.R_reads' HO351.out).2.1); (case side3 => repeat (first | exact (Kd.R_reads' HO343.out).2.2 | (with_reducible refine Kd.C_alloc ?_ _) | (with_reducible refine Kd.C_drewN ?_ _) | (with_reducible refine Kd.C_drew ?_))); (case side4 => exact (Kd.R_reads' HO343.out).2.1); rintro e w26 ⟨rfl, hb⟩; refine ⟨_, rfl, ?_⟩; have n0_ := Aside0.mk (Kd.R_below (by (with_reducible repeat (first | apply Kd.R_alloc | apply Kd.R_drewN | apply Kd.R_drew)); exact HO338.out) hb); have n1_ := Aside0.mk (Kd.R_below (by (with_reducible repeat (first | apply Kd.R_alloc | apply Kd.R_drewN | apply Kd.R_drew)); exact HO343.out) hb); have n2_ := Aside0.mk (Kd.R_below (by (with_reducible repeat (first | apply Kd.R_alloc | apply Kd.R_drewN | apply Kd.R_drew)); exact HO346.out) hb); have n3_ := Aside0.mk (Kd.R_below (by (with_reducible repeat (first | apply Kd.R_alloc | apply Kd.R_drewN | apply Kd.R_drew)); exact HO351.out) hb); have n4_ := Aside0.mk (below_step (by repeat (first | (with_reducible first | exact HB.out | apply below_alloc | apply pw_below_drewN | apply below_drew1) | exact HB.out)) hb); clear HO338; clear HO343; clear HO346; clear HO351; clear HB; have HO338 := n0_; have HO343 := n1_; have HO346 := n2_; have HO351 := n3_; have HB := n4_; clear n0_ n1_ n2_ n3_ n4_; (try clear hb); (try clear hb2); (try clear hk); (try clear hi)))
        go_meet
        case rel => exact ⟨_, (true), (by first | rfl | (simp; done) | (simp [*]; done)), H', ⟨by first | omega | exact Nat.le_refl _⟩, ⟨by (with_reducible repeat (first | apply Kd.R_alloc | apply Kd.R_drewN | apply Kd.R_drew)); exact Kd.R_mono HO343.out (fun _ hk => ⟨hk.1.2, hk.2⟩)⟩, ⟨by (with_reducible repeat (first | apply Kd.R_alloc | apply Kd.R_drewN | apply Kd.R_drew)); exact Kd.R_mono HO346.out (fun _ hk => ⟨hk.1.2, hk.2⟩)⟩, ⟨by (with_reducible repeat (first | apply Kd.R_alloc | apply Kd.R_drewN | apply Kd.R_drew)); exact Kd.R_mono HO351.out (fun _ hk => ⟨hk.1.2, hk.2⟩)⟩, ⟨by repeat (first | (with_reducible first | exact HB.out | apply below_alloc | apply pw_below_drewN | apply below_drew1) | exact HB.out)⟩⟩
    case rest =>
      clear HC8
      try clear c1
      try clear c2
      try clear p2
      try clear c3
      try clear c3b0
      try clear c9
      try clear c16
      try clear c17
      try clear c17b0
      try clear c17b1
      try clear c18
      try clear c20
      obtain ⟨kq, x50_7, rfl, HA, HJ7, HO_4, HO_7, HO_8, HB⟩ := hcut
      cases kq with
      | zero => exact absurd HA.out (by simp [laws_FnExactGiveWay.j0])
      | succ kj7 =>
        have H := HA.out
        clear HA
        simp only [laws_FnExactGiveWay.j0] at H
        by_cases c27 : x50_7 = true
        · subst c27
          have H1 : (some false) = some r := by rw [if_pos rfl] at H; exact H
          clear H
          have H := H1
          clear H1
          obtain rfl := Option.some.inj H
          go_wp2
          go_ret
          exact ⟨by first | rfl | (simp [errW_none, errW_some] <;> rfl) | (simp [*, errW_none, errW_some] <;> rfl), by repeat (first | (with_reducible first | exact HB.out | apply below_alloc | apply pw_below_drewN | apply below_drew1) | exact HB.out)⟩
        · replace c27 := Bool.eq_false_iff.mpr c27
          subst c27
          have H1 : ((laws_toOwnerS.f kj7 l0).bind fun t353 => ((laws_eqOwnerS.f kj7 t344 t353).bind fun t356 => (if t356 = true then ((laws_markOwnerS.f kj7 t344 1).bind fun bt357 => (if bt357.1 < 0 then (laws_FnExactGiveWay.j1 kj7 l0 t339 t340 t341 t347 true) else ((laws_eqOwnerS.f kj7 t347 t339).bind fun t359 => (if t359 = true then (if t348 = t340 then (laws_FnExactGiveWay.j1 kj7 l0 t339 t340 t341 t347 (t349 != t341)) else (laws_FnExactGiveWay.j1 kj7 l0 t339 t340 t341 t347 true)) else (laws_FnExactGiveWay.j1 kj7 l0 t339 t340 t341 t347 true))))) else (some false)))) = some r := by rw [if_neg (show ¬ (false = true) by decide)] at H; exact H
          clear H
          have H := H1
          clear H1
          replace H := Option.bind_eq_some_iff.mp H
          obtain ⟨t353, A280, H⟩ := H
          replace H : ((laws_eqOwnerS.f kj7 t344 t353).bind fun t356 => (if t356 = true then ((laws_markOwnerS.f kj7 t344 1).bind fun bt357 => (if bt357.1 < 0 then (laws_FnExactGiveWay.j1 kj7 l0 t339 t340 t341 t347 true) else ((laws_eqOwnerS.f kj7 t347 t339).bind fun t359 => (if t359 = true then (if t348 = t340 then (laws_FnExactGiveWay.j1 kj7 l0 t339 t340 t341 t347 (t349 != t341)) else (laws_FnExactGiveWay.j1 kj7 l0 t339 t340 t341 t347 true)) else (laws_FnExactGiveWay.j1 kj7 l0 t339 t340 t341 t347 true))))) else (some false))) = some r := H
          have A28 := Aside0.mk A280
          clear A280
          replace H := Option.bind_eq_some_iff.mp H
          obtain ⟨t356, A290, H⟩ := H
          replace H : (if t356 = true then ((laws_markOwnerS.f kj7 t344 1).bind fun bt357 => (if bt357.1 < 0 then (laws_FnExactGiveWay.j1 kj7 l0 t339 t340 t341 t347 true) else ((laws_eqOwnerS.f kj7 t347 t339).bind fun t359 => (if t359 = true then (if t348 = t340 then (laws_FnExactGiveWay.j1 kj7 l0 t339 t340 t341 t347 (t349 != t341)) else (laws_FnExactGiveWay.j1 kj7 l0 t339 t340 t341 t347 true)) else (laws_FnExactGiveWay.j1 kj7 l0 t339 t340 t341 t347 true))))) else (some false)) = some r := H
          have A29 := Aside0.mk A290
          clear A290
          by_cases c30 : t356 = true
          · subst c30
            have H1 : ((laws_markOwnerS.f kj7 t344 1).bind fun bt357 => (if bt357.1 < 0 then (laws_FnExactGiveWay.j1 kj7 l0 t339 t340 t341 t347 true) else ((laws_eqOwnerS.f kj7 t347 t339).bind fun t359 => (if t359 = true then (if t348 = t340 then (laws_FnExactGiveWay.j1 kj7 l0 t339 t340 t341 t347 (t349 != t341)) else (laws_FnExactGiveWay.j1 kj7 l0 t339 t340 t341 t347 true)) else (laws_FnExactGiveWay.j1 kj7 l0 t339 t340 t341 t347 true))))) = some r := by rw [if_pos rfl] at H; exact H
            clear H
            have H := H1
            clear H1
            replace H := Option.bind_eq_some_iff.mp H
            obtain ⟨⟨t357, t358⟩, A310, H⟩ := H
            replace H : (if t357 < 0 then (laws_FnExactGiveWay.j1 kj7 l0 t339 t340 t341 t347 true) else ((laws_eqOwnerS.f kj7 t347 t339).bind fun t359 => (if t359 = true then (if t348 = t340 then (laws_FnExactGiveWay.j1 kj7 l0 t339 t340 t341 t347 (t349 != t341)) else (laws_FnExactGiveWay.j1 kj7 l0 t339 t340 t341 t347 true)) else (laws_FnExactGiveWay.j1 kj7 l0 t339 t340 t341 t347 true)))) = some r := H
            have A31 := Aside0.mk A310
            clear A310
            have HC32 := Aside0.mk H
            clear H
            go_upto_region 14 with (first | ((with_reducible refine gate_callee (f := 18) rfl ?_); refine goesL_ (some 53) rfl rfl Try.func18 (by kernel_rfl) rfl #[.slice A0 l0.length c0] rfl (by (try simp only [List.map_toArray, List.map_cons, List.map_nil]); first | done | rfl | (simp only [List.length_drop, List.length_take]; rfl)) ?_; (with_reducible refine (laws_toOwnerS.calls kj7 _ _ l0 t353 _ ?side1 ?side2 A28.out).mono ?_); (case side1 => repeat (first | exact (Kd.C_below HR0.out HB.out) | (with_reducible refine Kd.C_alloc ?_ _) | (with_reducible refine Kd.C_drewN ?_ _) | (with_reducible refine Kd.C_drew ?_))); (case side2 => exact HC0.out); rintro e w33 ⟨v354, rfl, ho0, hb⟩; refine ⟨_, rfl, ?_⟩; have n0_ := Aside0.mk (Kd.R_elder' (by (with_reducible repeat (first | apply Kd.R_alloc | apply Kd.R_drewN | apply Kd.R_drew)); exact HO_4.out) (Kd.R_base ho0) hb); have n1_ := Aside0.mk (Kd.R_elder' (by (with_reducible repeat (first | apply Kd.R_alloc | apply Kd.R_drewN | apply Kd.R_drew)); exact HO_7.out) (Kd.R_base ho0) hb); have n2_ := Aside0.mk (Kd.R_elder' (by (with_reducible repeat (first | apply Kd.R_alloc | apply Kd.R_drewN | apply Kd.R_drew)); exact HO_8.out) (Kd.R_base ho0) hb); have n3_ := Aside0.mk (Kd.R_lower (Kd.R_new' (Kd.R_new' (Kd.R_new' ho0 (Kd.R_lt (by (with_reducible repeat (first | apply Kd.R_alloc | apply Kd.R_drewN | apply Kd.R_drew)); exact HO_4.out))) (Kd.R_lt (by (with_reducible repeat (first | apply Kd.R_alloc | apply Kd.R_drewN | apply Kd.R_drew)); exact HO_7.out))) (Kd.R_lt (by (with_reducible repeat (first | apply Kd.R_alloc | apply Kd.R_drewN | apply Kd.R_drew)); exact HO_8.out))) (below_size (by repeat (first | (with_reducible first | exact HB.out | apply below_alloc | apply pw_below_drewN | apply below_drew1) | exact HB.out)))); have n4_ := Aside0.mk (below_step (by repeat (first | (with_reducible first | exact HB.out | apply below_alloc | apply pw_below_drewN | apply below_drew1) | exact HB.out)) hb); clear HO_4; clear HO_7; clear HO_8; clear HB; have HO_4 := n0_; have HO_7 := n1_; have HO_8 := n2_; have HO355 := n3_; have HB := n4_; clear n0_ n1_ n2_ n3_ n4_; (try clear hb); (try clear hb2); (try clear hk); (try clear hi); (try clear ho0); obtain ⟨Ao34, co34, eo34⟩ := Kd.R_slice HO355.out; subst eo34) | ((with_reducible refine gate_callee (f := 20) rfl ?_); refine goesL_ (some 54) rfl rfl Try.func20 (by kernel_rfl) rfl #[.slice Ao13 t344.length co13, .slice Ao34 t353.length co34] rfl (by (try simp only [List.map_toArray, List.map_cons, List.map_nil]); first | done | rfl | (simp only [List.length_drop, List.length_take]; rfl)) ?_; (with_reducible refine (laws_eqOwnerS.calls kj7 _ _ t344 _ _ t353 true _ ?side1 ?side2 ?side3 ?side4 A29.out).mono ?_); (case side1 => repeat (first | exact (Kd.R_reads' HO_7.out).2.2 | (with_reducible refine Kd.C_alloc ?_ _) | (with_reducible refine Kd.C_drewN ?_ _) | (with_reducible refine Kd.C_drew ?_))); (case side2 => exact (Kd.R_reads' HO_7.out).2.1); (case side3 => repeat (first | exact (Kd.R_reads' HO355.out).2.2 | (with_reducible refine Kd.C_alloc ?_ _) | (with_reducible refine Kd.C_drewN ?_ _) | (with_reducible refine Kd.C_drew ?_))); (case side4 => exact (Kd.R_reads' HO355.out).2.1); rintro e w35 ⟨rfl, hb⟩; refine ⟨_, rfl, ?_⟩; have n0_ := Aside0.mk (Kd.R_below (by (with_reducible repeat (first | apply Kd.R_alloc | apply Kd.R_drewN | apply Kd.R_drew)); exact HO_4.out) hb); have n1_ := Aside0.mk (Kd.R_below (by (with_reducible repeat (first | apply Kd.R_alloc | apply Kd.R_drewN | apply Kd.R_drew)); exact HO_7.out) hb); have n2_ := Aside0.mk (Kd.R_below (by (with_reducible repeat (first | apply Kd.R_alloc | apply Kd.R_drewN | apply Kd.R_drew)); exact HO_8.out) hb); have n3_ := Aside0.mk (Kd.R_below (by (with_reducible repeat (first | apply Kd.R_alloc | apply Kd.R_drewN | apply Kd.R_drew)); exact HO355.out) hb); have n4_ := Aside0.mk (below_step (by repeat (first | (with_reducible first | exact HB.out | apply below_alloc | apply pw_below_drewN | apply below_drew1) | exact HB.out)) hb); clear HO_4; clear HO_7; clear HO_8; clear HO355; clear HB; have HO_4 := n0_; have HO_7 := n1_; have HO_8 := n2_; have HO355 := n3_; have HB := n4_; clear n0_ n1_ n2_ n3_ n4_; (try clear hb); (try clear hb2); (try clear hk); (try clear hi)) | ((with_reducible refine gate_callee (f := 31) rfl ?_); refine goesL_ (some 58) rfl rfl Try.func31 (by kernel_rfl) rfl #[.slice Ao13 t344.length co13, .int .i64 1] rfl (by (try simp only [List.map_toArray, List.map_cons, List.map_nil]); first | done | rfl | (simp only [List.length_drop, List.length_take]; rfl)) ?_; (with_reducible refine (laws_markOwnerS.calls kj7 (fun k_ => some k_ = (.slice Ao13 t344.length co13 : Value).ownBlock) (.slice Ao13 t344.length co13) t344 1 t357 t358 w _ ?side1 ?side2 A31.out).mono ?_); (case side1 => repeat (first | (with_reducible first | exact HB.out | apply below_alloc | apply pw_below_drewN | apply below_drew1) | exact HB.out)); (case side2 => exact Kd.R_tight rfl HO_7.out); rintro e w36 ⟨rfl, hy0, hb, hkp⟩; refine ⟨_, rfl, ?_⟩; have n0_ := Aside0.mk (Kd.R_mono (ok' := fun k_ => some k_ ≠ (.slice Ao13 t344.length co13 : Value).ownBlock ∧ some k_ ≠ (v350 : Value).ownBlock ∧ some k_ ≠ (.slice Ao34 t353.length co34 : Value).ownBlock) (Kd.R_keptB (HO_4.out) hkp (fun k_ hk_ hs_ => (hk_.1.1) hs_)) (fun k_ hk_ => ⟨hk_.1.1.1, hk_.1.1.2, hk_.1.2⟩)); have n1_ := Aside0.mk (Kd.R_reok rfl hy0 (fun k_ e_ => HO_7.out.1 k_ e_)); have n2_ := Aside0.mk (Kd.R_mono (ok' := fun k_ => some k_ ≠ (v342 : Value).ownBlock ∧ some k_ ≠ (.slice Ao13 t344.length co13 : Value).ownBlock ∧ some k_ ≠ (.slice Ao34 t353.length co34 : Value).ownBlock) (Kd.R_keptB (HO_8.out) hkp (fun k_ hk_ hs_ => (hk_.1.2) hs_)) (fun k_ hk_ => ⟨hk_.1.1.1, hk_.1.1.2, hk_.1.2⟩)); have n3_ := Aside0.mk (Kd.R_mono (ok' := fun k_ => some k_ ≠ (v342 : Value).ownBlock ∧ some k_ ≠ (.slice Ao13 t344.length co13 : Value).ownBlock ∧ some k_ ≠ (v350 : Value).ownBlock) (Kd.R_keptB (HO355.out) hkp (fun k_ hk_ hs_ => (hk_.1.2) hs_)) (fun k_ hk_ => ⟨hk_.1.1.1.2, hk_.1.1.2, hk_.1.2⟩)); have n4_ := Aside0.mk (hb); clear HO_4; clear HO_7; clear HO_8; clear HO355; clear HB; have HO_4 := n0_; have HO_7 := n1_; have HO_8 := n2_; have HO355 := n3_; have HB := n4_; clear n0_ n1_ n2_ n3_ n4_; (try clear hb); (try clear hkp); (try clear hy0)))
            (try simp only [Act.put, List.setIfInBounds_toArray, List.set_cons_zero, List.set_cons_succ])
            go_cut [76] (fun v76 wc => ∃ (kq : Nat) (x76_31 : Bool), v76 = .bool x76_31 ∧ Aside0 (laws_FnExactGiveWay.j1 kq l0 t339 t340 t341 t347 x76_31 = some r) ∧ Aside0 (kq ≤ kj7) ∧ Aside0 (Kd.R k26 26 wc w.heap.size (fun k_ => some k_ ≠ (v350 : Value).ownBlock) v342 t339) ∧ Aside0 (Kd.R k26 26 wc w.heap.size (fun k_ => some k_ ≠ (v342 : Value).ownBlock) v350 t347) ∧ Aside0 (Below w.heap.size w wc))
            case first =>
              have H := HC32.out
              clear HC32
              by_cases c37 : t357 < 0
              · rw [if_pos c37] at H
                have c37b0 : decide (t357 < 0) = true := decide_eq_true c37
                clear c37
                (first | rw [c37b0] | (simp only [i64_w, i32_w]; rw [c37b0]) | skip)
                have H' := Aside0.mk H
                clear H
                go_wp2
                go_meet
                case rel => exact ⟨_, (true), (by first | rfl | (simp; done) | (simp [*]; done)), H', ⟨by have := HJ7.out; first | omega | exact Nat.le_refl _⟩, ⟨by (with_reducible repeat (first | apply Kd.R_alloc | apply Kd.R_drewN | apply Kd.R_drew)); exact Kd.R_mono HO_4.out (fun _ hk => hk.2.1)⟩, ⟨by (with_reducible repeat (first | apply Kd.R_alloc | apply Kd.R_drewN | apply Kd.R_drew)); exact Kd.R_mono HO_8.out (fun _ hk => hk.1)⟩, ⟨by repeat (first | (with_reducible first | exact HB.out | apply below_alloc | apply pw_below_drewN | apply below_drew1) | exact HB.out)⟩⟩
              · rw [if_neg c37] at H
                have c37b0 : decide (t357 < 0) = false := decide_eq_false c37
                clear c37
                (first | rw [c37b0] | (simp only [i64_w, i32_w]; rw [c37b0]) | skip)
                replace H := Option.bind_eq_some_iff.mp H
                obtain ⟨t359, A380, H⟩ := H
                replace H : (if t359 = true then (if t348 = t340 then (laws_FnExactGiveWay.j1 kj7 l0 t339 t340 t341 t347 (t349 != t341)) else (laws_FnExactGiveWay.j1 kj7 l0 t339 t340 t341 t347 true)) else (laws_FnExactGiveWay.j1 kj7 l0 t339 t340 t341 t347 true)) = some r := H
                have A38 := Aside0.mk A380
                clear A380
                by_cases c39 : t359 = true
                · subst c39
                  have H1 : (if t348 = t340 then (laws_FnExactGiveWay.j1 kj7 l0 t339 t340 t341 t347 (t349 != t341)) else (laws_FnExactGiveWay.j1 kj7 l0 t339 t340 t341 t347 true)) = some r := by rw [if_pos rfl] at H; exact H
                  clear H
                  have H := H1
                  clear H1
                  by_cases c40 : t348 = t340
                  · rw [if_pos c40] at H
                    have c40b0 : (t348 == t340) = true := beq_iff_eq.mpr c40
                    have c40b1 : (t348 != t340) = false := bne_eq_false_iff_eq.mpr c40
                    clear c40
                    have H' := Aside0.mk H
                    clear H
                    obtain ⟨Ao41, co41, eo41⟩ := Kd.R_slice HO_8.out
                    subst eo41
                    obtain ⟨Ao42, co42, eo42⟩ := Kd.R_slice HO_4.out
                    subst eo42
                    go_wp2_with (first | (go_at_call 20; (with_reducible refine (laws_eqOwnerS.calls kj7 _ _ t347 _ _ t339 true _ ?side1 ?side2 ?side3 ?side4 A38.out).mono ?_); (case side1 => repeat (first | exact (Kd.R_reads' HO_8.out).2.2 | (with_reducible refine Kd.C_alloc ?_ _) | (with_reducible refine Kd.C_drewN ?_ _) | (with_reducible refine Kd.C_drew ?_))); (case side2 => exact (Kd.R_reads' HO_8.out).2.1); (case side3 => repeat (first | exact (Kd.R_reads' HO_4.out).2.2 | (with_reducible refine Kd.C_alloc ?_ _) | (with_reducible refine Kd.C_drewN ?_ _) | (with_reducible refine Kd.C_drew ?_))); (case side4 => exact (Kd.R_reads' HO_4.out).2.1); rintro e w43 ⟨rfl, hb⟩; have n0_ := Aside0.mk (Kd.R_below (by (with_reducible repeat (first | apply Kd.R_alloc | apply Kd.R_drewN | apply Kd.R_drew)); exact HO_4.out) hb); have n1_ := Aside0.mk (Kd.R_below (by (with_reducible repeat (first | apply Kd.R_alloc | apply Kd.R_drewN | apply Kd.R_drew)); exact HO_7.out) hb); have n2_ := Aside0.mk (Kd.R_below (by (with_reducible repeat (first | apply Kd.R_alloc | apply Kd.R_drewN | apply Kd.R_drew)); exact HO_8.out) hb); have n3_ := Aside0.mk (Kd.R_below (by (with_reducible repeat (first | apply Kd.R_alloc | apply Kd.R_drewN | apply Kd.R_drew)); exact HO355.out) hb); have n4_ := Aside0.mk (below_step (by repeat (first | (with_reducible first | exact HB.out | apply below_alloc | apply pw_below_drewN | apply below_drew1) | exact HB.out)) hb); clear HO_4; clear HO_7; clear HO_8; clear HO355; clear HB; have HO_4 := n0_; have HO_7 := n1_; have HO_8 := n2_; have HO355 := n3_; have HB := n4_; clear n0_ n1_ n2_ n3_ n4_; (try clear hb); (try clear hb2); (try clear hk); (try clear hi)))
                    go_meet
                    case rel => exact ⟨_, ((t349 != t341)), (by first | rfl | (simp; done) | (simp [*]; done)), H', ⟨by have := HJ7.out; first | omega | exact Nat.le_refl _⟩, ⟨by (with_reducible repeat (first | apply Kd.R_alloc | apply Kd.R_drewN | apply Kd.R_drew)); exact Kd.R_mono HO_4.out (fun _ hk => hk.2.1)⟩, ⟨by (with_reducible repeat (first | apply Kd.R_alloc | apply Kd.R_drewN | apply Kd.R_drew)); exact Kd.R_mono HO_8.out (fun _ hk => hk.1)⟩, ⟨by repeat (first | (with_reducible first | exact HB.out | apply below_alloc | apply pw_below_drewN | apply below_drew1) | exact HB.out)⟩⟩
                  · rw [if_neg c40] at H
                    have c40b0 : (t348 == t340) = false := beq_eq_false_iff_ne.mpr c40
                    have c40b1 : (t348 != t340) = true := bne_iff_ne.mpr c40
                    have H' := Aside0.mk H
                    clear H
                    obtain ⟨Ao44, co44, eo44⟩ := Kd.R_slice HO_8.out
                    subst eo44
                    obtain ⟨Ao45, co45, eo45⟩ := Kd.R_slice HO_4.out
                    subst eo45
                    go_wp2_with (first | (go_at_call 20; (with_reducible refine (laws_eqOwnerS.calls kj7 _ _ t347 _ _ t339 true _ ?side1 ?side2 ?side3 ?side4 A38.out).mono ?_); (case side1 => repeat (first | exact (Kd.R_reads' HO_8.out).2.2 | (with_reducible refine Kd.C_alloc ?_ _) | (with_reducible refine Kd.C_drewN ?_ _) | (with_reducible refine Kd.C_drew ?_))); (case side2 => exact (Kd.R_reads' HO_8.out).2.1); (case side3 => repeat (first | exact (Kd.R_reads' HO_4.out).2.2 | (with_reducible refine Kd.C_alloc ?_ _) | (with_reducible refine Kd.C_drewN ?_ _) | (with_reducible refine Kd.C_drew ?_))); (case side4 => exact (Kd.R_reads' HO_4.out).2.1); rintro e w46 ⟨rfl, hb⟩; have n0_ := Aside0.mk (Kd.R_below (by (with_reducible repeat (first | apply Kd.R_alloc | apply Kd.R_drewN | apply Kd.R_drew)); exact HO_4.out) hb); have n1_ := Aside0.mk (Kd.R_below (by (with_reducible repeat (first | apply Kd.R_alloc | apply Kd.R_drewN | apply Kd.R_drew)); exact HO_7.out) hb); have n2_ := Aside0.mk (Kd.R_below (by (with_reducible repeat (first | apply Kd.R_alloc | apply Kd.R_drewN | apply Kd.R_drew)); exact HO_8.out) hb); have n3_ := Aside0.mk (Kd.R_below (by (with_reducible repeat (first | apply Kd.R_alloc | apply Kd.R_drewN | apply Kd.R_drew)); exact HO355.out) hb); have n4_ := Aside0.mk (below_step (by repeat (first | (with_reducible first | exact HB.out | apply below_alloc | apply pw_below_drewN | apply below_drew1) | exact HB.out)) hb); clear HO_4; clear HO_7; clear HO_8; clear HO355; clear HB; have HO_4 := n0_; have HO_7 := n1_; have HO_8 := n2_; have HO355 := n3_; have HB := n4_; clear n0_ n1_ n2_ n3_ n4_; (try clear hb); (try clear hb2); (try clear hk); (try clear hi)))
                    go_meet
                    case rel => exact ⟨_, (true), (by first | rfl | (simp; done) | (simp [*]; done)), H', ⟨by have := HJ7.out; first | omega | exact Nat.le_refl _⟩, ⟨by (with_reducible repeat (first | apply Kd.R_alloc | apply Kd.R_drewN | apply Kd.R_drew)); exact Kd.R_mono HO_4.out (fun _ hk => hk.2.1)⟩, ⟨by (with_reducible repeat (first | apply Kd.R_alloc | apply Kd.R_drewN | apply Kd.R_drew)); exact Kd.R_mono HO_8.out (fun _ hk => hk.1)⟩, ⟨by repeat (first | (with_reducible first | exact HB.out | apply below_alloc | apply pw_below_drewN | apply below_drew1) | exact HB.out)⟩⟩
                · replace c39 := Bool.eq_false_iff.mpr c39
                  subst c39
                  have H1 : (laws_FnExactGiveWay.j1 kj7 l0 t339 t340 t341 t347 true) = some r := by rw [if_neg (show ¬ (false = true) by decide)] at H; exact H
                  clear H
                  have H := H1
                  clear H1
                  have H' := Aside0.mk H
                  clear H
                  obtain ⟨Ao47, co47, eo47⟩ := Kd.R_slice HO_8.out
                  subst eo47
                  obtain ⟨Ao48, co48, eo48⟩ := Kd.R_slice HO_4.out
                  subst eo48
                  go_wp2_with (first | (go_at_call 20; (with_reducible refine (laws_eqOwnerS.calls kj7 _ _ t347 _ _ t339 false _ ?side1 ?side2 ?side3 ?side4 A38.out).mono ?_); (case side1 => repeat (first | exact (Kd.R_reads' HO_8.out).2.2 | (with_reducible refine Kd.C_alloc ?_ _) | (with_reducible refine Kd.C_drewN ?_ _) | (with_reducible refine Kd.C_drew ?_))); (case side2 => exact (Kd.R_reads' HO_8.out).2.1); (case side3 => repeat (first | exact (Kd.R_reads' HO_4.out).2.2 | (with_reducible refine Kd.C_alloc ?_ _) | (with_reducible refine Kd.C_drewN ?_ _) | (with_reducible refine Kd.C_drew ?_))); (case side4 => exact (Kd.R_reads' HO_4.out).2.1); rintro e w49 ⟨rfl, hb⟩; have n0_ := Aside0.mk (Kd.R_below (by (with_reducible repeat (first | apply Kd.R_alloc | apply Kd.R_drewN | apply Kd.R_drew)); exact HO_4.out) hb); have n1_ := Aside0.mk (Kd.R_below (by (with_reducible repeat (first | apply Kd.R_alloc | apply Kd.R_drewN | apply Kd.R_drew)); exact HO_7.out) hb); have n2_ := Aside0.mk (Kd.R_below (by (with_reducible repeat (first | apply Kd.R_alloc | apply Kd.R_drewN | apply Kd.R_drew)); exact HO_8.out) hb); have n3_ := Aside0.mk (Kd.R_below (by (with_reducible repeat (first | apply Kd.R_alloc | apply Kd.R_drewN | apply Kd.R_drew)); exact HO355.out) hb); have n4_ := Aside0.mk (below_step (by repeat (first | (with_reducible first | exact HB.out | apply below_alloc | apply pw_below_drewN | apply below_drew1) | exact HB.out)) hb); clear HO_4; clear HO_7; clear HO_8; clear HO355; clear HB; have HO_4 := n0_; have HO_7 := n1_; have HO_8 := n2_; have HO355 := n3_; have HB := n4_; clear n0_ n1_ n2_ n3_ n4_; (try clear hb); (try clear hb2); (try clear hk); (try clear hi)))
                  go_meet
                  case rel => exact ⟨_, (true), (by first | rfl | (simp; done) | (simp [*]; done)), H', ⟨by have := HJ7.out; first | omega | exact Nat.le_refl _⟩, ⟨by (with_reducible repeat (first | apply Kd.R_alloc | apply Kd.R_drewN | apply Kd.R_drew)); exact Kd.R_mono HO_4.out (fun _ hk => hk.2.1)⟩, ⟨by (with_reducible repeat (first | apply Kd.R_alloc | apply Kd.R_drewN | apply Kd.R_drew)); exact Kd.R_mono HO_8.out (fun _ hk => hk.1)⟩, ⟨by repeat (first | (with_reducible first | exact HB.out | apply below_alloc | apply pw_below_drewN | apply below_drew1) | exact HB.out)⟩⟩
            case rest =>
              clear HC32
              try clear c1
              try clear c2
              try clear p2
              try clear c3
              try clear c3b0
              try clear c4
              try clear c9
              try clear c16
              try clear c17
              try clear c17b0
              try clear c17b1
              try clear c18
              try clear c20
              try clear c27
              try clear c29
              try clear c30
              try clear c31
              try clear c37
              try clear c37b0
              try clear c39
              try clear c40
              try clear c40b0
              try clear c40b1
              try clear p2
              obtain ⟨kq, x76_31, rfl, HA, HJ31, HO_4, HO_8, HB⟩ := hcut
              cases kq with
              | zero => exact absurd HA.out (by simp [laws_FnExactGiveWay.j1])
              | succ kj31 =>
                have H := HA.out
                clear HA
                simp only [laws_FnExactGiveWay.j1] at H
                by_cases c50 : x76_31 = true
                · subst c50
                  have H1 : (some false) = some r := by rw [if_pos rfl] at H; exact H
                  clear H
                  have H := H1
                  clear H1
                  obtain rfl := Option.some.inj H
                  go_wp2
                  go_ret
                  exact ⟨by first | rfl | (simp [errW_none, errW_some] <;> rfl) | (simp [*, errW_none, errW_some] <;> rfl), by repeat (first | (with_reducible first | exact HB.out | apply below_alloc | apply pw_below_drewN | apply below_drew1) | exact HB.out)⟩
                · replace c50 := Bool.eq_false_iff.mpr c50
                  subst c50
                  have H1 : ((laws_markOwnerS.f kj31 t347 1).bind fun bt360 => ((laws_heldOwnerS.f kj31 bt360.2 1).bind fun t362 => (if t362 < 0 then (some false) else (if t362 = bt360.1 then ((laws_toOwnerS.f kj31 l0).bind fun t363 => ((impl_GiveWay.f kj31 t363).bind fun bt366 => ((laws_eqOwnerS.f kj31 bt366.1 t339).bind fun t371 => (if t371 = true then (if bt366.2.1 = t340 then (laws_FnExactGiveWay.j2 kj31 bt360.2 bt360.1 (bt366.2.2 != t341)) else (laws_FnExactGiveWay.j2 kj31 bt360.2 bt360.1 true)) else (laws_FnExactGiveWay.j2 kj31 bt360.2 bt360.1 true))))) else (some false))))) = some r := by rw [if_neg (show ¬ (false = true) by decide)] at H; exact H
                  clear H
                  have H := H1
                  clear H1
                  replace H := Option.bind_eq_some_iff.mp H
                  obtain ⟨⟨t360, t361⟩, A510, H⟩ := H
                  replace H : ((laws_heldOwnerS.f kj31 t361 1).bind fun t362 => (if t362 < 0 then (some false) else (if t362 = t360 then ((laws_toOwnerS.f kj31 l0).bind fun t363 => ((impl_GiveWay.f kj31 t363).bind fun bt366 => ((laws_eqOwnerS.f kj31 bt366.1 t339).bind fun t371 => (if t371 = true then (if bt366.2.1 = t340 then (laws_FnExactGiveWay.j2 kj31 t361 t360 (bt366.2.2 != t341)) else (laws_FnExactGiveWay.j2 kj31 t361 t360 true)) else (laws_FnExactGiveWay.j2 kj31 t361 t360 true))))) else (some false)))) = some r := H
                  have A51 := Aside0.mk A510
                  clear A510
                  replace H := Option.bind_eq_some_iff.mp H
                  obtain ⟨t362, A520, H⟩ := H
                  replace H : (if t362 < 0 then (some false) else (if t362 = t360 then ((laws_toOwnerS.f kj31 l0).bind fun t363 => ((impl_GiveWay.f kj31 t363).bind fun bt366 => ((laws_eqOwnerS.f kj31 bt366.1 t339).bind fun t371 => (if t371 = true then (if bt366.2.1 = t340 then (laws_FnExactGiveWay.j2 kj31 t361 t360 (bt366.2.2 != t341)) else (laws_FnExactGiveWay.j2 kj31 t361 t360 true)) else (laws_FnExactGiveWay.j2 kj31 t361 t360 true))))) else (some false))) = some r := H
                  have A52 := Aside0.mk A520
                  clear A520
                  by_cases c53 : t362 < 0
                  · rw [if_pos c53] at H
                    have c53b0 : decide (t362 < 0) = true := decide_eq_true c53
                    clear c53
                    obtain rfl := Option.some.inj H
                    obtain ⟨Ao54, co54, eo54⟩ := Kd.R_slice HO_8.out
                    subst eo54
                    go_wp2_with (first | ((with_reducible refine gate_callee (f := 31) rfl ?_); refine goesL_ (some 79) rfl rfl Try.func31 (by kernel_rfl) rfl #[.slice Ao54 t347.length co54, .int .i64 1] rfl (by (try simp only [List.map_toArray, List.map_cons, List.map_nil]); first | done | rfl | (simp only [List.length_drop, List.length_take]; rfl)) ?_; (with_reducible refine (laws_markOwnerS.calls kj31 (fun k_ => some k_ = (.slice Ao54 t347.length co54 : Value).ownBlock) (.slice Ao54 t347.length co54) t347 1 t360 t361 w _ ?side1 ?side2 A51.out).mono ?_); (case side1 => repeat (first | (with_reducible first | exact HB.out | apply below_alloc | apply pw_below_drewN | apply below_drew1) | exact HB.out)); (case side2 => exact Kd.R_tight rfl HO_8.out); rintro e w55 ⟨rfl, hy0, hb, hkp⟩; refine ⟨_, rfl, ?_⟩; have n0_ := Aside0.mk (Kd.R_mono (ok' := fun k_ => some k_ ≠ (.slice Ao54 t347.length co54 : Value).ownBlock) (Kd.R_keptB (HO_4.out) hkp (fun k_ hk_ hs_ => (hk_) hs_)) (fun k_ hk_ => hk_.1)); have n1_ := Aside0.mk (Kd.R_reok rfl hy0 (fun k_ e_ => HO_8.out.1 k_ e_)); have n2_ := Aside0.mk (hb); clear HO_4; clear HO_8; clear HB; have HO_4 := n0_; have HO_8 := n1_; have HB := n2_; clear n0_ n1_ n2_; (try clear hb); (try clear hkp); (try clear hy0)) | ((with_reducible refine gate_callee (f := 32) rfl ?_); refine goesL_ (some 82) rfl rfl Try.func32 (by kernel_rfl) rfl #[.slice Ao54 t361.length co54, .int .i64 1] rfl (by (try simp only [List.map_toArray, List.map_cons, List.map_nil]); first | done | (rw [show t361.length = t347.length from (Kd.R_reads' HO_8.out).1.symm] <;> rfl) | rfl | (simp only [List.length_drop, List.length_take]; rfl)) ?_; (with_reducible refine (laws_heldOwnerS.calls kj31 _ _ t361 1 t362 _ ?side1 ?side2 A52.out).mono ?_); (case side1 => repeat (first | exact (Kd.R_reads' HO_8.out).2.2 | (with_reducible refine Kd.C_alloc ?_ _) | (with_reducible refine Kd.C_drewN ?_ _) | (with_reducible refine Kd.C_drew ?_))); (case side2 => rw [show t361.length = t347.length from (Kd.R_reads' HO_8.out).1.symm]; exact (Kd.R_reads' HO_8.out).2.1); rintro e w' ⟨rfl, ⟨nd, rfl⟩⟩; refine ⟨_, rfl, ?_⟩))
                    go_ret
                    exact ⟨by first | rfl | (simp [errW_none, errW_some] <;> rfl) | (simp [*, errW_none, errW_some] <;> rfl), by repeat (first | (with_reducible first | exact HB.out | apply below_alloc | apply pw_below_drewN | apply below_drew1) | exact HB.out)⟩
                  · rw [if_neg c53] at H
                    have c53b0 : decide (t362 < 0) = false := decide_eq_false c53
                    clear c53
                    by_cases c56 : t362 = t360
                    · rw [if_pos c56] at H
                      have c56b0 : (t362 == t360) = true := beq_iff_eq.mpr c56
                      have c56b1 : (t362 != t360) = false := bne_eq_false_iff_eq.mpr c56
                      clear c56
                      replace H := Option.bind_eq_some_iff.mp H
                      obtain ⟨t363, A570, H⟩ := H
                      replace H : ((impl_GiveWay.f kj31 t363).bind fun bt366 => ((laws_eqOwnerS.f kj31 bt366.1 t339).bind fun t371 => (if t371 = true then (if bt366.2.1 = t340 then (laws_FnExactGiveWay.j2 kj31 t361 t360 (bt366.2.2 != t341)) else (laws_FnExactGiveWay.j2 kj31 t361 t360 true)) else (laws_FnExactGiveWay.j2 kj31 t361 t360 true)))) = some r := H
                      have A57 := Aside0.mk A570
                      clear A570
                      replace H := Option.bind_eq_some_iff.mp H
                      obtain ⟨⟨t366, t367, t368⟩, A580, H⟩ := H
                      replace H : ((laws_eqOwnerS.f kj31 t366 t339).bind fun t371 => (if t371 = true then (if t367 = t340 then (laws_FnExactGiveWay.j2 kj31 t361 t360 (t368 != t341)) else (laws_FnExactGiveWay.j2 kj31 t361 t360 true)) else (laws_FnExactGiveWay.j2 kj31 t361 t360 true))) = some r := H
                      have A58 := Aside0.mk A580
                      clear A580
                      have HC59 := Aside0.mk H
                      clear H
                      obtain ⟨Ao60, co60, eo60⟩ := Kd.R_slice HO_8.out
                      subst eo60
                      go_upto_region 25 with (first | ((with_reducible refine gate_callee (f := 31) rfl ?_); refine goesL_ (some 79) rfl rfl Try.func31 (by kernel_rfl) rfl #[.slice Ao60 t347.length co60, .int .i64 1] rfl (by (try simp only [List.map_toArray, List.map_cons, List.map_nil]); first | done | rfl | (simp only [List.length_drop, List.length_take]; rfl)) ?_; (with_reducible refine (laws_markOwnerS.calls kj31 (fun k_ => some k_ = (.slice Ao60 t347.length co60 : Value).ownBlock) (.slice Ao60 t347.length co60) t347 1 t360 t361 w _ ?side1 ?side2 A51.out).mono ?_); (case side1 => repeat (first | (with_reducible first | exact HB.out | apply below_alloc | apply pw_below_drewN | apply below_drew1) | exact HB.out)); (case side2 => exact Kd.R_tight rfl HO_8.out); rintro e w61 ⟨rfl, hy0, hb, hkp⟩; refine ⟨_, rfl, ?_⟩; have n0_ := Aside0.mk (Kd.R_mono (ok' := fun k_ => some k_ ≠ (.slice Ao60 t347.length co60 : Value).ownBlock) (Kd.R_keptB (HO_4.out) hkp (fun k_ hk_ hs_ => (hk_) hs_)) (fun k_ hk_ => hk_.1)); have n1_ := Aside0.mk (Kd.R_reok rfl hy0 (fun k_ e_ => HO_8.out.1 k_ e_)); have n2_ := Aside0.mk (hb); clear HO_4; clear HO_8; clear HB; have HO_4 := n0_; have HO_8 := n1_; have HB := n2_; clear n0_ n1_ n2_; (try clear hb); (try clear hkp); (try clear hy0)) | ((with_reducible refine gate_callee (f := 32) rfl ?_); refine goesL_ (some 82) rfl rfl Try.func32 (by kernel_rfl) rfl #[.slice Ao60 t361.length co60, .int .i64 1] rfl (by (try simp only [List.map_toArray, List.map_cons, List.map_nil]); first | done | (rw [show t361.length = t347.length from (Kd.R_reads' HO_8.out).1.symm] <;> rfl) | rfl | (simp only [List.length_drop, List.length_take]; rfl)) ?_; (with_reducible refine (laws_heldOwnerS.calls kj31 _ _ t361 1 t362 _ ?side1 ?side2 A52.out).mono ?_); (case side1 => repeat (first | exact (Kd.R_reads' HO_8.out).2.2 | (with_reducible refine Kd.C_alloc ?_ _) | (with_reducible refine Kd.C_drewN ?_ _) | (with_reducible refine Kd.C_drew ?_))); (case side2 => rw [show t361.length = t347.length from (Kd.R_reads' HO_8.out).1.symm]; exact (Kd.R_reads' HO_8.out).2.1); rintro e w' ⟨rfl, ⟨nd, rfl⟩⟩; refine ⟨_, rfl, ?_⟩) | ((with_reducible refine gate_callee (f := 18) rfl ?_); refine goesL_ (some 90) rfl rfl Try.func18 (by kernel_rfl) rfl #[.slice A0 l0.length c0] rfl (by (try simp only [List.map_toArray, List.map_cons, List.map_nil]); first | done | rfl | (simp only [List.length_drop, List.length_take]; rfl)) ?_; (with_reducible refine (laws_toOwnerS.calls kj31 _ _ l0 t363 _ ?side1 ?side2 A57.out).mono ?_); (case side1 => repeat (first | exact (Kd.C_below HR0.out (by repeat (first | (with_reducible first | exact HB.out | apply below_alloc | apply pw_below_drewN | apply below_drew1) | exact HB.out))) | (with_reducible refine Kd.C_alloc ?_ _) | (with_reducible refine Kd.C_drewN ?_ _) | (with_reducible refine Kd.C_drew ?_))); (case side2 => exact HC0.out); rintro e w62 ⟨v364, rfl, ho0, hb⟩; refine ⟨_, rfl, ?_⟩; have n0_ := Aside0.mk (Kd.R_elder' (by (with_reducible repeat (first | apply Kd.R_alloc | apply Kd.R_drewN | apply Kd.R_drew)); exact HO_4.out) (Kd.R_base ho0) hb); have n1_ := Aside0.mk (Kd.R_elder' (by (with_reducible repeat (first | apply Kd.R_alloc | apply Kd.R_drewN | apply Kd.R_drew)); exact HO_8.out) (Kd.R_base ho0) hb); have n2_ := Aside0.mk (Kd.R_lower (Kd.R_new' (Kd.R_new' ho0 (Kd.R_lt (by (with_reducible repeat (first | apply Kd.R_alloc | apply Kd.R_drewN | apply Kd.R_drew)); exact HO_4.out))) (Kd.R_lt (by (with_reducible repeat (first | apply Kd.R_alloc | apply Kd.R_drewN | apply Kd.R_drew)); exact HO_8.out))) (below_size (by repeat (first | (with_reducible first | exact HB.out | apply below_alloc | apply pw_below_drewN | apply below_drew1) | exact HB.out)))); have n3_ := Aside0.mk (below_step (by repeat (first | (with_reducible first | exact HB.out | apply below_alloc | apply pw_below_drewN | apply below_drew1) | exact HB.out)) hb); clear HO_4; clear HO_8; clear HB; have HO_4 := n0_; have HO_8 := n1_; have HO365 := n2_; have HB := n3_; clear n0_ n1_ n2_ n3_; (try clear hb); (try clear hb2); (try clear hk); (try clear hi); (try clear ho0); obtain ⟨Ao63, co63, eo63⟩ := Kd.R_slice HO365.out; subst eo63) | ((with_reducible refine gate_callee (f := 30) rfl ?_); refine goesL_ (some 91) rfl rfl Try.func30 (by kernel_rfl) rfl #[.slice Ao63 t363.length co63] rfl (by (try simp only [List.map_toArray, List.map_cons, List.map_nil]); first | done | rfl | (simp only [List.length_drop, List.length_take]; rfl)) ?_; (with_reducible refine (impl_GiveWay.calls kj31 _ _ t363 t366 t367 t368 _ ?side1 ?side2 A58.out).mono ?_); (case side1 => repeat (first | exact (Kd.R_reads' HO365.out).2.2 | (with_reducible refine Kd.C_alloc ?_ _) | (with_reducible refine Kd.C_drewN ?_ _) | (with_reducible refine Kd.C_drew ?_))); (case side2 => exact (Kd.R_reads' HO365.out).2.1); rintro e w64 ⟨v369, rfl, ho0, hb⟩; refine ⟨_, rfl, ?_⟩; have n0_ := Aside0.mk (Kd.R_elder' (by (with_reducible repeat (first | apply Kd.R_alloc | apply Kd.R_drewN | apply Kd.R_drew)); exact HO_4.out) (Kd.R_base ho0) hb); have n1_ := Aside0.mk (Kd.R_elder' (by (with_reducible repeat (first | apply Kd.R_alloc | apply Kd.R_drewN | apply Kd.R_drew)); exact HO_8.out) (Kd.R_base ho0) hb); have n2_ := Aside0.mk (Kd.R_elder' (by (with_reducible repeat (first | apply Kd.R_alloc | apply Kd.R_drewN | apply Kd.R_drew)); exact HO365.out) (Kd.R_base ho0) hb); have n3_ := Aside0.mk (Kd.R_lower (Kd.R_new' (Kd.R_new' (Kd.R_new' ho0 (Kd.R_lt (by (with_reducible repeat (first | apply Kd.R_alloc | apply Kd.R_drewN | apply Kd.R_drew)); exact HO_4.out))) (Kd.R_lt (by (with_reducible repeat (first | apply Kd.R_alloc | apply Kd.R_drewN | apply Kd.R_drew)); exact HO_8.out))) (Kd.R_lt (by (with_reducible repeat (first | apply Kd.R_alloc | apply Kd.R_drewN | apply Kd.R_drew)); exact HO365.out))) (below_size (by repeat (first | (with_reducible first | exact HB.out | apply below_alloc | apply pw_below_drewN | apply below_drew1) | exact HB.out)))); have n4_ := Aside0.mk (below_step (by repeat (first | (with_reducible first | exact HB.out | apply below_alloc | apply pw_below_drewN | apply below_drew1) | exact HB.out)) hb); clear HO_4; clear HO_8; clear HO365; clear HB; have HO_4 := n0_; have HO_8 := n1_; have HO365 := n2_; have HO370 := n3_; have HB := n4_; clear n0_ n1_ n2_ n3_ n4_; (try clear hb); (try clear hb2); (try clear hk); (try clear hi); (try clear ho0)))
                      (try simp only [Act.put, List.setIfInBounds_toArray, List.set_cons_zero, List.set_cons_succ])
                      go_cut [108] (fun v108 wc => ∃ (kq : Nat) (x108_58 : Bool), v108 = .bool x108_58 ∧ Aside0 (laws_FnExactGiveWay.j2 kq t361 t360 x108_58 = some r) ∧ Aside0 (kq ≤ kj31) ∧ Aside0 (Kd.R k26 26 wc w.heap.size (fun _ => True) (.slice Ao60 t347.length co60) t361) ∧ Aside0 (Below w.heap.size w wc))
                      case first =>
                        have H := HC59.out
                        clear HC59
                        replace H := Option.bind_eq_some_iff.mp H
                        obtain ⟨t371, A650, H⟩ := H
                        replace H : (if t371 = true then (if t367 = t340 then (laws_FnExactGiveWay.j2 kj31 t361 t360 (t368 != t341)) else (laws_FnExactGiveWay.j2 kj31 t361 t360 true)) else (laws_FnExactGiveWay.j2 kj31 t361 t360 true)) = some r := H
                        have A65 := Aside0.mk A650
                        clear A650
                        by_cases c66 : t371 = true
                        · subst c66
                          have H1 : (if t367 = t340 then (laws_FnExactGiveWay.j2 kj31 t361 t360 (t368 != t341)) else (laws_FnExactGiveWay.j2 kj31 t361 t360 true)) = some r := by rw [if_pos rfl] at H; exact H
                          clear H
                          have H := H1
                          clear H1
                          by_cases c67 : t367 = t340
                          · rw [if_pos c67] at H
                            have c67b0 : (t367 == t340) = true := beq_iff_eq.mpr c67
                            have c67b1 : (t367 != t340) = false := bne_eq_false_iff_eq.mpr c67
                            clear c67
                            (first | rw [c67b0] | (simp only [i64_w, i32_w]; rw [c67b0]) | skip)
                            have H' := Aside0.mk H
                            clear H
                            obtain ⟨Ao68, co68, eo68⟩ := Kd.R_slice HO370.out
                            subst eo68
                            obtain ⟨Ao69, co69, eo69⟩ := Kd.R_slice HO_4.out
                            subst eo69
                            go_wp2_with (first | ((with_reducible refine gate_callee (f := 20) rfl ?_); refine goesL_ (some 97) rfl rfl Try.func20 (by kernel_rfl) rfl #[.slice Ao68 t366.length co68, .slice Ao69 t339.length co69] rfl (by (try simp only [List.map_toArray, List.map_cons, List.map_nil]); first | done | rfl | (simp only [List.length_drop, List.length_take]; rfl)) ?_; (with_reducible refine (laws_eqOwnerS.calls kj31 _ _ t366 _ _ t339 true _ ?side1 ?side2 ?side3 ?side4 A65.out).mono ?_); (case side1 => repeat (first | exact (Kd.R_reads' HO370.out).2.2 | (with_reducible refine Kd.C_alloc ?_ _) | (with_reducible refine Kd.C_drewN ?_ _) | (with_reducible refine Kd.C_drew ?_))); (case side2 => exact (Kd.R_reads' HO370.out).2.1); (case side3 => repeat (first | exact (Kd.R_reads' HO_4.out).2.2 | (with_reducible refine Kd.C_alloc ?_ _) | (with_reducible refine Kd.C_drewN ?_ _) | (with_reducible refine Kd.C_drew ?_))); (case side4 => exact (Kd.R_reads' HO_4.out).2.1); rintro e w70 ⟨rfl, hb⟩; refine ⟨_, rfl, ?_⟩; have n0_ := Aside0.mk (Kd.R_below (by (with_reducible repeat (first | apply Kd.R_alloc | apply Kd.R_drewN | apply Kd.R_drew)); exact HO_4.out) hb); have n1_ := Aside0.mk (Kd.R_below (by (with_reducible repeat (first | apply Kd.R_alloc | apply Kd.R_drewN | apply Kd.R_drew)); exact HO_8.out) hb); have n2_ := Aside0.mk (Kd.R_below (by (with_reducible repeat (first | apply Kd.R_alloc | apply Kd.R_drewN | apply Kd.R_drew)); exact HO365.out) hb); have n3_ := Aside0.mk (Kd.R_below (by (with_reducible repeat (first | apply Kd.R_alloc | apply Kd.R_drewN | apply Kd.R_drew)); exact HO370.out) hb); have n4_ := Aside0.mk (below_step (by repeat (first | (with_reducible first | exact HB.out | apply below_alloc | apply pw_below_drewN | apply below_drew1) | exact HB.out)) hb); clear HO_4; clear HO_8; clear HO365; clear HO370; clear HB; have HO_4 := n0_; have HO_8 := n1_; have HO365 := n2_; have HO370 := n3_; have HB := n4_; clear n0_ n1_ n2_ n3_ n4_; (try clear hb); (try clear hb2); (try clear hk); (try clear hi)))
                            go_meet
                            case rel => exact ⟨_, ((t368 != t341)), (by first | rfl | (simp; done) | (simp [*]; done)), H', ⟨by have := HJ7.out; have := HJ31.out; first | omega | exact Nat.le_refl _⟩, ⟨by (with_reducible repeat (first | apply Kd.R_alloc | apply Kd.R_drewN | apply Kd.R_drew)); exact Kd.R_mono HO_8.out (fun _ hk => trivial)⟩, ⟨by repeat (first | (with_reducible first | exact HB.out | apply below_alloc | apply pw_below_drewN | apply below_drew1) | exact HB.out)⟩⟩
                          · rw [if_neg c67] at H
                            have c67b0 : (t367 == t340) = false := beq_eq_false_iff_ne.mpr c67
                            have c67b1 : (t367 != t340) = true := bne_iff_ne.mpr c67
                            (first | rw [c67b0] | (simp only [i64_w, i32_w]; rw [c67b0]) | skip)
                            have H' := Aside0.mk H
                            clear H
                            obtain ⟨Ao71, co71, eo71⟩ := Kd.R_slice HO370.out
                            subst eo71
                            obtain ⟨Ao72, co72, eo72⟩ := Kd.R_slice HO_4.out
                            subst eo72
                            go_wp2_with (first | ((with_reducible refine gate_callee (f := 20) rfl ?_); refine goesL_ (some 97) rfl rfl Try.func20 (by kernel_rfl) rfl #[.slice Ao71 t366.length co71, .slice Ao72 t339.length co72] rfl (by (try simp only [List.map_toArray, List.map_cons, List.map_nil]); first | done | rfl | (simp only [List.length_drop, List.length_take]; rfl)) ?_; (with_reducible refine (laws_eqOwnerS.calls kj31 _ _ t366 _ _ t339 true _ ?side1 ?side2 ?side3 ?side4 A65.out).mono ?_); (case side1 => repeat (first | exact (Kd.R_reads' HO370.out).2.2 | (with_reducible refine Kd.C_alloc ?_ _) | (with_reducible refine Kd.C_drewN ?_ _) | (with_reducible refine Kd.C_drew ?_))); (case side2 => exact (Kd.R_reads' HO370.out).2.1); (case side3 => repeat (first | exact (Kd.R_reads' HO_4.out).2.2 | (with_reducible refine Kd.C_alloc ?_ _) | (with_reducible refine Kd.C_drewN ?_ _) | (with_reducible refine Kd.C_drew ?_))); (case side4 => exact (Kd.R_reads' HO_4.out).2.1); rintro e w73 ⟨rfl, hb⟩; refine ⟨_, rfl, ?_⟩; have n0_ := Aside0.mk (Kd.R_below (by (with_reducible repeat (first | apply Kd.R_alloc | apply Kd.R_drewN | apply Kd.R_drew)); exact HO_4.out) hb); have n1_ := Aside0.mk (Kd.R_below (by (with_reducible repeat (first | apply Kd.R_alloc | apply Kd.R_drewN | apply Kd.R_drew)); exact HO_8.out) hb); have n2_ := Aside0.mk (Kd.R_below (by (with_reducible repeat (first | apply Kd.R_alloc | apply Kd.R_drewN | apply Kd.R_drew)); exact HO365.out) hb); have n3_ := Aside0.mk (Kd.R_below (by (with_reducible repeat (first | apply Kd.R_alloc | apply Kd.R_drewN | apply Kd.R_drew)); exact HO370.out) hb); have n4_ := Aside0.mk (below_step (by repeat (first | (with_reducible first | exact HB.out | apply below_alloc | apply pw_below_drewN | apply below_drew1) | exact HB.out)) hb); clear HO_4; clear HO_8; clear HO365; clear HO370; clear HB; have HO_4 := n0_; have HO_8 := n1_; have HO365 := n2_; have HO370 := n3_; have HB := n4_; clear n0_ n1_ n2_ n3_ n4_; (try clear hb); (try clear hb2); (try clear hk); (try clear hi)))
                            go_meet
                            case rel => exact ⟨_, (true), (by first | rfl | (simp; done) | (simp [*]; done)), H', ⟨by have := HJ7.out; have := HJ31.out; first | omega | exact Nat.le_refl _⟩, ⟨by (with_reducible repeat (first | apply Kd.R_alloc | apply Kd.R_drewN | apply Kd.R_drew)); exact Kd.R_mono HO_8.out (fun _ hk => trivial)⟩, ⟨by repeat (first | (with_reducible first | exact HB.out | apply below_alloc | apply pw_below_drewN | apply below_drew1) | exact HB.out)⟩⟩
                        · replace c66 := Bool.eq_false_iff.mpr c66
                          subst c66
                          have H1 : (laws_FnExactGiveWay.j2 kj31 t361 t360 true) = some r := by rw [if_neg (show ¬ (false = true) by decide)] at H; exact H
                          clear H
                          have H := H1
                          clear H1
                          have H' := Aside0.mk H
                          clear H
                          obtain ⟨Ao74, co74, eo74⟩ := Kd.R_slice HO370.out
                          subst eo74
                          obtain ⟨Ao75, co75, eo75⟩ := Kd.R_slice HO_4.out
                          subst eo75
                          go_wp2_with (first | ((with_reducible refine gate_callee (f := 20) rfl ?_); refine goesL_ (some 97) rfl rfl Try.func20 (by kernel_rfl) rfl #[.slice Ao74 t366.length co74, .slice Ao75 t339.length co75] rfl (by (try simp only [List.map_toArray, List.map_cons, List.map_nil]); first | done | rfl | (simp only [List.length_drop, List.length_take]; rfl)) ?_; (with_reducible refine (laws_eqOwnerS.calls kj31 _ _ t366 _ _ t339 false _ ?side1 ?side2 ?side3 ?side4 A65.out).mono ?_); (case side1 => repeat (first | exact (Kd.R_reads' HO370.out).2.2 | (with_reducible refine Kd.C_alloc ?_ _) | (with_reducible refine Kd.C_drewN ?_ _) | (with_reducible refine Kd.C_drew ?_))); (case side2 => exact (Kd.R_reads' HO370.out).2.1); (case side3 => repeat (first | exact (Kd.R_reads' HO_4.out).2.2 | (with_reducible refine Kd.C_alloc ?_ _) | (with_reducible refine Kd.C_drewN ?_ _) | (with_reducible refine Kd.C_drew ?_))); (case side4 => exact (Kd.R_reads' HO_4.out).2.1); rintro e w76 ⟨rfl, hb⟩; refine ⟨_, rfl, ?_⟩; have n0_ := Aside0.mk (Kd.R_below (by (with_reducible repeat (first | apply Kd.R_alloc | apply Kd.R_drewN | apply Kd.R_drew)); exact HO_4.out) hb); have n1_ := Aside0.mk (Kd.R_below (by (with_reducible repeat (first | apply Kd.R_alloc | apply Kd.R_drewN | apply Kd.R_drew)); exact HO_8.out) hb); have n2_ := Aside0.mk (Kd.R_below (by (with_reducible repeat (first | apply Kd.R_alloc | apply Kd.R_drewN | apply Kd.R_drew)); exact HO365.out) hb); have n3_ := Aside0.mk (Kd.R_below (by (with_reducible repeat (first | apply Kd.R_alloc | apply Kd.R_drewN | apply Kd.R_drew)); exact HO370.out) hb); have n4_ := Aside0.mk (below_step (by repeat (first | (with_reducible first | exact HB.out | apply below_alloc | apply pw_below_drewN | apply below_drew1) | exact HB.out)) hb); clear HO_4; clear HO_8; clear HO365; clear HO370; clear HB; have HO_4 := n0_; have HO_8 := n1_; have HO365 := n2_; have HO370 := n3_; have HB := n4_; clear n0_ n1_ n2_ n3_ n4_; (try clear hb); (try clear hb2); (try clear hk); (try clear hi)))
                          go_meet
                          case rel => exact ⟨_, (true), (by first | rfl | (simp; done) | (simp [*]; done)), H', ⟨by have := HJ7.out; have := HJ31.out; first | omega | exact Nat.le_refl _⟩, ⟨by (with_reducible repeat (first | apply Kd.R_alloc | apply Kd.R_drewN | apply Kd.R_drew)); exact Kd.R_mono HO_8.out (fun _ hk => trivial)⟩, ⟨by repeat (first | (with_reducible first | exact HB.out | apply below_alloc | apply pw_below_drewN | apply below_drew1) | exact HB.out)⟩⟩
                      case rest =>
                        clear HC59
                        try clear c1
                        try clear c2
                        try clear p2
                        try clear c3
                        try clear c3b0
                        try clear c4
                        try clear c5
                        try clear c6
                        try clear c9
                        try clear c16
                        try clear c17
                        try clear c17b0
                        try clear c17b1
                        try clear c18
                        try clear c20
                        try clear c27
                        try clear c29
                        try clear c30
                        try clear c31
                        try clear c32
                        try clear c37
                        try clear c37b0
                        try clear c39
                        try clear c40
                        try clear c40b0
                        try clear c40b1
                        try clear c50
                        try clear c53
                        try clear c53b0
                        try clear c56
                        try clear c56b0
                        try clear c56b1
                        try clear c66
                        try clear c67
                        try clear c67b0
                        try clear c67b1
                        try clear p2
                        obtain ⟨kq, x108_58, rfl, HA, HJ58, HO_8, HB⟩ := hcut
                        have hl8_58 := (Kd.R_reads' HO_8.out).1
                        rw [hl8_58] at HO_8
                        (try simp only [hl8_58])
                        cases kq with
                        | zero => exact absurd HA.out (by simp [laws_FnExactGiveWay.j2])
                        | succ kj58 =>
                          have H := HA.out
                          clear HA
                          simp only [laws_FnExactGiveWay.j2] at H
                          by_cases c77 : x108_58 = true
                          · subst c77
                            have H1 : (some false) = some r := by rw [if_pos rfl] at H; exact H
                            clear H
                            have H := H1
                            clear H1
                            obtain rfl := Option.some.inj H
                            go_wp2
                            go_ret
                            exact ⟨by first | rfl | (simp [errW_none, errW_some] <;> rfl) | (simp [*, errW_none, errW_some] <;> rfl), by repeat (first | (with_reducible first | exact HB.out | apply below_alloc | apply pw_below_drewN | apply below_drew1) | exact HB.out)⟩
                          · replace c77 := Bool.eq_false_iff.mpr c77
                            subst c77
                            have H1 : ((laws_heldOwnerS.f kj58 t361 1).bind fun t372 => (if t372 < 0 then (some false) else (if t372 = t360 then (some true) else (some false)))) = some r := by rw [if_neg (show ¬ (false = true) by decide)] at H; exact H
                            clear H
                            have H := H1
                            clear H1
                            replace H := Option.bind_eq_some_iff.mp H
                            obtain ⟨t372, A780, H⟩ := H
                            replace H : (if t372 < 0 then (some false) else (if t372 = t360 then (some true) else (some false))) = some r := H
                            have A78 := Aside0.mk A780
                            clear A780
                            by_cases c79 : t372 < 0
                            · rw [if_pos c79] at H
                              have c79b0 : decide (t372 < 0) = true := decide_eq_true c79
                              clear c79
                              obtain rfl := Option.some.inj H
                              go_wp2_with (first | ((with_reducible refine gate_callee (f := 32) rfl ?_); refine goesL_ (some 111) rfl rfl Try.func32 (by kernel_rfl) rfl #[.slice Ao60 t361.length co60, .int .i64 1] rfl (by (try simp only [List.map_toArray, List.map_cons, List.map_nil]); first | done | rfl | (simp only [List.length_drop, List.length_take]; rfl)) ?_; (with_reducible refine (laws_heldOwnerS.calls kj58 _ _ t361 1 t372 _ ?side1 ?side2 A78.out).mono ?_); (case side1 => repeat (first | exact (Kd.R_reads' HO_8.out).2.2 | (with_reducible refine Kd.C_alloc ?_ _) | (with_reducible refine Kd.C_drewN ?_ _) | (with_reducible refine Kd.C_drew ?_))); (case side2 => exact (Kd.R_reads' HO_8.out).2.1); rintro e w' ⟨rfl, ⟨nd, rfl⟩⟩; refine ⟨_, rfl, ?_⟩))
                              go_ret
                              exact ⟨by first | rfl | (simp [errW_none, errW_some] <;> rfl) | (simp [*, errW_none, errW_some] <;> rfl), by repeat (first | (with_reducible first | exact HB.out | apply below_alloc | apply pw_below_drewN | apply below_drew1) | exact HB.out)⟩
                            · rw [if_neg c79] at H
                              have c79b0 : decide (t372 < 0) = false := decide_eq_false c79
                              clear c79
                              by_cases c80 : t372 = t360
                              · rw [if_pos c80] at H
                                have c80b0 : (t372 == t360) = true := beq_iff_eq.mpr c80
                                have c80b1 : (t372 != t360) = false := bne_eq_false_iff_eq.mpr c80
                                clear c80
                                obtain rfl := Option.some.inj H
                                go_wp2_with (first | ((with_reducible refine gate_callee (f := 32) rfl ?_); refine goesL_ (some 111) rfl rfl Try.func32 (by kernel_rfl) rfl #[.slice Ao60 t361.length co60, .int .i64 1] rfl (by (try simp only [List.map_toArray, List.map_cons, List.map_nil]); first | done | rfl | (simp only [List.length_drop, List.length_take]; rfl)) ?_; (with_reducible refine (laws_heldOwnerS.calls kj58 _ _ t361 1 t372 _ ?side1 ?side2 A78.out).mono ?_); (case side1 => repeat (first | exact (Kd.R_reads' HO_8.out).2.2 | (with_reducible refine Kd.C_alloc ?_ _) | (with_reducible refine Kd.C_drewN ?_ _) | (with_reducible refine Kd.C_drew ?_))); (case side2 => exact (Kd.R_reads' HO_8.out).2.1); rintro e w' ⟨rfl, ⟨nd, rfl⟩⟩; refine ⟨_, rfl, ?_⟩))
                                go_ret
                                exact ⟨by first | rfl | (simp [errW_none, errW_some] <;> rfl) | (simp [*, errW_none, errW_some] <;> rfl), by repeat (first | (with_reducible first | exact HB.out | apply below_alloc | apply pw_below_drewN | apply below_drew1) | exact HB.out)⟩
                              · rw [if_neg c80] at H
                                have c80b0 : (t372 == t360) = false := beq_eq_false_iff_ne.mpr c80
                                have c80b1 : (t372 != t360) = true := bne_iff_ne.mpr c80
                                obtain rfl := Option.some.inj H
                                go_wp2_with (first | ((with_reducible refine gate_callee (f := 32) rfl ?_); refine goesL_ (some 111) rfl rfl Try.func32 (by kernel_rfl) rfl #[.slice Ao60 t361.length co60, .int .i64 1] rfl (by (try simp only [List.map_toArray, List.map_cons, List.map_nil]); first | done | rfl | (simp only [List.length_drop, List.length_take]; rfl)) ?_; (with_reducible refine (laws_heldOwnerS.calls kj58 _ _ t361 1 t372 _ ?side1 ?side2 A78.out).mono ?_); (case side1 => repeat (first | exact (Kd.R_reads' HO_8.out).2.2 | (with_reducible refine Kd.C_alloc ?_ _) | (with_reducible refine Kd.C_drewN ?_ _) | (with_reducible refine Kd.C_drew ?_))); (case side2 => exact (Kd.R_reads' HO_8.out).2.1); rintro e w' ⟨rfl, ⟨nd, rfl⟩⟩; refine ⟨_, rfl, ?_⟩))
                                go_ret
                                exact ⟨by first | rfl | (simp [errW_none, errW_some] <;> rfl) | (simp [*, errW_none, errW_some] <;> rfl), by repeat (first | (with_reducible first | exact HB.out | apply below_alloc | apply pw_below_drewN | apply below_drew1) | exact HB.out)⟩
                    · rw [if_neg c56] at H
                      have c56b0 : (t362 == t360) = false := beq_eq_false_iff_ne.mpr c56
                      have c56b1 : (t362 != t360) = true := bne_iff_ne.mpr c56
                      obtain rfl := Option.some.inj H
                      obtain ⟨Ao81, co81, eo81⟩ := Kd.R_slice HO_8.out
                      subst eo81
                      go_wp2_with (first | ((with_reducible refine gate_callee (f := 31) rfl ?_); refine goesL_ (some 79) rfl rfl Try.func31 (by kernel_rfl) rfl #[.slice Ao81 t347.length co81, .int .i64 1] rfl (by (try simp only [List.map_toArray, List.map_cons, List.map_nil]); first | done | rfl | (simp only [List.length_drop, List.length_take]; rfl)) ?_; (with_reducible refine (laws_markOwnerS.calls kj31 (fun k_ => some k_ = (.slice Ao81 t347.length co81 : Value).ownBlock) (.slice Ao81 t347.length co81) t347 1 t360 t361 w _ ?side1 ?side2 A51.out).mono ?_); (case side1 => repeat (first | (with_reducible first | exact HB.out | apply below_alloc | apply pw_below_drewN | apply below_drew1) | exact HB.out)); (case side2 => exact Kd.R_tight rfl HO_8.out); rintro e w82 ⟨rfl, hy0, hb, hkp⟩; refine ⟨_, rfl, ?_⟩; have n0_ := Aside0.mk (Kd.R_mono (ok' := fun k_ => some k_ ≠ (.slice Ao81 t347.length co81 : Value).ownBlock) (Kd.R_keptB (HO_4.out) hkp (fun k_ hk_ hs_ => (hk_) hs_)) (fun k_ hk_ => hk_.1)); have n1_ := Aside0.mk (Kd.R_reok rfl hy0 (fun k_ e_ => HO_8.out.1 k_ e_)); have n2_ := Aside0.mk (hb); clear HO_4; clear HO_8; clear HB; have HO_4 := n0_; have HO_8 := n1_; have HB := n2_; clear n0_ n1_ n2_; (try clear hb); (try clear hkp); (try clear hy0)) | ((with_reducible refine gate_callee (f := 32) rfl ?_); refine goesL_ (some 82) rfl rfl Try.func32 (by kernel_rfl) rfl #[.slice Ao81 t361.length co81, .int .i64 1] rfl (by (try simp only [List.map_toArray, List.map_cons, List.map_nil]); first | done | (rw [show t361.length = t347.length from (Kd.R_reads' HO_8.out).1.symm] <;> rfl) | rfl | (simp only [List.length_drop, List.length_take]; rfl)) ?_; (with_reducible refine (laws_heldOwnerS.calls kj31 _ _ t361 1 t362 _ ?side1 ?side2 A52.out).mono ?_); (case side1 => repeat (first | exact (Kd.R_reads' HO_8.out).2.2 | (with_reducible refine Kd.C_alloc ?_ _) | (with_reducible refine Kd.C_drewN ?_ _) | (with_reducible refine Kd.C_drew ?_))); (case side2 => rw [show t361.length = t347.length from (Kd.R_reads' HO_8.out).1.symm]; exact (Kd.R_reads' HO_8.out).2.1); rintro e w' ⟨rfl, ⟨nd, rfl⟩⟩; refine ⟨_, rfl, ?_⟩))
                      go_ret
                      exact ⟨by first | rfl | (simp [errW_none, errW_some] <;> rfl) | (simp [*, errW_none, errW_some] <;> rfl), by repeat (first | (with_reducible first | exact HB.out | apply below_alloc | apply pw_below_drewN | apply below_drew1) | exact HB.out)⟩
          · replace c30 := Bool.eq_false_iff.mpr c30
            subst c30
            have H1 : (some false) = some r := by rw [if_neg (show ¬ (false = true) by decide)] at H; exact H
            clear H
            have H := H1
            clear H1
            obtain rfl := Option.some.inj H
            go_wp2_with (first | ((with_reducible refine gate_callee (f := 18) rfl ?_); refine goesL_ (some 53) rfl rfl Try.func18 (by kernel_rfl) rfl #[.slice A0 l0.length c0] rfl (by (try simp only [List.map_toArray, List.map_cons, List.map_nil]); first | done | rfl | (simp only [List.length_drop, List.length_take]; rfl)) ?_; (with_reducible refine (laws_toOwnerS.calls kj7 _ _ l0 t353 _ ?side1 ?side2 A28.out).mono ?_); (case side1 => repeat (first | exact (Kd.C_below HR0.out HB.out) | (with_reducible refine Kd.C_alloc ?_ _) | (with_reducible refine Kd.C_drewN ?_ _) | (with_reducible refine Kd.C_drew ?_))); (case side2 => exact HC0.out); rintro e w83 ⟨v354, rfl, ho0, hb⟩; refine ⟨_, rfl, ?_⟩; have n0_ := Aside0.mk (Kd.R_elder' (by (with_reducible repeat (first | apply Kd.R_alloc | apply Kd.R_drewN | apply Kd.R_drew)); exact HO_4.out) (Kd.R_base ho0) hb); have n1_ := Aside0.mk (Kd.R_elder' (by (with_reducible repeat (first | apply Kd.R_alloc | apply Kd.R_drewN | apply Kd.R_drew)); exact HO_7.out) (Kd.R_base ho0) hb); have n2_ := Aside0.mk (Kd.R_elder' (by (with_reducible repeat (first | apply Kd.R_alloc | apply Kd.R_drewN | apply Kd.R_drew)); exact HO_8.out) (Kd.R_base ho0) hb); have n3_ := Aside0.mk (Kd.R_lower (Kd.R_new' (Kd.R_new' (Kd.R_new' ho0 (Kd.R_lt (by (with_reducible repeat (first | apply Kd.R_alloc | apply Kd.R_drewN | apply Kd.R_drew)); exact HO_4.out))) (Kd.R_lt (by (with_reducible repeat (first | apply Kd.R_alloc | apply Kd.R_drewN | apply Kd.R_drew)); exact HO_7.out))) (Kd.R_lt (by (with_reducible repeat (first | apply Kd.R_alloc | apply Kd.R_drewN | apply Kd.R_drew)); exact HO_8.out))) (below_size (by repeat (first | (with_reducible first | exact HB.out | apply below_alloc | apply pw_below_drewN | apply below_drew1) | exact HB.out)))); have n4_ := Aside0.mk (below_step (by repeat (first | (with_reducible first | exact HB.out | apply below_alloc | apply pw_below_drewN | apply below_drew1) | exact HB.out)) hb); clear HO_4; clear HO_7; clear HO_8; clear HB; have HO_4 := n0_; have HO_7 := n1_; have HO_8 := n2_; have HO355 := n3_; have HB := n4_; clear n0_ n1_ n2_ n3_ n4_; (try clear hb); (try clear hb2); (try clear hk); (try clear hi); (try clear ho0); obtain ⟨Ao84, co84, eo84⟩ := Kd.R_slice HO355.out; subst eo84) | ((with_reducible refine gate_callee (f := 20) rfl ?_); refine goesL_ (some 54) rfl rfl Try.func20 (by kernel_rfl) rfl #[.slice Ao13 t344.length co13, .slice Ao84 t353.length co84] rfl (by (try simp only [List.map_toArray, List.map_cons, List.map_nil]); first | done | rfl | (simp only [List.length_drop, List.length_take]; rfl)) ?_; (with_reducible refine (laws_eqOwnerS.calls kj7 _ _ t344 _ _ t353 false _ ?side1 ?side2 ?side3 ?side4 A29.out).mono ?_); (case side1 => repeat (first | exact (Kd.R_reads' HO_7.out).2.2 | (with_reducible refine Kd.C_alloc ?_ _) | (with_reducible refine Kd.C_drewN ?_ _) | (with_reducible refine Kd.C_drew ?_))); (case side2 => exact (Kd.R_reads' HO_7.out).2.1); (case side3 => repeat (first | exact (Kd.R_reads' HO355.out).2.2 | (with_reducible refine Kd.C_alloc ?_ _) | (with_reducible refine Kd.C_drewN ?_ _) | (with_reducible refine Kd.C_drew ?_))); (case side4 => exact (Kd.R_reads' HO355.out).2.1); rintro e w85 ⟨rfl, hb⟩; refine ⟨_, rfl, ?_⟩; have n0_ := Aside0.mk (Kd.R_below (by (with_reducible repeat (first | apply Kd.R_alloc | apply Kd.R_drewN | apply Kd.R_drew)); exact HO_4.out) hb); have n1_ := Aside0.mk (Kd.R_below (by (with_reducible repeat (first | apply Kd.R_alloc | apply Kd.R_drewN | apply Kd.R_drew)); exact HO_7.out) hb); have n2_ := Aside0.mk (Kd.R_below (by (with_reducible repeat (first | apply Kd.R_alloc | apply Kd.R_drewN | apply Kd.R_drew)); exact HO_8.out) hb); have n3_ := Aside0.mk (Kd.R_below (by (with_reducible repeat (first | apply Kd.R_alloc | apply Kd.R_drewN | apply Kd.R_drew)); exact HO355.out) hb); have n4_ := Aside0.mk (below_step (by repeat (first | (with_reducible first | exact HB.out | apply below_alloc | apply pw_below_drewN | apply below_drew1) | exact HB.out)) hb); clear HO_4; clear HO_7; clear HO_8; clear HO355; clear HB; have HO_4 := n0_; have HO_7 := n1_; have HO_8 := n2_; have HO355 := n3_; have HB := n4_; clear n0_ n1_ n2_ n3_ n4_; (try clear hb); (try clear hb2); (try clear hk); (try clear hi)))
            go_ret
            exact ⟨by first | rfl | (simp [errW_none, errW_some] <;> rfl) | (simp [*, errW_none, errW_some] <;> rfl), by repeat (first | (with_reducible first | exact HB.out | apply below_alloc | apply pw_below_drewN | apply below_drew1) | exact HB.out)⟩
end Go.Proofs.Ytljdenmmlkjapaa.P

namespace Go.Proofs.Ytljdenmmlkjapaa.P
open Go.RowKit Go.Proofs.YtljdenmmlkjapaaW.PrintWords Go.Proofs.YtljdenmmlkjapaaW.PrintLast
def wfS23 (s : S23) : Prop := (fun n : Int => (Lit.int .i64 n).wf = true) s.f0 ∧ (fun n : Int => (Lit.int .i64 n).wf = true) s.f1 ∧ (fun n : Int => (Lit.int .i64 n).wf = true) s.f2
/-- The one pure statement of laws_FnExactGiveWay. -/
def laws_FnExactGiveWay.Pure : Prop := ∀ (l0 : List (S23)), (fun l : List (S23) => l.length ≤ maxLen ∧ ∀ x ∈ l, wfS23 x) l0 → ∃ k, laws_FnExactGiveWay.f k l0 = some true
end Go.Proofs.Ytljdenmmlkjapaa.P

namespace Go.Proofs.Ytljdenmmlkjapaa.P
open Go.RowKit Go.Proofs.YtljdenmmlkjapaaW.PrintWords
set_option linter.unusedVariables false
set_option linter.unusedSimpArgs false
theorem wrap_id {x : Int} (h0 : -9223372036854775808 ≤ x) (h1 : x ≤ 9223372036854775807) : wrap64 x = x := by unfold wrap64; omega
theorem Ev.succ {α : Type} {g : Nat → Option α} {r : α} (h : Ev (fun k => g (k + 1)) r) : Ev g r := Ev.step (fun _ => rfl) h
theorem Ev.some_ {α : Type} {r s : α} (h : r = s) : Ev (fun _ => some r) s := h ▸ Ev.now r
theorem getD_mid {α : Type} (d : α) (pre : List α) (x : α) (suf : List α) : (pre ++ x :: suf).getD ((pre.length : Int)).toNat d = x := by simp
theorem set_mid {α : Type} (pre : List α) (x y : α) (suf : List α) : (pre ++ x :: suf).set ((pre.length : Int)).toNat y = pre ++ y :: suf := by simp
theorem app_one {α : Type} (pre : List α) (x : α) (suf : List α) : pre ++ x :: suf = (pre ++ [x]) ++ suf := by simp
theorem len_one {α : Type} (pre : List α) (x : α) : ((pre ++ [x]).length : Int) = pre.length + 1 := by simp
theorem nil_or_snoc {α : Type} (l : List α) : l = [] ∨ ∃ p y, l = p ++ [y] := by
  rcases List.eq_nil_or_concat l with rfl | ⟨p, y, rfl⟩
  · exact .inl rfl
  · exact .inr ⟨p, y, by simp⟩
end Go.Proofs.Ytljdenmmlkjapaa.P

namespace Go.Proofs.Ytljdenmmlkjapaa.P
open Go.RowKit Go.Proofs.YtljdenmmlkjapaaW.PrintWords Go.Proofs.YtljdenmmlkjapaaW.PrintLast
set_option linter.unusedVariables false
set_option linter.unusedSimpArgs false
theorem rdOwner_mid (pre : List S26) (x : S26) (suf : List S26) : rd_T26 (pre ++ x :: suf) (pre.length : Int) = x := getD_mid _ pre x suf
theorem rdLOwner_mid (pre : List S23) (x : S23) (suf : List S23) : rd_T23 (pre ++ x :: suf) (pre.length : Int) = x := getD_mid _ pre x suf
instance decOwner : DecidableEq S26 := fun a b => decidable_of_iff (a.f0 = b.f0 ∧ a.f1 = b.f1 ∧ a.f2 = b.f2) (by cases a; cases b; simp)
def cvOwner (x : S23) : S26 := ⟨x.f0, x.f1, x.f2⟩
theorem toOwnerS_l (suf : List S23) : ∀ (pre : List S23) (k : Nat), suf.length < k → (pre.length : Int) + suf.length ≤ 1099511627776 →
    laws_toOwnerS.l0 k (pre ++ suf) (pre.map cvOwner ++ List.replicate suf.length z26) (pre.length : Int) = some ((pre ++ suf).map cvOwner) := by
  induction suf with
  | nil =>
    intro pre k hk hb
    obtain ⟨k, rfl⟩ : ∃ m, k = m + 1 := ⟨k - 1, by omega⟩
    simp only [laws_toOwnerS.l0]
    rw [if_neg (by simp)]
    simp
  | cons x suf ih =>
    intro pre k hk hb
    simp only [List.length_cons] at hk hb
    obtain ⟨k, rfl⟩ : ∃ m, k = m + 1 := ⟨k - 1, by omega⟩
    have h := ih (pre ++ [x]) k (by omega) (by simp; omega)
    simp only [laws_toOwnerS.l0]
    rw [if_pos (by simp; omega), if_pos (by omega), rdLOwner_mid]
    simp only [laws_toOwner.f, Option.bind_some]
    rw [if_pos (by simp; omega), wrap_id (by omega) (by omega)]
    have e : (pre.map cvOwner ++ List.replicate (x :: suf).length z26).set ((pre.length : Int)).toNat (⟨x.f0, x.f1, x.f2⟩ : S26) = (pre ++ [x]).map cvOwner ++ List.replicate suf.length z26 := by
      simp [List.replicate_succ, cvOwner]
    rw [e]
    simpa using h
theorem toOwnerS_ev (l : List S23) (hl : l.length ≤ 1048576) : Ev (fun k => laws_toOwnerS.f k l) (l.map cvOwner) := by
  refine ⟨l.length + 1, fun k hk => ?_⟩
  have h := toOwnerS_l l [] k (by omega) (by simp; omega)
  show laws_toOwnerS.f k l = _
  unfold laws_toOwnerS.f
  rw [if_pos (by omega), if_pos (by simp; omega)]
  simpa using h
theorem eqOwner_is (a b : S26) : laws_eqOwner.f a.f0 a.f1 a.f2 b.f0 b.f1 b.f2 = some (decide (a = b)) := by
  cases a; cases b
  unfold laws_eqOwner.f
  simp only [S26.mk.injEq]
  split
  · split
    · split
      · rename_i h1 h2 h3; simp [h1, h2, h3]
      · rename_i h1 h2 h3; simp [h3]
    · rename_i h1 h2; simp [h2]
  · rename_i h1; simp [h1]
theorem eqOwnerS_l (s : List S26) : ∀ (t pre qre : List S26) (k : Nat), s.length < k → pre.length = qre.length → s.length = t.length → (pre.length : Int) + s.length ≤ 1099511627776 →
    laws_eqOwnerS.l0 k (pre ++ s) (qre ++ t) (pre.length : Int) = some (decide (s = t)) := by
  induction s with
  | nil =>
    intro t pre qre k hk hq hl hb
    obtain ⟨k, rfl⟩ : ∃ m, k = m + 1 := ⟨k - 1, by omega⟩
    obtain rfl : t = [] := List.eq_nil_of_length_eq_zero (by simpa using hl.symm)
    simp only [laws_eqOwnerS.l0]
    rw [if_neg (by simp)]
    simp
  | cons x s ih =>
    intro t pre qre k hk hq hl hb
    cases t with
    | nil => simp at hl
    | cons y t =>
      simp only [List.length_cons] at hk hl hb
      obtain ⟨k, rfl⟩ : ∃ m, k = m + 1 := ⟨k - 1, by omega⟩
      have h := ih t (pre ++ [x]) (qre ++ [y]) k (by omega) (by simp; omega) (by omega) (by simp; omega)
      have hy : rd_T26 (qre ++ y :: t) (pre.length : Int) = y := by rw [hq]; exact rdOwner_mid qre y t
      simp only [laws_eqOwnerS.l0]
      rw [if_pos (by simp; omega), if_pos (by omega), if_pos (by simp; omega), rdOwner_mid, hy, eqOwner_is, wrap_id (by omega) (by omega)]
      simp only [Option.bind_some]
      by_cases e : x = y
      · subst e
        rw [if_pos (by simp)]
        simpa using h
      · rw [if_neg (by simpa using e)]
        simp [e]
theorem eqOwnerS_ev (s t : List S26) (hs : s.length ≤ 1099511627776) : Ev (fun k => laws_eqOwnerS.f k s t) (decide (s = t)) := by
  refine ⟨s.length + 1, fun k hk => ?_⟩
  show laws_eqOwnerS.f k s t = _
  unfold laws_eqOwnerS.f
  by_cases hl : s.length = t.length
  · rw [if_pos (by omega)]
    exact eqOwnerS_l s t [] [] k (by omega) rfl hl (by simp; omega)
  · rw [if_neg (by omega)]
    have : s ≠ t := fun e => hl (by rw [e])
    simp [this]
theorem szOwnerS_is (l : List S23) (hl : l.length ≤ maxLen) (a : Int) (h0 : 0 ≤ a) (h1 : a ≤ 1048576) : laws_szOwnerS.f l a = some (if a - l.length < 0 then -1 else a - l.length) := by
  have hm : l.length ≤ 9223372036854775807 := by unfold maxLen at hl; exact hl
  unfold laws_szOwnerS.f
  rw [wrap_id (by omega) (by omega)]
  split <;> rfl
end Go.Proofs.Ytljdenmmlkjapaa.P

namespace Go.Proofs.Ytljdenmmlkjapaa.P
open Go.RowKit Go.Proofs.YtljdenmmlkjapaaW.PrintWords Go.Proofs.YtljdenmmlkjapaaW.PrintLast
set_option linter.unusedVariables false
set_option linter.unusedSimpArgs false
def isOwn (x : S26) : Bool := decide (1 ≤ x.f0 ∧ x.f0 ≤ 1000 ∧ 1 ≤ x.f1 ∧ x.f1 ≤ 50 ∧ 0 ≤ x.f2 ∧ x.f2 ≤ 255)
def goodOwnF : Option S26 → List S26 → Bool
  | _, [] => true
  | none, x :: r => isOwn x && goodOwnF (some x) r
  | some y, x :: r => isOwn x && (decide (y.f0 < x.f0) && goodOwnF (some x) r)
def goodOwn (l : List S26) : Bool := goodOwnF none l && decide (1 ≤ l.length ∧ l.length ≤ 10)
theorem specIn (a b c : Int) : spec_l1In.f a b c = some (decide (b ≤ a ∧ a ≤ c)) := by
  unfold spec_l1In.f
  by_cases h : b ≤ a <;> simp [h]
theorem specOwner (x : S26) : spec_l11Owner.f x.f0 x.f1 x.f2 = some (isOwn x) := by
  unfold spec_l11Owner.f isOwn
  simp only [specIn, Option.bind_some]
  by_cases h : 1 ≤ x.f0 ∧ x.f0 ≤ 1000
  · rw [if_pos (by simp [h])]
    by_cases h2 : 1 ≤ x.f1 ∧ x.f1 ≤ 50
    · rw [if_pos (by simp [h2])]
      simp [h, h2]
    · rw [if_neg (by simpa using h2)]
      simp only [Option.some.injEq, Bool.false_eq, decide_eq_false_iff_not]
      exact fun h3 => h2 ⟨h3.2.2.1, h3.2.2.2.1⟩
  · rw [if_neg (by simpa using h)]
    simp only [Option.some.injEq, Bool.false_eq, decide_eq_false_iff_not]
    exact fun h3 => h ⟨h3.1, h3.2.1⟩
theorem specGoodOwners_l (suf : List S26) : ∀ (pre : List S26) (k : Nat), suf.length < k → (pre.length : Int) + suf.length ≤ 1099511627776 →
    spec_GoodOwners.l0 k (pre ++ suf) (pre ++ suf) ((pre ++ suf).length : Int) (pre.length : Int) = some (goodOwnF pre.getLast? suf && decide (1 ≤ (pre ++ suf).length ∧ (pre ++ suf).length ≤ 10)) := by
  induction suf with
  | nil =>
    intro pre k hk hb
    obtain ⟨k, rfl⟩ : ∃ m, k = m + 1 := ⟨k - 1, by omega⟩
    simp only [spec_GoodOwners.l0]
    rw [if_neg (by simp), specIn]
    simp only [Option.bind_some, Option.some.injEq]
    have : goodOwnF pre.getLast? [] = true := by cases pre.getLast? <;> rfl
    rw [this, Bool.true_and]
    congr 1
    simp only [eq_iff_iff]
    omega
  | cons x suf ih =>
    intro pre k hk hb
    simp only [List.length_cons] at hk hb
    obtain ⟨k, rfl⟩ : ∃ m, k = m + 1 := ⟨k - 1, by omega⟩
    have h := ih (pre ++ [x]) k (by omega) (by simp <;> omega)
    rw [← app_one, len_one, List.getLast?_concat] at h
    simp only [spec_GoodOwners.l0]
    rw [if_pos (by simp <;> omega), if_pos (by omega), if_pos (by simp <;> omega), rdOwner_mid, specOwner, wrap_id (x := (pre.length : Int) + 1) (by omega) (by omega)]
    simp only [Option.bind_some]
    rcases nil_or_snoc pre with rfl | ⟨pre', y, rfl⟩
    · cases hx : isOwn x with
      | true =>
        rw [if_pos rfl, if_neg (by simp), h]
        simp [goodOwnF, hx]
      | false =>
        rw [if_neg (by decide)]
        simp [goodOwnF, hx]
    · have hy : rd_T26 ((pre' ++ [y]) ++ x :: suf) (wrap64 (((pre' ++ [y]).length : Int) - 1)) = y := by
        rw [wrap_id (by simp <;> omega) (by simp at hb ⊢ <;> omega)]
        rw [show ((pre' ++ [y]) ++ x :: suf) = pre' ++ y :: (x :: suf) by simp, show (((pre' ++ [y]).length : Int) - 1) = (pre'.length : Int) by simp]
        exact rdOwner_mid _ _ _
      cases hx : isOwn x with
      | true =>
        rw [if_pos rfl, if_pos (by simp <;> omega), if_pos (by rw [wrap_id (by simp <;> omega) (by simp at hb ⊢ <;> omega)]; simp), if_pos (by rw [wrap_id (by simp <;> omega) (by simp at hb ⊢ <;> omega)]; simp; omega), hy]
        by_cases hlt : y.f0 < x.f0
        · rw [if_neg (by omega), h]
          simp [goodOwnF, hx, hlt]
        · rw [if_pos (by omega)]
          simp [goodOwnF, hx, hlt]
      | false =>
        rw [if_neg (by decide)]
        simp [goodOwnF, hx]
theorem specGoodOwners_ev (l : List S26) (hl : l.length ≤ 1048576) : Ev (fun k => spec_GoodOwners.f k l) (goodOwn l) := by
  refine ⟨l.length + 1, fun k hk => ?_⟩
  show spec_GoodOwners.f k l = _
  unfold spec_GoodOwners.f
  exact specGoodOwners_l l [] k (by omega) (by simp <;> omega)
theorem goodOwners_same : ∀ k a b c d, impl_GoodOwners.l0 k a b c d = spec_GoodOwners.l0 k a b c d
  | 0, _, _, _, _ => rfl
  | k + 1, a, b, c, d => by
    have e : impl_isOwner.f = spec_l11Owner.f := rfl
    have e2 : impl_in.f = spec_l1In.f := rfl
    simp only [impl_GoodOwners.l0, spec_GoodOwners.l0, goodOwners_same k, e, e2]
theorem implGoodOwners_ev (l : List S26) (hl : l.length ≤ 1048576) : Ev (fun k => impl_GoodOwners.f k l) (goodOwn l) := by
  refine Ev.congr (fun k => ?_) (specGoodOwners_ev l hl)
  exact goodOwners_same k _ _ _ _
theorem goodOwn_len {l : List S26} (h : goodOwn l = true) : 1 ≤ l.length ∧ l.length ≤ 10 := by
  unfold goodOwn at h
  simp only [Bool.and_eq_true, decide_eq_true_eq] at h
  exact h.2
theorem goodOwnF_all : ∀ (l : List S26) (o : Option S26), goodOwnF o l = true → ∀ x ∈ l, isOwn x = true
  | [], _, _, x, hx => by simp at hx
  | y :: r, o, h, x, hx => by
    have h2 : isOwn y = true ∧ goodOwnF (some y) r = true := by
      cases o with
      | none => simpa [goodOwnF] using h
      | some z =>
        simp only [goodOwnF, Bool.and_eq_true] at h
        exact ⟨h.1, h.2.2⟩
    rcases List.mem_cons.1 hx with rfl | hx
    · exact h2.1
    · exact goodOwnF_all r _ h2.2 x hx
theorem goodOwn_all {l : List S26} (h : goodOwn l = true) : ∀ x ∈ l, isOwn x = true := by
  unfold goodOwn at h
  simp only [Bool.and_eq_true] at h
  exact goodOwnF_all l none h.1
theorem isOwn_iff (x : S26) : isOwn x = true ↔ (1 ≤ x.f0 ∧ x.f0 ≤ 1000 ∧ 1 ≤ x.f1 ∧ x.f1 ≤ 50 ∧ 0 ≤ x.f2 ∧ x.f2 ≤ 255) := by unfold isOwn; simp only [decide_eq_true_eq]
end Go.Proofs.Ytljdenmmlkjapaa.P

namespace Go.Proofs.Ytljdenmmlkjapaa.P
open Go.RowKit Go.Proofs.YtljdenmmlkjapaaW.PrintWords Go.Proofs.YtljdenmmlkjapaaW.PrintLast
set_option linter.unusedVariables false
set_option linter.unusedSimpArgs false
def fstSame (nm : Int) : List S26 → Int → Option Int
  | [], _ => none
  | x :: r, j => if x.f1 = nm then some j else fstSame nm r (j + 1)
def clashM : List S26 → Int → Option (Int × Int)
  | [], _ => none
  | x :: r, i => match fstSame x.f1 r (i + 1) with
    | some j => some (i, j)
    | none => clashM r (i + 1)
def clash2 : Option (Int × Int) → Int × Int
  | none => (-1, -1)
  | some p => p
def clash3 : Option (Int × Int) → Int × Int × Bool
  | none => (0, 0, false)
  | some p => (p.1, p.2, true)
theorem specClash_l1 (i a nm c : Int) (r : Int × Int) (suf : List S26) : ∀ (pre : List S26), (pre.length : Int) + suf.length ≤ 1099511627776 →
    (match fstSame nm suf (pre.length : Int) with | some j => r = (i, j) | none => Ev (fun k => spec_l11Clash.l0 k (pre ++ suf) (pre ++ suf) ((pre ++ suf).length : Int) (wrap64 (i + 1))) r) →
    Ev (fun k => spec_l11Clash.l1 k (pre ++ suf) i (pre.length : Int) (pre ++ suf) ((pre ++ suf).length : Int) i a nm c) r := by
  induction suf with
  | nil =>
    intro pre hb h
    refine Ev.succ ?_
    simp only [spec_l11Clash.l1]
    simp only [if_neg (show ¬ (pre.length : Int) < ((pre ++ ([] : List S26)).length : Int) by simp)]
    exact h
  | cons x suf ih =>
    intro pre hb h
    simp only [List.length_cons] at hb
    refine Ev.succ ?_
    simp only [spec_l11Clash.l1]
    simp only [if_pos (show (pre.length : Int) < ((pre ++ x :: suf).length : Int) by simp <;> omega), if_pos (show (0 : Int) ≤ (pre.length : Int) by omega), rdOwner_mid, wrap_id (x := (pre.length : Int) + 1) (by omega) (by omega)]
    by_cases hx : x.f1 = nm
    · simp only [if_pos hx]
      simp only [fstSame, if_pos hx] at h
      exact Ev.some_ h.symm
    · simp only [if_neg hx]
      simp only [fstSame, if_neg hx] at h
      have := ih (pre ++ [x]) (by simp <;> omega) (by rw [← app_one, len_one]; exact h)
      rw [← app_one, len_one] at this
      exact this
theorem specClash_l0 (suf : List S26) : ∀ (pre : List S26), (pre.length : Int) + suf.length ≤ 1099511627776 →
    Ev (fun k => spec_l11Clash.l0 k (pre ++ suf) (pre ++ suf) ((pre ++ suf).length : Int) (pre.length : Int)) (clash2 (clashM suf (pre.length : Int))) := by
  induction suf with
  | nil =>
    intro pre hb
    refine Ev.succ ?_
    simp only [spec_l11Clash.l0]
    simp only [if_neg (show ¬ (pre.length : Int) < ((pre ++ ([] : List S26)).length : Int) by simp)]
    exact Ev.now _
  | cons x suf ih =>
    intro pre hb
    simp only [List.length_cons] at hb
    refine Ev.succ ?_
    simp only [spec_l11Clash.l0]
    have c1 : (pre.length : Int) < ((pre ++ x :: suf).length : Int) := by simp <;> omega
    simp only [if_pos c1, if_pos (show (0 : Int) ≤ (pre.length : Int) by omega), rdOwner_mid, wrap_id (x := (pre.length : Int) + 1) (by omega) (by omega)]
    have h := ih (pre ++ [x]) (by simp <;> omega)
    rw [← app_one, len_one] at h
    have h2 := specClash_l1 (pre.length : Int) x.f0 x.f1 x.f2 (clash2 (clashM (x :: suf) (pre.length : Int))) suf (pre ++ [x]) (by simp <;> omega)
    rw [← app_one, len_one] at h2
    refine h2 ?_
    cases hf : fstSame x.f1 suf ((pre.length : Int) + 1) with
    | some j => simp [clashM, hf, clash2]
    | none =>
      simp only [wrap_id (x := (pre.length : Int) + 1) (by omega) (by omega)]
      simpa [clashM, hf] using h
theorem specClash_ev (l : List S26) (hl : l.length ≤ 1048576) : Ev (fun k => spec_l11Clash.f k l) (clash2 (clashM l 0)) := by
  unfold spec_l11Clash.f
  exact specClash_l0 l [] (by simp <;> omega)
theorem implClash_l1 (i a nm c : Int) (r : Int × Int × Bool) (suf : List S26) : ∀ (pre : List S26), (pre.length : Int) + suf.length ≤ 1099511627776 →
    (match fstSame nm suf (pre.length : Int) with | some j => r = (i, j, true) | none => Ev (fun k => impl_clash.l0 k (pre ++ suf) (pre ++ suf) ((pre ++ suf).length : Int) (wrap64 (i + 1))) r) →
    Ev (fun k => impl_clash.l1 k (pre ++ suf) i (pre.length : Int) (pre ++ suf) ((pre ++ suf).length : Int) i a nm c) r := by
  induction suf with
  | nil =>
    intro pre hb h
    refine Ev.succ ?_
    simp only [impl_clash.l1]
    simp only [if_neg (show ¬ (pre.length : Int) < ((pre ++ ([] : List S26)).length : Int) by simp)]
    exact h
  | cons x suf ih =>
    intro pre hb h
    simp only [List.length_cons] at hb
    refine Ev.succ ?_
    simp only [impl_clash.l1]
    simp only [if_pos (show (pre.length : Int) < ((pre ++ x :: suf).length : Int) by simp <;> omega), if_pos (show (0 : Int) ≤ (pre.length : Int) by omega), rdOwner_mid, wrap_id (x := (pre.length : Int) + 1) (by omega) (by omega)]
    by_cases hx : x.f1 = nm
    · simp only [if_pos hx.symm]
      simp only [fstSame, if_pos hx] at h
      exact Ev.some_ h.symm
    · simp only [if_neg (fun e => hx (Eq.symm e) : ¬ nm = x.f1)]
      simp only [fstSame, if_neg hx] at h
      have := ih (pre ++ [x]) (by simp <;> omega) (by rw [← app_one, len_one]; exact h)
      rw [← app_one, len_one] at this
      exact this
theorem implClash_l0 (suf : List S26) : ∀ (pre : List S26), (pre.length : Int) + suf.length ≤ 1099511627776 →
    Ev (fun k => impl_clash.l0 k (pre ++ suf) (pre ++ suf) ((pre ++ suf).length : Int) (pre.length : Int)) (clash3 (clashM suf (pre.length : Int))) := by
  induction suf with
  | nil =>
    intro pre hb
    refine Ev.succ ?_
    simp only [impl_clash.l0]
    simp only [if_neg (show ¬ (pre.length : Int) < ((pre ++ ([] : List S26)).length : Int) by simp)]
    exact Ev.now _
  | cons x suf ih =>
    intro pre hb
    simp only [List.length_cons] at hb
    refine Ev.succ ?_
    simp only [impl_clash.l0]
    have c1 : (pre.length : Int) < ((pre ++ x :: suf).length : Int) := by simp <;> omega
    simp only [if_pos c1, if_pos (show (0 : Int) ≤ (pre.length : Int) by omega), rdOwner_mid, wrap_id (x := (pre.length : Int) + 1) (by omega) (by omega)]
    have h := ih (pre ++ [x]) (by simp <;> omega)
    rw [← app_one, len_one] at h
    have h2 := implClash_l1 (pre.length : Int) x.f0 x.f1 x.f2 (clash3 (clashM (x :: suf) (pre.length : Int))) suf (pre ++ [x]) (by simp <;> omega)
    rw [← app_one, len_one] at h2
    refine h2 ?_
    cases hf : fstSame x.f1 suf ((pre.length : Int) + 1) with
    | some j => simp [clashM, hf, clash3]
    | none =>
      simp only [wrap_id (x := (pre.length : Int) + 1) (by omega) (by omega)]
      simpa [clashM, hf] using h
theorem implClash_ev (l : List S26) (hl : l.length ≤ 1048576) : Ev (fun k => impl_clash.f k l) (clash3 (clashM l 0)) := by
  unfold impl_clash.f
  exact implClash_l0 l [] (by simp <;> omega)
/-- Where the two lie, and what is said of them. -/
theorem fstSame_some (nm : Int) : ∀ (l : List S26) (b j : Int), fstSame nm l b = some j → ∃ n : Nat, j = b + n ∧ n < l.length ∧ (l.getD n z26).f1 = nm
  | [], _, _, h => by simp [fstSame] at h
  | x :: r, b, j, h => by
    by_cases hx : x.f1 = nm
    · simp only [fstSame, if_pos hx, Option.some.injEq] at h
      exact ⟨0, by omega, by simp, by simpa using hx⟩
    · simp only [fstSame, if_neg hx] at h
      obtain ⟨n, h1, h2, h3⟩ := fstSame_some nm r (b + 1) j h
      exact ⟨n + 1, by omega, by simpa using h2, by simpa using h3⟩
theorem clashM_some : ∀ (l : List S26) (b i j : Int), clashM l b = some (i, j) → ∃ n m : Nat, i = b + n ∧ j = b + m ∧ n < m ∧ m < l.length ∧ (l.getD n z26).f1 = (l.getD m z26).f1
  | [], _, _, _, h => by simp [clashM] at h
  | x :: r, b, i, j, h => by
    cases hf : fstSame x.f1 r (b + 1) with
    | some q =>
      simp only [clashM, hf, Option.some.injEq, Prod.mk.injEq] at h
      obtain ⟨n, h1, h2, h3⟩ := fstSame_some _ _ _ _ hf
      exact ⟨0, n + 1, by omega, by omega, by omega, by simpa using h2, by simpa using h3.symm⟩
    | none =>
      simp only [clashM, hf] at h
      obtain ⟨n, m, h1, h2, h3, h4, h5⟩ := clashM_some r (b + 1) i j h
      exact ⟨n + 1, m + 1, by omega, by omega, by omega, by simpa using h4, by simpa using h5⟩
end Go.Proofs.Ytljdenmmlkjapaa.P

namespace Go.Proofs.Ytljdenmmlkjapaa.P
open Go.RowKit Go.Proofs.YtljdenmmlkjapaaW.PrintWords Go.Proofs.YtljdenmmlkjapaaW.PrintLast
set_option linter.unusedVariables false
set_option linter.unusedSimpArgs false
def betterOf (a b : S26) : Bool := decide (a.f2 > b.f2) || (decide (a.f2 = b.f2) && decide (a.f0 > b.f0))
theorem specBetter (a b : S26) : spec_l11Better.f a.f0 a.f1 a.f2 b.f0 b.f1 b.f2 = some (betterOf a b) := by
  unfold spec_l11Better.f betterOf
  by_cases h : a.f2 > b.f2
  · rw [if_pos h]; simp [h]
  · rw [if_neg h]
    by_cases h2 : a.f2 = b.f2
    · rw [if_pos h2]; simp [h2]
    · rw [if_neg h2]; simp [h, h2]
theorem implBetter (a b : S26) : impl_hasBetter.f a.f0 a.f1 a.f2 b.f0 b.f1 b.f2 = some (betterOf a b) := specBetter a b
end Go.Proofs.Ytljdenmmlkjapaa.P

namespace Go.Proofs.Ytljdenmmlkjapaa.P
open Go.RowKit Go.Proofs.YtljdenmmlkjapaaW.PrintWords Go.Proofs.YtljdenmmlkjapaaW.PrintLast
set_option linter.unusedVariables false
set_option linter.unusedSimpArgs false
theorem erase_len_le {α : Type} [DecidableEq α] {x : α} : ∀ {M : List α}, x ∈ M → (M.erase x).length + 1 = M.length := by
  intro M h
  have := List.length_erase_of_mem h
  have h2 : 0 < M.length := List.length_pos_of_mem h
  omega
theorem nodup_le {α : Type} [DecidableEq α] : ∀ (L M : List α), L.Nodup → (∀ x ∈ L, x ∈ M) → L.length ≤ M.length
  | [], _, _, _ => Nat.zero_le _
  | x :: L, M, hn, hs => by
    have hx : x ∈ M := hs x (by simp)
    rw [List.nodup_cons] at hn
    have h := nodup_le L (M.erase x) hn.2 (fun y hy => by
      have : y ≠ x := fun e => hn.1 (e ▸ hy)
      exact (List.mem_erase_of_ne this).2 (hs y (by simp [hy])))
    have := erase_len_le hx
    simp only [List.length_cons]
    omega
end Go.Proofs.Ytljdenmmlkjapaa.P

namespace Go.Proofs.Ytljdenmmlkjapaa.P
open Go.RowKit Go.Proofs.YtljdenmmlkjapaaW.PrintWords Go.Proofs.YtljdenmmlkjapaaW.PrintLast
set_option linter.unusedVariables false
set_option linter.unusedSimpArgs false
def nx (a : Int) : Int := a % 50 + 1
def nxi : Nat → Int → Int
  | 0, a => a
  | n + 1, a => nxi n (nx a)
def hasName (l : List S26) (m : Int) : Bool := l.any (fun x => x.f1 == m)
def nfM : Nat → List S26 → Int → Int
  | 0, _, a => a
  | n + 1, l, a => if hasName l (nx a) = true then nfM n l (nx a) else nx a
def nextFreeM (l : List S26) (a : Int) : Int := nfM 50 l a
theorem nx_tmod {a : Int} (h0 : 0 ≤ a) (h1 : a ≤ 4294967296) : wrap64 (Int.tmod a 50 + 1) = nx a := by
  rw [Int.tmod_eq_emod_of_nonneg h0, wrap_id (by omega) (by omega)]
  rfl
theorem nx_range {a : Int} (h0 : 0 ≤ a) : 1 ≤ nx a ∧ nx a ≤ 50 := by unfold nx; omega
theorem nxi_range : ∀ (n : Nat) (a : Int), 1 ≤ a → a ≤ 50 → 1 ≤ nxi n a ∧ nxi n a ≤ 50
  | 0, a, h0, h1 => ⟨h0, h1⟩
  | n + 1, a, h0, h1 => nxi_range n (nx a) (nx_range (by omega)).1 (nx_range (by omega)).2
theorem nxi_is : ∀ (n : Nat) (a : Int), 1 ≤ a → a ≤ 50 → nxi n a = (a - 1 + n) % 50 + 1
  | 0, a, h0, h1 => by simp only [nxi]; omega
  | n + 1, a, h0, h1 => by
    simp only [nxi]
    rw [nxi_is n (nx a) (nx_range (by omega)).1 (nx_range (by omega)).2]
    unfold nx
    omega
def names (a : Int) (n : Nat) : List Int := (List.range n).map fun j => nxi (j + 1) a
theorem names_nodup {a : Int} (h0 : 1 ≤ a) (h1 : a ≤ 50) {n : Nat} (hn : n ≤ 50) : (names a n).Nodup := by
  unfold names
  rw [List.Nodup, List.pairwise_map]
  refine List.Pairwise.imp_of_mem ?_ List.nodup_range
  intro i j hi hj hne he
  rw [List.mem_range] at hi hj
  rw [nxi_is _ _ h0 h1, nxi_is _ _ h0 h1] at he
  omega
/-- Of eleven names that stand one behind the other one is free. -/
theorem some_free (l : List S26) (hl : l.length ≤ 10) {a : Int} (h0 : 1 ≤ a) (h1 : a ≤ 50) : ∃ n, n < 11 ∧ hasName l (nxi (n + 1) a) = false := by
  refine Classical.byContradiction fun hc => ?_
  have hall : ∀ n, n < 11 → hasName l (nxi (n + 1) a) = true := fun n hn => by
    cases h : hasName l (nxi (n + 1) a) with
    | true => rfl
    | false => exact absurd ⟨n, hn, h⟩ hc
  have h := nodup_le (names a 11) (l.map (fun x => x.f1)) (names_nodup h0 h1 (by omega)) (fun m hm => by
    unfold names at hm
    obtain ⟨j, hj, rfl⟩ := List.mem_map.1 hm
    rw [List.mem_range] at hj
    have := hall j hj
    unfold hasName at this
    obtain ⟨x, hx, he⟩ := List.any_eq_true.1 this
    exact List.mem_map.2 ⟨x, hx, by simpa using he⟩)
  unfold names at h
  simp only [List.length_map, List.length_range] at h
  omega
theorem nfM_ok (l : List S26) : ∀ (n : Nat) (a : Int), 1 ≤ a → a ≤ 50 → (∃ j, j < n ∧ hasName l (nxi (j + 1) a) = false) → hasName l (nfM n l a) = false ∧ 1 ≤ nfM n l a ∧ nfM n l a ≤ 50
  | 0, a, _, _, ⟨j, hj, _⟩ => absurd hj (Nat.not_lt_zero _)
  | n + 1, a, h0, h1, ⟨j, hj, hf⟩ => by
    have hr := nx_range (a := a) (by omega)
    cases hh : hasName l (nx a) with
    | false =>
      simp only [nfM, hh, Bool.false_eq_true, if_false]
      exact ⟨trivial, hr.1, hr.2⟩
    | true =>
      simp only [nfM, hh, if_true]
      cases j with
      | zero =>
        have hf : hasName l (nx a) = false := hf
        rw [hh] at hf; cases hf
      | succ j => exact nfM_ok l n (nx a) hr.1 hr.2 ⟨j, by omega, hf⟩
theorem specFree_l1 (m : Int) (r : Int) (suf : List S26) : ∀ (pre : List S26) (b : Bool), (pre.length : Int) + suf.length ≤ 1099511627776 →
    (if (b || suf.any (fun x => x.f1 == m)) = true then Ev (fun k => spec_l11Free.l0 k (pre ++ suf) m) r else r = m) →
    Ev (fun k => spec_l11Free.l1 k (pre ++ suf) m b (pre ++ suf) ((pre ++ suf).length : Int) (pre.length : Int)) r := by
  induction suf with
  | nil =>
    intro pre b hb h
    refine Ev.succ ?_
    simp only [spec_l11Free.l1]
    simp only [if_neg (show ¬ (pre.length : Int) < ((pre ++ ([] : List S26)).length : Int) by simp)]
    cases b with
    | true =>
      simp only [if_true]
      simpa using h
    | false =>
      simp only [Bool.false_eq_true, if_false]
      have h : r = m := by simpa using h
      exact Ev.some_ h.symm
  | cons x suf ih =>
    intro pre b hb h
    simp only [List.length_cons] at hb
    refine Ev.succ ?_
    simp only [spec_l11Free.l1]
    have c1 : (pre.length : Int) < ((pre ++ x :: suf).length : Int) := by simp <;> omega
    have c0 : (0 : Int) ≤ (pre.length : Int) := by omega
    simp only [if_pos c1, if_pos c0, rdOwner_mid, wrap_id (x := (pre.length : Int) + 1) (by omega) (by omega)]
    have h2 := ih (pre ++ [x])
    rw [← app_one, len_one] at h2
    cases b with
    | true =>
      simp only [if_true]
      exact h2 true (by omega) (by simpa using h)
    | false =>
      simp only [Bool.false_eq_true, if_false]
      refine h2 (x.f1 == m) (by omega) ?_
      simpa only [List.any_cons, Bool.false_or] using h
theorem specFree_l0 (l : List S26) (hl : l.length ≤ 1048576) : ∀ (n : Nat) (a : Int), 1 ≤ a → a ≤ 50 → (∃ j, j < n ∧ hasName l (nxi (j + 1) a) = false) → Ev (fun k => spec_l11Free.l0 k l a) (nfM n l a)
  | 0, a, _, _, ⟨j, hj, _⟩ => absurd hj (Nat.not_lt_zero _)
  | n + 1, a, h0, h1, ⟨j, hj, hf⟩ => by
    have hr := nx_range (a := a) (by omega)
    refine Ev.succ ?_
    simp only [spec_l11Free.l0]
    rw [nx_tmod (by omega) (by omega)]
    refine specFree_l1 (nx a) _ l [] false (by simp <;> omega) ?_
    cases hh : hasName l (nx a) with
    | false =>
      have hh2 : l.any (fun x => x.f1 == nx a) = false := hh
      simp only [hh2, Bool.or_false, Bool.false_eq_true, if_false]
      simp only [nfM, hh, Bool.false_eq_true, if_false]
    | true =>
      have hh2 : l.any (fun x => x.f1 == nx a) = true := hh
      simp only [hh2, Bool.false_or, if_true, nfM, hh, List.nil_append]
      cases j with
      | zero =>
        have hf : hasName l (nx a) = false := hf
        rw [hh] at hf; cases hf
      | succ j => exact specFree_l0 l hl n (nx a) hr.1 hr.2 ⟨j, by omega, hf⟩
theorem implFree_l0 (l : List S26) : ∀ (n : Nat) (a : Int), 1 ≤ a → a ≤ 50 → (∃ j, j < n ∧ hasName l (nxi (j + 1) a) = false) → Ev (fun k => impl_nextFree.l0 k l a) (nfM n l a)
  | 0, a, _, _, ⟨j, hj, _⟩ => absurd hj (Nat.not_lt_zero _)
  | n + 1, a, h0, h1, ⟨j, hj, hf⟩ => by
    have hr := nx_range (a := a) (by omega)
    refine Ev.succ ?_
    simp only [impl_nextFree.l0]
    rw [nx_tmod (by omega) (by omega)]
    cases hh : hasName l (nx a) with
    | false =>
      have hh2 : l.any (fun x => x.f1 == nx a) = false := hh
      simp only [hh2, Bool.false_eq_true, if_false, nfM, hh]
      exact Ev.now _
    | true =>
      have hh2 : l.any (fun x => x.f1 == nx a) = true := hh
      simp only [hh2, if_true, nfM, hh]
      cases j with
      | zero =>
        have hf : hasName l (nx a) = false := hf
        rw [hh] at hf; cases hf
      | succ j => exact implFree_l0 l n (nx a) hr.1 hr.2 ⟨j, by omega, hf⟩
theorem free_within (l : List S26) (hl : l.length ≤ 10) {a : Int} (h0 : 1 ≤ a) (h1 : a ≤ 50) : ∃ j, j < 50 ∧ hasName l (nxi (j + 1) a) = false := by
  obtain ⟨n, hn, h⟩ := some_free l hl h0 h1
  exact ⟨n, by omega, h⟩
theorem specFree_ev (l : List S26) (hl : l.length ≤ 10) (a : Int) (h0 : 1 ≤ a) (h1 : a ≤ 50) : Ev (fun k => spec_l11Free.f k l a) (nextFreeM l a) := by
  unfold spec_l11Free.f
  exact specFree_l0 l (by omega) 50 a h0 h1 (free_within l hl h0 h1)
theorem implFree_ev (l : List S26) (hl : l.length ≤ 10) (a : Int) (h0 : 1 ≤ a) (h1 : a ≤ 50) : Ev (fun k => impl_nextFree.f k l a) (nextFreeM l a) := by
  unfold impl_nextFree.f
  exact implFree_l0 l 50 a h0 h1 (free_within l hl h0 h1)
end Go.Proofs.Ytljdenmmlkjapaa.P

namespace Go.Proofs.Ytljdenmmlkjapaa.P
open Go.RowKit Go.Proofs.YtljdenmmlkjapaaW.PrintWords Go.Proofs.YtljdenmmlkjapaaW.PrintLast
set_option linter.unusedVariables false
set_option linter.unusedSimpArgs false
def loserOf (l : List S26) (p : Int × Int) : Int := if betterOf (rd_T26 l p.1) (rd_T26 l p.2) = true then p.2 else p.1
def renamed (l : List S26) (w : Int) : List S26 := l.set w.toNat ⟨(rd_T26 l w).f0, nextFreeM l (rd_T26 l w).f1, (rd_T26 l w).f2⟩
def giveM (l : List S26) : Option (List S26 × Int) :=
  match clashM l 0 with
  | none => none
  | some p => some (renamed l (loserOf l p), (rd_T26 l (loserOf l p)).f0)
theorem rd_mem (l : List S26) (w : Int) (h0 : 0 ≤ w) (h1 : w < (l.length : Int)) : rd_T26 l w ∈ l := by
  unfold rd_T26
  rw [List.getD_eq_getElem?_getD, List.getElem?_eq_getElem (by omega)]
  exact List.getElem_mem _
theorem rd_set (l : List S26) (w : Int) (x : S26) (h0 : 0 ≤ w) (h1 : w < (l.length : Int)) : rd_T26 (l.set w.toNat x) w = x := by
  unfold rd_T26
  rw [List.getD_eq_getElem?_getD, List.getElem?_set_self (by omega)]
  rfl
theorem specGive_ev (l : List S26) (hg : goodOwn l = true) : Ev (fun k => spec_l11Give.f k l) (match giveM l with | none => (0, l) | some p => (p.2, p.1)) := by
  have hl := (goodOwn_len hg).2
  unfold spec_l11Give.f giveM
  refine Ev.bind (specClash_ev l (by omega)) ?_
  cases hc : clashM l 0 with
  | none =>
    rw [show clash2 none = (-1, -1) from rfl]
    simp only [if_pos (show (-1 : Int) < 0 by decide)]
    exact Ev.now _
  | some p =>
    obtain ⟨i, j⟩ := p
    obtain ⟨n, m, h1, h2, h3, h4, _⟩ := clashM_some l 0 i j hc
    have hi : isOwn (rd_T26 l i) = true := goodOwn_all hg _ (rd_mem l i (by omega) (by omega))
    have hj : isOwn (rd_T26 l j) = true := goodOwn_all hg _ (rd_mem l j (by omega) (by omega))
    rw [isOwn_iff] at hi hj
    rw [show clash2 (some (i, j)) = (i, j) from rfl]
    simp only [if_neg (show ¬ i < 0 by omega), if_pos (show 0 ≤ i by omega), if_pos (show i < (l.length : Int) by omega), if_pos (show 0 ≤ j by omega), if_pos (show j < (l.length : Int) by omega), specBetter, Option.bind_some]
    cases hb : betterOf (rd_T26 l i) (rd_T26 l j) with
    | true =>
      simp only [if_true]
      refine Ev.bind (specFree_ev l hl _ hj.2.2.1 hj.2.2.2.1) ?_
      refine Ev.some_ ?_
      rw [rd_set l j _ (by omega) (by omega)]
      simp only [loserOf, hb, if_true, renamed]
    | false =>
      simp only [Bool.false_eq_true, if_false]
      refine Ev.bind (specFree_ev l hl _ hi.2.2.1 hi.2.2.2.1) ?_
      refine Ev.some_ ?_
      rw [rd_set l i _ (by omega) (by omega)]
      simp only [loserOf, hb, Bool.false_eq_true, if_false, renamed]
def giveWay (l : List S26) : List S26 × Int × Bool :=
  if goodOwn l = true then (match giveM l with | none => ([], 0, false) | some p => (p.1, p.2, true)) else ([], 0, false)
theorem giveM_id {l y : List S26} {id : Int} (hg : goodOwn l = true) (h : giveM l = some (y, id)) : 1 ≤ id := by
  unfold giveM at h
  cases hc : clashM l 0 with
  | none => rw [hc] at h; cases h
  | some p =>
    obtain ⟨i, j⟩ := p
    rw [hc] at h
    simp only [Option.some.injEq, Prod.mk.injEq] at h
    obtain ⟨n, m, h1, h2, h3, h4, _⟩ := clashM_some l 0 i j hc
    have hi : isOwn (rd_T26 l i) = true := goodOwn_all hg _ (rd_mem l i (by omega) (by omega))
    have hj : isOwn (rd_T26 l j) = true := goodOwn_all hg _ (rd_mem l j (by omega) (by omega))
    rw [isOwn_iff] at hi hj
    rw [← h.2]
    unfold loserOf
    split
    · exact hj.1
    · exact hi.1
theorem specGiveWay_ev (l : List S26) (hl : l.length ≤ 1048576) : Ev (fun k => spec_GiveWay.f k l) (giveWay l) := by
  unfold spec_GiveWay.f
  refine Ev.bind (specGoodOwners_ev l hl) ?_
  unfold giveWay
  cases hg : goodOwn l with
  | false =>
    simp only [Bool.false_eq_true, if_false]
    exact Ev.now _
  | true =>
    simp only [if_true, Option.bind_some, List.nil_append, List.length_nil, Nat.zero_add]
    simp only [if_pos (show l.length < 5864062014805 by omega)]
    refine Ev.bind (specGive_ev l hg) ?_
    cases hm : giveM l with
    | none =>
      simp only [if_true]
      exact Ev.now _
    | some p =>
      obtain ⟨y, id⟩ := p
      have := giveM_id hg hm
      simp only [if_neg (show ¬ id = 0 by omega)]
      exact Ev.now _
theorem implGiveWay_ev (l : List S26) (hl : l.length ≤ 1048576) : Ev (fun k => impl_GiveWay.f k l) (giveWay l) := by
  unfold impl_GiveWay.f
  refine Ev.bind (implGoodOwners_ev l hl) ?_
  unfold giveWay
  cases hg : goodOwn l with
  | false =>
    simp only [Bool.false_eq_true, if_false]
    exact Ev.now _
  | true =>
    simp only [if_true]
    refine Ev.bind (implClash_ev l hl) ?_
    unfold giveM
    cases hc : clashM l 0 with
    | none =>
      rw [show clash3 none = (0, 0, false) from rfl]
      simp only [Bool.false_eq_true, if_false]
      exact Ev.now _
    | some p =>
      obtain ⟨i, j⟩ := p
      obtain ⟨n, m, h1, h2, h3, h4, _⟩ := clashM_some l 0 i j hc
      have hl10 := (goodOwn_len hg).2
      have hi : isOwn (rd_T26 l i) = true := goodOwn_all hg _ (rd_mem l i (by omega) (by omega))
      have hj : isOwn (rd_T26 l j) = true := goodOwn_all hg _ (rd_mem l j (by omega) (by omega))
      rw [isOwn_iff] at hi hj
      rw [show clash3 (some (i, j)) = (i, j, true) from rfl]
      have hcl : slices_Clone_Owner.f l = some l := by unfold slices_Clone_Owner.f; rw [if_pos (by omega)]
      simp only [if_true, if_pos (show 0 ≤ i by omega), if_pos (show i < (l.length : Int) by omega), if_pos (show 0 ≤ j by omega), if_pos (show j < (l.length : Int) by omega), implBetter, Option.bind_some, hcl]
      cases hb : betterOf (rd_T26 l i) (rd_T26 l j) with
      | true =>
        simp only [if_true]
        refine Ev.bind (implFree_ev l hl10 _ hj.2.2.1 hj.2.2.2.1) ?_
        refine Ev.some_ ?_
        simp only [loserOf, hb, if_true, renamed]
      | false =>
        simp only [Bool.false_eq_true, if_false]
        refine Ev.bind (implFree_ev l hl10 _ hi.2.2.1 hi.2.2.2.1) ?_
        refine Ev.some_ ?_
        simp only [loserOf, hb, Bool.false_eq_true, if_false, renamed]
theorem renamed_len (l : List S26) (w : Int) : (renamed l w).length = l.length := by unfold renamed; simp
theorem giveWay_len (l : List S26) : (giveWay l).1.length ≤ l.length := by
  unfold giveWay
  split
  · unfold giveM
    cases clashM l 0 with
    | none => simp
    | some p => simp [renamed_len]
  · simp
end Go.Proofs.Ytljdenmmlkjapaa.P

namespace Go.Proofs.Ytljdenmmlkjapaa.P
open Go.RowKit Go.Proofs.YtljdenmmlkjapaaW.PrintWords Go.Proofs.YtljdenmmlkjapaaW.PrintLast
set_option linter.unusedVariables false
set_option linter.unusedSimpArgs false
def marksOwner : Nat → Int → List S26
  | 0, _ => []
  | n + 1, q => ⟨q, q + 1, q + 2⟩ :: marksOwner n (q + 3)
theorem markOwnerS_l (suf : List S26) : ∀ (pre : List S26) (k : Nat) (q : Int), suf.length < k → (pre.length : Int) + suf.length ≤ 1099511627776 → 0 ≤ q → q + 3 * suf.length ≤ 4611686018427387904 →
    laws_markOwnerS.l0 k (pre ++ suf) q (pre.length : Int) = some (q + 3 * suf.length, pre ++ marksOwner suf.length q) := by
  induction suf with
  | nil =>
    intro pre k q hk hb h0 h1
    obtain ⟨k, rfl⟩ : ∃ m, k = m + 1 := ⟨k - 1, by omega⟩
    simp only [laws_markOwnerS.l0]
    rw [if_neg (by simp)]
    simp [marksOwner]
  | cons x suf ih =>
    intro pre k q hk hb h0 h1
    simp only [List.length_cons] at hk hb h1
    obtain ⟨k, rfl⟩ : ∃ m, k = m + 1 := ⟨k - 1, by omega⟩
    have h := ih (pre ++ [⟨q, q + 1, q + 2⟩]) k (q + 3) (by omega) (by simp <;> omega) (by omega) (by omega)
    simp only [laws_markOwnerS.l0]
    rw [if_pos (by simp <;> omega), if_pos (by omega)]
    simp only [Option.bind_some, set_mid, rdOwner_mid]
    rw [wrap_id (x := q + 1) (by omega) (by omega), wrap_id (x := q + 1 + 1) (by omega) (by omega), wrap_id (x := q + 1 + 1 + 1) (by omega) (by omega), wrap_id (x := (pre.length : Int) + 1) (by omega) (by omega)]
    rw [show q + 1 + 1 = q + 2 from by omega, show q + 2 + 1 = q + 3 from by omega]
    rw [show ((pre ++ [(⟨q, q + 1, q + 2⟩ : S26)]).length : Int) = (pre.length : Int) + 1 from by simp] at h
    rw [app_one, h]
    simp only [marksOwner, List.length_cons, List.append_assoc, List.cons_append, List.nil_append, Option.some.injEq, Prod.mk.injEq, and_true]
    omega
theorem markOwnerS_ev (l : List S26) (q : Int) (hl : l.length ≤ 1099511627776) (h0 : 0 ≤ q) (h1 : q ≤ 1099511627776) : Ev (fun k => laws_markOwnerS.f k l q) (q + 3 * l.length, marksOwner l.length q) := by
  refine ⟨l.length + 1, fun k hk => ?_⟩
  show laws_markOwnerS.f k l q = _
  unfold laws_markOwnerS.f
  simpa using markOwnerS_l l [] k q (by omega) (by simp <;> omega) h0 (by omega)
theorem heldOwnerS_l (n : Nat) : ∀ (pre : List S26) (k : Nat) (q : Int), n < k → (pre.length : Int) + n ≤ 1099511627776 → 0 ≤ q → q + 3 * n ≤ 4611686018427387904 →
    laws_heldOwnerS.l0 k (pre ++ marksOwner n q) q (pre.length : Int) = some (q + 3 * n) := by
  induction n with
  | zero =>
    intro pre k q hk hb h0 h1
    obtain ⟨k, rfl⟩ : ∃ m, k = m + 1 := ⟨k - 1, by omega⟩
    simp only [laws_heldOwnerS.l0]
    rw [show marksOwner 0 q = [] from rfl, if_neg (by simp)]
    simp
  | succ n ih =>
    intro pre k q hk hb h0 h1
    obtain ⟨k, rfl⟩ : ∃ m, k = m + 1 := ⟨k - 1, by omega⟩
    have h := ih (pre ++ [⟨q, q + 1, q + 2⟩]) k (q + 3) (by omega) (by simp <;> omega) (by omega) (by omega)
    simp only [laws_heldOwnerS.l0]
    rw [show marksOwner (n + 1) q = ⟨q, q + 1, q + 2⟩ :: marksOwner n (q + 3) from rfl]
    rw [if_pos (by simp <;> omega), if_pos (by omega)]
    simp only [rdOwner_mid]
    rw [wrap_id (x := q + 1) (by omega) (by omega), wrap_id (x := q + 1 + 1) (by omega) (by omega), wrap_id (x := q + 1 + 1 + 1) (by omega) (by omega), wrap_id (x := (pre.length : Int) + 1) (by omega) (by omega)]
    rw [show q + 1 + 1 = q + 2 from by omega, show q + 2 + 1 = q + 3 from by omega, if_pos rfl, if_pos rfl, if_pos trivial]
    rw [show ((pre ++ [(⟨q, q + 1, q + 2⟩ : S26)]).length : Int) = (pre.length : Int) + 1 from by simp] at h
    rw [app_one, h]
    simp only [Option.some.injEq]
    omega
theorem heldOwnerS_ev (n : Nat) (q : Int) (hl : n ≤ 1099511627776) (h0 : 0 ≤ q) (h1 : q ≤ 1099511627776) : Ev (fun k => laws_heldOwnerS.f k (marksOwner n q) q) (q + 3 * n) := by
  refine ⟨n + 1, fun k hk => ?_⟩
  show laws_heldOwnerS.f k (marksOwner n q) q = _
  unfold laws_heldOwnerS.f
  exact heldOwnerS_l n [] k q (by omega) (by simp <;> omega) h0 (by omega)
end Go.Proofs.Ytljdenmmlkjapaa.P

namespace Go.Proofs.Ytljdenmmlkjapaa.Pure
open Go.RowKit Go.Proofs.Ytljdenmmlkjapaa.P Go.Proofs.YtljdenmmlkjapaaW.PrintWords Go.Proofs.YtljdenmmlkjapaaW.PrintLast
set_option linter.unusedVariables false
set_option linter.unusedSimpArgs false
theorem FnExactGiveWay : laws_FnExactGiveWay.Pure := by
  intro l ⟨hm, _⟩
  refine Ev.rounds ?_
  unfold laws_FnExactGiveWay.f
  rw [szOwnerS_is l hm 1048576 (by omega) (by omega)]
  simp only [Option.bind_some]
  by_cases h : (1048576 : Int) - l.length < 0
  · simp only [if_pos h]
    exact Ev.now _
  · have hl : l.length ≤ 1048576 := by omega
    have hl2 : (l.map cvOwner).length ≤ 1048576 := by simpa using hl
    have hr := giveWay_len (l.map cvOwner)
    simp only [if_neg h]
    refine Ev.bind (toOwnerS_ev l hl) ?_
    refine Ev.bind (specGiveWay_ev _ hl2) ?_
    refine Ev.bind (toOwnerS_ev l hl) ?_
    refine Ev.bind (implGiveWay_ev _ hl2) ?_
    have hi := implGiveWay_ev _ hl2
    generalize giveWay (l.map cvOwner) = r at hr hi
    refine Ev.bind (eqOwnerS_ev _ _ (by omega)) ?_
    simp only [decide_true, if_true, bne_self_eq_false]
    refine Ev.succ ?_
    simp only [laws_FnExactGiveWay.j0, Bool.false_eq_true, if_false]
    refine Ev.bind (toOwnerS_ev l hl) ?_
    refine Ev.bind (eqOwnerS_ev _ _ (by omega)) ?_
    simp only [decide_true, if_true]
    refine Ev.bind (markOwnerS_ev _ 1 (by omega) (by omega) (by omega)) ?_
    simp only [if_neg (show ¬ (1 + 3 * ((l.map cvOwner).length : Int)) < 0 by omega)]
    refine Ev.bind (eqOwnerS_ev _ _ (by omega)) ?_
    simp only [decide_true, if_true, bne_self_eq_false]
    refine Ev.succ ?_
    simp only [laws_FnExactGiveWay.j1, Bool.false_eq_true, if_false]
    refine Ev.bind (markOwnerS_ev _ 1 (by omega) (by omega) (by omega)) ?_
    refine Ev.bind (heldOwnerS_ev _ 1 (by omega) (by omega) (by omega)) ?_
    simp only [if_neg (show ¬ (1 + 3 * (r.1.length : Int)) < 0 by omega), if_true]
    refine Ev.bind (toOwnerS_ev l hl) ?_
    refine Ev.bind hi ?_
    refine Ev.bind (eqOwnerS_ev _ _ (by omega)) ?_
    simp only [decide_true, if_true, bne_self_eq_false]
    refine Ev.succ ?_
    simp only [laws_FnExactGiveWay.j2, Bool.false_eq_true, if_false]
    refine Ev.bind (heldOwnerS_ev _ 1 (by omega) (by omega) (by omega)) ?_
    simp only [if_neg (show ¬ (1 + 3 * (r.1.length : Int)) < 0 by omega), if_true]
    exact Ev.now _
end Go.Proofs.Ytljdenmmlkjapaa.Pure
