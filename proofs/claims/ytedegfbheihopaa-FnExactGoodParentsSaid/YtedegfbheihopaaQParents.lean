/- Plain lemmas. -/
import Derived.Test.YtedegfbheihopaaQIsIn
import Derived.Test.YtedegfbheihopaaQToIntS
import Derived.Test.YtedegfbheihopaaPx3
import Derived.Test.YtedegfbheihopaaPx4
namespace Go.Proofs.Ytedegfbheihopaa.P
open Go.RowKit Go.Proofs.YtedegfbheihopaaW.PrintWords Go.Proofs.YtedegfbheihopaaW.PrintLast
set_option linter.unusedVariables false
set_option linter.unusedSimpArgs false
-- a tree by its parents: the climb from every node ends
def inr (n x : Int) : Bool := decide (-1 ≤ x ∧ x ≤ wrap64 (n - 1))
def inn (n : Int) : Bool := decide (1 ≤ n ∧ n ≤ 12)
def upOk (l : List Int) : Nat → Int → Bool
  | 0, u => decide (u < 0)
  | d + 1, u => if u ≥ 0 then inr (l.length : Int) (rd l u) && upOk l d (rd l u) else true
def climb (l : List Int) : Nat → Int → Int
  | 0, u => u
  | d + 1, u => if u ≥ 0 then climb l d (rd l u) else climb l d u
def chkS (l : List Int) : List Int → Nat → Bool
  | [], _ => inn (l.length : Int)
  | x :: suf, i => inr (l.length : Int) x && (upOk l l.length i && chkS l suf (i + 1))
def chkI (l : List Int) : Nat → Nat → Bool
  | 0, _ => true
  | d + 1, i => decide (climb l l.length i < 0) && chkI l d (i + 1)
theorem topLen {l : List Int} (hl : l.length ≤ 1048576) : wrap64 ((l.length : Int) - 1) = (l.length : Int) - 1 := wrap_id (by omega) (by omega)
theorem specPar_l1 (l : List Int) (hl : l.length ≤ 1048576) (X : List Int) (m i : Int) (R : Bool) (d : Nat) : ∀ (h : Nat) (u : Int), h + d = l.length → -1 ≤ u → u < l.length →
    (upOk l d u = true → Ev (fun k => spec_GoodParents.l0 k l l.length X m (wrap64 (i + 1))) R) → (upOk l d u = false → R = false) →
    Ev (fun k => spec_GoodParents.l1 k l l.length h u X m i) R := by
  induction d with
  | zero =>
    intro h u hd h0 h1 hT hF
    refine Ev.succ ?_
    by_cases hu : u ≥ 0
    · simp only [spec_GoodParents.l1, if_pos hu, wrap_id (show (-9223372036854775808 : Int) ≤ h + 1 by omega) (show ((h : Int) + 1 ≤ 9223372036854775807) by omega), if_pos (show (h : Int) + 1 > l.length by omega)]
      exact Ev.some_ (hF (by rw [upOk]; exact decide_eq_false (by omega))).symm
    · simp only [spec_GoodParents.l1, if_neg hu]
      exact hT (by rw [upOk]; exact decide_eq_true (by omega))
  | succ d ih =>
    intro h u hd h0 h1 hT hF
    refine Ev.succ ?_
    by_cases hu : u ≥ 0
    · simp only [spec_GoodParents.l1, if_pos hu, wrap_id (show (-9223372036854775808 : Int) ≤ h + 1 by omega) (show ((h : Int) + 1 ≤ 9223372036854775807) by omega), if_neg (show ¬ (h : Int) + 1 > l.length by omega), if_pos (show 0 ≤ u from hu), if_pos h1, specIn, Option.bind_some, decide_eq_true_eq]
      rw [upOk, if_pos hu] at hT hF
      by_cases hr : -1 ≤ rd l u ∧ rd l u ≤ wrap64 ((l.length : Int) - 1)
      · simp only [if_pos hr]
        rw [inr, decide_eq_true hr, Bool.true_and] at hT hF
        rw [topLen hl] at hr
        have := ih (h + 1) (rd l u) (by omega) hr.1 (by omega) hT hF
        exact this
      · simp only [if_neg hr]
        rw [inr, decide_eq_false hr, Bool.false_and] at hF
        exact Ev.some_ (hF rfl).symm
    · simp only [spec_GoodParents.l1, if_neg hu]
      exact hT (by rw [upOk, if_neg hu])
theorem specPar_l0 (l : List Int) (hl : l.length ≤ 1048576) (suf : List Int) : ∀ (pre : List Int), pre ++ suf = l →
    Ev (fun k => spec_GoodParents.l0 k l l.length l l.length pre.length) (chkS l suf pre.length) := by
  induction suf with
  | nil =>
    intro pre h
    refine Ev.succ ?_
    rw [List.append_nil] at h
    subst h
    simp only [spec_GoodParents.l0, Int.lt_irrefl, if_false, specIn, Option.bind_some]
    exact Ev.now _
  | cons x suf ih =>
    intro pre h
    refine Ev.succ ?_
    have hn : (l.length : Int) = pre.length + suf.length + 1 := by rw [← h, len_mid]
    have hx : rd l (pre.length : Int) = x := by rw [← h, rd_mid]
    simp only [spec_GoodParents.l0, if_pos (show (pre.length : Int) < l.length by omega), if_pos (show (0 : Int) ≤ pre.length by omega), hx, specIn, Option.bind_some, decide_eq_true_eq]
    rw [chkS]
    by_cases hr : -1 ≤ x ∧ x ≤ wrap64 ((l.length : Int) - 1)
    · simp only [if_pos hr]
      rw [inr, decide_eq_true hr, Bool.true_and]
      refine specPar_l1 l hl l l.length pre.length _ l.length 0 pre.length (by omega) (by omega) (by omega) ?_ ?_
      · intro ho
        rw [ho, Bool.true_and, wrap_id (show (-9223372036854775808 : Int) ≤ pre.length + 1 by omega) (show ((pre.length : Int) + 1 ≤ 9223372036854775807) by omega)]
        have := ih (pre ++ [x]) (by rw [← app_one]; exact h)
        rw [len_one, List.length_append, List.length_singleton] at this
        exact this
      · intro ho
        rw [ho, Bool.false_and]
    · simp only [if_neg hr]
      rw [inr, decide_eq_false hr, Bool.false_and]
      exact Ev.now _
theorem implPar_l1 (l : List Int) (hl : l.length ≤ 1048576) (ha : allIn (-1) ((l.length : Int) - 1) l = true) (m i : Int) (R : Bool) (d : Nat) : ∀ (c : Nat) (u : Int), c + d = l.length → -1 ≤ u → u < l.length →
    Ev (fun k => if climb l d u ≥ 0 then some false else impl_GoodParents.l0 k l m (wrap64 (i + 1))) R →
    Ev (fun k => impl_GoodParents.l1 k l u m i l.length c) R := by
  induction d with
  | zero =>
    intro c u hd h0 h1 hR
    refine Ev.succ ?_
    simp only [impl_GoodParents.l1, if_neg (show ¬ (c : Int) < l.length by omega)]
    exact hR
  | succ d ih =>
    intro c u hd h0 h1 hR
    refine Ev.succ ?_
    rw [climb] at hR
    simp only [impl_GoodParents.l1, if_pos (show (c : Int) < l.length by omega), wrap_id (show (-9223372036854775808 : Int) ≤ c + 1 by omega) (show ((c : Int) + 1 ≤ 9223372036854775807) by omega)]
    by_cases hu : u ≥ 0
    · simp only [if_pos hu, if_pos (show 0 ≤ u from hu), if_pos h1] at hR ⊢
      have hm : rd l u ∈ l := by
        unfold rd
        rw [List.getD_eq_getElem?_getD, List.getElem?_eq_getElem (show u.toNat < l.length by omega)]
        exact List.getElem_mem _
      have := List.all_eq_true.1 ha _ hm
      rw [decide_eq_true_eq] at this
      exact ih (c + 1) _ (by omega) this.1 (by omega) hR
    · simp only [if_neg hu] at hR ⊢
      exact ih (c + 1) _ (by omega) h0 h1 hR
theorem implPar_l0 (l : List Int) (hl : l.length ≤ 1048576) (ha : allIn (-1) ((l.length : Int) - 1) l = true) (d : Nat) : ∀ (c : Nat), c + d = l.length →
    Ev (fun k => impl_GoodParents.l0 k l l.length c) (chkI l d c) := by
  induction d with
  | zero =>
    intro c h
    refine Ev.succ ?_
    simp only [impl_GoodParents.l0, if_neg (show ¬ (c : Int) < l.length by omega)]
    exact Ev.now _
  | succ d ih =>
    intro c h
    refine Ev.succ ?_
    simp only [impl_GoodParents.l0, if_pos (show (c : Int) < l.length by omega)]
    refine implPar_l1 l hl ha l.length c _ l.length 0 c (by omega) (by omega) (by omega) ?_
    rw [chkI]
    by_cases hc : climb l l.length c ≥ 0
    · simp only [if_pos hc]
      rw [decide_eq_false (by omega), Bool.false_and]
      exact Ev.now _
    · simp only [if_neg hc]
      rw [decide_eq_true (by omega), Bool.true_and, wrap_id (show (-9223372036854775808 : Int) ≤ c + 1 by omega) (show ((c : Int) + 1 ≤ 9223372036854775807) by omega)]
      exact ih (c + 1) (by omega)
theorem climb_neg (l : List Int) : ∀ (d : Nat) (u : Int), u < 0 → climb l d u = u
  | 0, _, _ => rfl
  | d + 1, u, h => by rw [climb, if_neg (by omega)]; exact climb_neg l d u h
theorem upOk_climb (l : List Int) (hl : l.length ≤ 1048576) (ha : allIn (-1) ((l.length : Int) - 1) l = true) : ∀ (d : Nat) (u : Int), -1 ≤ u → u < l.length → upOk l d u = decide (climb l d u < 0)
  | 0, _, _, _ => rfl
  | d + 1, u, h0, h1 => by
    rw [upOk, climb]
    by_cases hu : u ≥ 0
    · have hm : rd l u ∈ l := by
        unfold rd
        rw [List.getD_eq_getElem?_getD, List.getElem?_eq_getElem (show u.toNat < l.length by omega)]
        exact List.getElem_mem _
      have := List.all_eq_true.1 ha _ hm
      rw [decide_eq_true_eq] at this
      rw [if_pos hu, if_pos hu, inr, topLen hl, decide_eq_true this, Bool.true_and]
      exact upOk_climb l hl ha d _ this.1 (by omega)
    · rw [if_neg hu, if_neg hu, climb_neg l d u (by omega)]
      exact (decide_eq_true (by omega)).symm
theorem chk_same (l : List Int) (hl : l.length ≤ 1048576) (ha : allIn (-1) ((l.length : Int) - 1) l = true) : ∀ (suf : List Int) (c : Nat), (∀ x ∈ suf, x ∈ l) → c + suf.length = l.length → chkS l suf c = (chkI l suf.length c && inn (l.length : Int))
  | [], c, _, _ => by rw [chkS, List.length_nil, chkI, Bool.true_and]
  | x :: suf, c, hm, hc => by
    have hx := List.all_eq_true.1 ha x (hm x (List.mem_cons_self ..))
    rw [decide_eq_true_eq] at hx
    rw [List.length_cons] at hc
    rw [chkS, List.length_cons, chkI, inr, topLen hl, decide_eq_true hx, Bool.true_and, upOk_climb l hl ha l.length c (by omega) (by omega), chk_same l hl ha suf (c + 1) (fun y hy => hm y (List.mem_cons_of_mem _ hy)) (by omega), Bool.and_assoc]
theorem chk_all (l : List Int) (hl : l.length ≤ 1048576) : ∀ (suf : List Int) (c : Nat), chkS l suf c = true → allIn (-1) ((l.length : Int) - 1) suf = true
  | [], _, _ => rfl
  | x :: suf, c, h => by
    rw [chkS, Bool.and_eq_true, Bool.and_eq_true, inr, topLen hl] at h
    rw [allIn, List.all_cons, h.1, Bool.true_and]
    exact chk_all l hl suf (c + 1) h.2.2
def goodP (l : List Int) : Bool := chkS l l 0
theorem specGoodP_ev (l : List Int) (hl : l.length ≤ 1048576) : Ev (fun k => spec_GoodParents.f k l) (goodP l) := by
  have := specPar_l0 l hl l [] rfl
  exact this
theorem implGoodP_ev (l : List Int) (hl : l.length ≤ 1048576) : Ev (fun k => impl_GoodParents.f k l) (goodP l) := by
  unfold impl_GoodParents.f impl_isSpots.f goodP
  simp only [implIn, Option.bind_some, decide_eq_true_eq]
  have bad : Ev (fun k => impl_GoodParents.j0 k l true) false := by
    refine Ev.succ ?_
    simp only [impl_GoodParents.j0, if_true]
    exact Ev.now _
  by_cases hn : 1 ≤ (l.length : Int) ∧ (l.length : Int) ≤ 12
  · simp only [if_pos hn]
    refine Ev.bind (implAll_ev _ _ l (by omega)) ?_
    rw [topLen hl]
    by_cases ha : allIn (-1) ((l.length : Int) - 1) l = true
    · rw [ha, chk_same l hl ha l 0 (fun x h => h) (by omega), inn, decide_eq_true hn, Bool.and_true]
      refine Ev.succ ?_
      simp only [impl_GoodParents.j0, Bool.not_true, Bool.false_eq_true, if_false]
      exact implPar_l0 l hl ha l.length 0 (by omega)
    · rw [show chkS l l 0 = false from Bool.eq_false_iff.2 fun hc => ha (chk_all l hl l 0 hc), Bool.eq_false_iff.2 ha]
      exact bad
  · simp only [if_neg hn]
    rw [show chkS l l 0 = false from ?_]
    · exact bad
    · refine Bool.eq_false_iff.2 fun hc => ?_
      have ha := chk_all l hl l 0 hc
      rw [chk_same l hl ha l 0 (fun x h => h) (by omega), inn, decide_eq_false hn, Bool.and_false] at hc
      exact Bool.false_ne_true hc

end Go.Proofs.Ytedegfbheihopaa.P
