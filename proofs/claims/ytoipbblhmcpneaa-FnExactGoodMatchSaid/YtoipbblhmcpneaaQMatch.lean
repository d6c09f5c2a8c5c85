/- Plain lemmas. -/
import Derived.Test.YtoipbblhmcpneaaQWishes
import Derived.Test.YtoipbblhmcpneaaPx10
import Derived.Test.YtoipbblhmcpneaaPx11
import Derived.Test.YtoipbblhmcpneaaPx12
namespace Go.Proofs.Ytoipbblhmcpneaa.P
open Go.RowKit Go.Proofs.YtoipbblhmcpneaaW.PrintWords Go.Proofs.YtoipbblhmcpneaaW.PrintLast
set_option linter.unusedVariables false
set_option linter.unusedSimpArgs false
-- good matches, both sides
def cnt (l : List Int) (j : Int) : Nat := l.countP fun x => decide (x = j)
def hasGo (j : Int) : List Int → Int → List Int
  | [], _ => []
  | x :: r, i => if x = j then i :: hasGo j r (i + 1) else hasGo j r (i + 1)
theorem hasGo_len (j : Int) : ∀ (l : List Int) (i : Int), (hasGo j l i).length = cnt l j
  | [], _ => rfl
  | x :: r, i => by
    unfold hasGo cnt
    rw [List.countP_cons]
    have := hasGo_len j r (i + 1)
    unfold cnt at this
    by_cases h : x = j
    · rw [if_pos h, List.length_cons, this, decide_eq_true h, if_pos rfl]
    · rw [if_neg h, this, decide_eq_false h, if_neg Bool.false_ne_true, Nat.add_zero]
theorem cnt_le (l : List Int) (j : Int) : cnt l j ≤ l.length := List.countP_le_length ..
theorem l12Has_l (j : Int) (suf : List Int) : ∀ (pre out : List Int), ((pre ++ suf).length : Int) ≤ 1048576 → out.length ≤ pre.length →
    Ev (fun k => spec_l12Has.l0 k j out (pre ++ suf) ((pre ++ suf).length : Int) pre.length) (out ++ hasGo j suf pre.length) := by
  induction suf with
  | nil =>
    intro pre out h ho
    refine Ev.succ ?_
    simp only [spec_l12Has.l0, List.append_nil, Int.lt_irrefl, if_false, hasGo]
    exact Ev.now _
  | cons x suf ih =>
    intro pre out h ho
    refine Ev.succ ?_
    rw [len_mid] at h ⊢
    have := fun o ho => ih (pre ++ [x]) o (by rw [← app_one, len_mid]; exact h) ho
    rw [← app_one, len_mid, len_one] at this
    simp only [spec_l12Has.l0]
    simp only [if_pos (show ((pre.length : Int) < pre.length + suf.length + 1) by omega), if_pos (show (0 : Int) ≤ pre.length by omega), len_mid, rd_mid, wrap_id (show (-9223372036854775808 : Int) ≤ pre.length + 1 by omega) (show ((pre.length : Int) + 1 ≤ 9223372036854775807) by omega), hasGo]
    by_cases h1 : x = j
    · simp only [if_pos h1, if_pos (show out.length < 17592186044416 by omega)]
      rw [app_one out (pre.length : Int) (hasGo j suf (pre.length + 1))]
      exact this (out ++ [(pre.length : Int)]) (by simp only [List.length_append, List.length_singleton]; omega)
    · simp only [if_neg h1]
      exact this out (by rw [List.length_append]; omega)
theorem l12Has_ev (l : List Int) (j : Int) (h : l.length ≤ 1048576) : Ev (fun k => spec_l12Has.f k l j) (hasGo j l 0) := by
  have := l12Has_l j l [] [] (by simp only [List.nil_append]; omega) (by simp)
  exact this
theorem rd_set {acc : List Int} {x j : Int} (hx : 0 ≤ x) (hx1 : x < acc.length) (hj : 0 ≤ j) (y : Int) : rd (acc.set x.toNat y) j = if j = x then y else rd acc j := by
  unfold rd
  rw [List.getD_eq_getElem?_getD, List.getD_eq_getElem?_getD, List.getElem?_set]
  by_cases h : j = x
  · subst h
    rw [if_pos rfl, if_pos rfl, if_pos (by omega)]
    rfl
  · rw [if_neg (by omega), if_neg h]
theorem loads_l (m : Nat) (hm : m ≤ 1000) (suf : List Int) (hs : ∀ x ∈ suf, -1 ≤ x ∧ x < m) : ∀ (pre acc : List Int), ((pre ++ suf).length : Int) ≤ 1048576 → acc.length = m → (∀ j : Int, 0 ≤ j → rd acc j = cnt pre j) →
    ∃ r, Ev (fun k => impl_loads.l0 k acc (pre ++ suf) ((pre ++ suf).length : Int) pre.length) r ∧ r.length = m ∧ ∀ j : Int, 0 ≤ j → rd r j = cnt (pre ++ suf) j := by
  induction suf with
  | nil =>
    intro pre acc h ha hr
    refine ⟨acc, Ev.succ ?_, ha, by rw [List.append_nil]; exact hr⟩
    simp only [impl_loads.l0, List.append_nil, Int.lt_irrefl, if_false]
    exact Ev.now _
  | cons x suf ih =>
    intro pre acc h ha hr
    rw [len_mid] at h
    have hx := hs x (List.mem_cons_self ..)
    have hi := ih (fun y hy => hs y (List.mem_cons_of_mem _ hy)) (pre ++ [x])
    rw [← app_one, len_mid, len_one] at hi
    have hc : ∀ j, cnt (pre ++ [x]) j = cnt pre j + if x = j then 1 else 0 := by
      intro j
      unfold cnt
      rw [List.countP_append, List.countP_cons, List.countP_nil, Nat.zero_add]
      by_cases e : x = j
      · rw [decide_eq_true e, if_pos rfl, if_pos e]
      · rw [decide_eq_false e, if_neg Bool.false_ne_true, if_neg e]
    by_cases h1 : x ≥ 0
    · have hb := cnt_le pre x
      obtain ⟨r, er, e1, e2⟩ := hi (acc.set x.toNat (wrap64 ((rd acc x) + 1))) h (by rw [List.length_set]; exact ha) (by
        intro j hj
        rw [rd_set h1 (by omega) hj, hc, hr x h1, wrap_id (by omega) (by omega)]
        by_cases e : j = x
        · rw [if_pos e, if_pos e.symm, e]
          omega
        · rw [if_neg e, if_neg (fun c => e c.symm), hr j hj]
          omega)
      refine ⟨r, Ev.succ ?_, e1, e2⟩
      simp only [impl_loads.l0]
      simp only [len_mid, if_pos (show ((pre.length : Int) < pre.length + suf.length + 1) by omega), if_pos (show (0 : Int) ≤ pre.length by omega), rd_mid, wrap_id (show (-9223372036854775808 : Int) ≤ pre.length + 1 by omega) (show ((pre.length : Int) + 1 ≤ 9223372036854775807) by omega), if_pos h1, if_pos (show 0 ≤ x from h1), if_pos (show x < (acc.length : Int) by omega)]
      exact er
    · obtain ⟨r, er, e1, e2⟩ := hi acc h ha (by
        intro j hj
        rw [hc, if_neg (by omega), Nat.add_zero, hr j hj])
      refine ⟨r, Ev.succ ?_, e1, e2⟩
      simp only [impl_loads.l0]
      simp only [len_mid, if_pos (show ((pre.length : Int) < pre.length + suf.length + 1) by omega), if_pos (show (0 : Int) ≤ pre.length by omega), rd_mid, wrap_id (show (-9223372036854775808 : Int) ≤ pre.length + 1 by omega) (show ((pre.length : Int) + 1 ≤ 9223372036854775807) by omega), if_neg h1]
      exact er
theorem rd_zero (m : Nat) (j : Int) : rd (List.replicate m (0 : Int)) j = 0 := by
  unfold rd
  rw [List.getD_eq_getElem?_getD, List.getElem?_replicate]
  split <;> rfl
theorem loads_ev (f0 f1 : List (List Int)) (f2 l : List Int) (hl : l.length ≤ 1048576) (hm : f1.length ≤ 1000) (hs : ∀ x ∈ l, -1 ≤ x ∧ x < f1.length) :
    ∃ r, Ev (fun k => impl_loads.f k f0 f1 f2 l) r ∧ r.length = f1.length ∧ ∀ j : Int, 0 ≤ j → rd r j = cnt l j := by
  unfold impl_loads.f
  simp only [if_pos (show (0 : Int) ≤ (f1.length : Int) by omega), Int.toNat_natCast, if_pos (show f1.length ≤ 35184372088832 by omega)]
  exact loads_l f1.length hm l hs [] (List.replicate f1.length 0) (by simp only [List.nil_append]; omega) (by simp) (fun j hj => by rw [rd_zero]; rfl)
def capGo (l : List Int) : List Int → Int → Bool
  | [], _ => true
  | c :: r, j => if (cnt l j : Int) > c then false else capGo l r (j + 1)
theorem specCap_l (l : List Int) (hl : l.length ≤ 1048576) (suf : List Int) : ∀ (pre : List Int), ((pre ++ suf).length : Int) ≤ 1048576 →
    Ev (fun k => spec_GoodMatch.l0 k l (pre ++ suf) ((pre ++ suf).length : Int) pre.length) (capGo l suf pre.length) := by
  induction suf with
  | nil =>
    intro pre h
    refine Ev.succ ?_
    simp only [spec_GoodMatch.l0, List.append_nil, Int.lt_irrefl, if_false, capGo]
    exact Ev.now _
  | cons x suf ih =>
    intro pre h
    refine Ev.succ ?_
    rw [len_mid] at h ⊢
    have := ih (pre ++ [x]) (by rw [← app_one, len_mid]; exact h)
    rw [← app_one, len_mid, len_one] at this
    simp only [spec_GoodMatch.l0, capGo]
    simp only [if_pos (show ((pre.length : Int) < pre.length + suf.length + 1) by omega), if_pos (show (0 : Int) ≤ pre.length by omega), len_mid, rd_mid, wrap_id (show (-9223372036854775808 : Int) ≤ pre.length + 1 by omega) (show ((pre.length : Int) + 1 ≤ 9223372036854775807) by omega)]
    refine Ev.bind (l12Has_ev l pre.length hl) ?_
    rw [hasGo_len]
    by_cases h1 : (cnt l pre.length : Int) > x
    · simp only [if_pos h1]
      exact Ev.now _
    · simp only [if_neg h1]
      exact this
theorem implCap_l (f0 f1 : List (List Int)) (l t : List Int) (ht : ∀ j : Int, 0 ≤ j → rd t j = cnt l j) (suf : List Int) : ∀ (pre : List Int), ((pre ++ suf).length : Int) ≤ 1048576 → t.length = (pre ++ suf).length →
    Ev (fun k => impl_GoodMatch.l0 k t ((pre ++ suf).length : Int) pre.length f0 f1 (pre ++ suf)) (capGo l suf pre.length) := by
  induction suf with
  | nil =>
    intro pre h he
    refine Ev.succ ?_
    simp only [impl_GoodMatch.l0, List.append_nil, Int.lt_irrefl, if_false, capGo]
    exact Ev.now _
  | cons x suf ih =>
    intro pre h he
    refine Ev.succ ?_
    have he' : (t.length : Int) = pre.length + suf.length + 1 := by rw [he, len_mid]
    rw [len_mid] at h ⊢
    have := ih (pre ++ [x]) (by rw [← app_one, len_mid]; exact h) (by rw [← app_one]; exact he)
    rw [← app_one, len_mid, len_one] at this
    simp only [impl_GoodMatch.l0, capGo]
    simp only [if_pos (show ((pre.length : Int) < pre.length + suf.length + 1) by omega), if_pos (show (0 : Int) ≤ pre.length by omega), len_mid, rd_mid, if_pos (show (pre.length : Int) < (t.length : Int) by omega), ht (pre.length : Int) (by omega), wrap_id (show (-9223372036854775808 : Int) ≤ pre.length + 1 by omega) (show ((pre.length : Int) + 1 ≤ 9223372036854775807) by omega)]
    by_cases h1 : (cnt l pre.length : Int) > x
    · simp only [if_pos h1]
      exact Ev.now _
    · simp only [if_neg h1]
      exact this
theorem goodW_len {f0 f1 : List (List Int)} {f2 : List Int} (h : goodW f0 f1 f2 = true) : 1 ≤ f0.length ∧ f0.length ≤ 8 ∧ 1 ≤ f1.length ∧ f1.length ≤ 8 ∧ f2.length = f1.length := by
  unfold goodW at h
  simp only [Bool.and_eq_true, decide_eq_true_eq] at h
  omega
def goodM (f0 f1 : List (List Int)) (f2 l : List Int) : Bool := goodW f0 f1 f2 && (decide ((l.length : Int) = f0.length) && (allIn (-1) (wrap64 ((f1.length : Int) - 1)) l && capGo l f2 0))
theorem specGoodM_ev {f0 f1 : List (List Int)} {f2 : List Int} (h : okW f0 f1 f2) (l : List Int) (hl : l.length ≤ 1048576) : Ev (fun k => spec_GoodMatch.f k f0 f1 f2 l) (goodM f0 f1 f2 l) := by
  unfold spec_GoodMatch.f goodM
  have bad : Ev (fun k => spec_GoodMatch.j0 k l true f0 f1 f2) false := by
    refine Ev.succ ?_
    simp only [spec_GoodMatch.j0, if_true]
    exact Ev.now _
  refine Ev.bind (specGoodW_ev h) ?_
  cases hw : goodW f0 f1 f2 with
  | false =>
    simp only [Bool.false_eq_true, if_false, Bool.false_and]
    exact bad
  | true =>
    simp only [if_true, Bool.true_and]
    by_cases h1 : (l.length : Int) = f0.length
    · simp only [if_pos h1]
      rw [decide_eq_true h1, Bool.true_and]
      refine Ev.bind (specAll_ev _ _ l (by omega)) ?_
      cases ha : allIn (-1) (wrap64 ((f1.length : Int) - 1)) l with
      | false =>
        rw [Bool.false_and]
        exact bad
      | true =>
        rw [Bool.true_and]
        refine Ev.succ ?_
        simp only [spec_GoodMatch.j0, Bool.not_true, Bool.false_eq_true, if_false]
        exact specCap_l l hl f2 [] (by have := h.a2; simp only [List.nil_append]; omega)
    · simp only [if_neg h1]
      rw [decide_eq_false h1, Bool.false_and]
      exact bad
theorem implGoodM_ev {f0 f1 : List (List Int)} {f2 : List Int} (h : okW f0 f1 f2) (l : List Int) (hl : l.length ≤ 1048576) : Ev (fun k => impl_GoodMatch.f k f0 f1 f2 l) (goodM f0 f1 f2 l) := by
  unfold impl_GoodMatch.f goodM
  have bad : Ev (fun k => impl_GoodMatch.j0 k l true f0 f1 f2) false := by
    refine Ev.succ ?_
    simp only [impl_GoodMatch.j0, if_true]
    exact Ev.now _
  refine Ev.bind (implGoodW_ev h) ?_
  cases hw : goodW f0 f1 f2 with
  | false =>
    simp only [Bool.false_eq_true, if_false, Bool.false_and]
    exact bad
  | true =>
    have hn := goodW_len hw
    simp only [if_true, Bool.true_and]
    by_cases h1 : (l.length : Int) = f0.length
    · simp only [if_pos h1]
      rw [decide_eq_true h1, Bool.true_and]
      refine Ev.bind (implAll_ev _ _ l (by omega)) ?_
      cases ha : allIn (-1) (wrap64 ((f1.length : Int) - 1)) l with
      | false =>
        rw [Bool.false_and]
        exact bad
      | true =>
        rw [Bool.true_and]
        rw [wrap_id (by omega) (by omega)] at ha
        refine Ev.succ ?_
        simp only [impl_GoodMatch.j0, Bool.not_true, Bool.false_eq_true, if_false]
        obtain ⟨t, et, e1, e2⟩ := loads_ev f0 f1 f2 l hl (by omega) (fun x hx => by
          have := List.all_eq_true.1 ha x hx
          rw [decide_eq_true_eq] at this
          omega)
        refine Ev.bind et ?_
        have := implCap_l f0 f1 l t e2 f2 [] (by have := h.a2; simp only [List.nil_append]; omega) (by simp only [List.nil_append]; omega)
        rw [show (t.length : Int) = ((([] : List Int) ++ f2).length : Int) by simp only [List.nil_append]; omega]
        exact this
    · simp only [if_neg h1]
      rw [decide_eq_false h1, Bool.false_and]
      exact bad

end Go.Proofs.Ytoipbblhmcpneaa.P
