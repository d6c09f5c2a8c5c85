/- Plain lemmas. -/
import Derived.Test.YtoipbblhmcpneaaQIntSS
import Derived.Test.YtoipbblhmcpneaaQPlaceOf
import Derived.Test.YtoipbblhmcpneaaQIsIn
import Derived.Test.YtoipbblhmcpneaaQSpecAll
import Derived.Test.YtoipbblhmcpneaaPx0
import Derived.Test.YtoipbblhmcpneaaPx2
import Derived.Test.YtoipbblhmcpneaaPx3
import Derived.Test.YtoipbblhmcpneaaPx4
import Derived.Test.YtoipbblhmcpneaaPx5
import Derived.Test.YtoipbblhmcpneaaPx6
import Derived.Test.YtoipbblhmcpneaaPx7
import Derived.Test.YtoipbblhmcpneaaPx8
namespace Go.Proofs.Ytoipbblhmcpneaa.P
open Go.RowKit Go.Proofs.YtoipbblhmcpneaaW.PrintWords Go.Proofs.YtoipbblhmcpneaaW.PrintLast
set_option linter.unusedVariables false
set_option linter.unusedSimpArgs false
-- good wishes, both sides
structure okW (f0 f1 : List (List Int)) (f2 : List Int) : Prop where
  a0 : f0.length ≤ 1048576
  a1 : f1.length ≤ 1048576
  a2 : f2.length ≤ 1048576
  b0 : ∀ x ∈ f0, x.length ≤ 1048576
  b1 : ∀ x ∈ f1, x.length ≤ 1048576
theorem szWishes_ev (f0 f1 : List (List Int)) (f2 : List Int) (h0 : f0.length ≤ maxLen) (h0' : ∀ x ∈ f0, x.length ≤ maxLen) (h1 : f1.length ≤ maxLen) (h1' : ∀ x ∈ f1, x.length ≤ maxLen) (h2 : f2.length ≤ maxLen) :
    ∃ r, Ev (fun k => laws_szWishes.f k f0 f1 f2 1048576) r ∧ (¬ r < 0 → okW f0 f1 f2) := by
  unfold laws_szWishes.f
  have e0 := szIntSS_ev f0 h0 h0' 1048576 (by omega) (by omega)
  have l0 := szSS_le f0 1048576 (by omega)
  generalize szSS f0 1048576 = r0 at e0 l0
  by_cases c0 : r0 < 0
  · refine ⟨-1, Ev.bind e0 ?_, fun h => absurd (by omega) h⟩
    simp only [if_pos c0]
    exact Ev.now _
  have e1 := szIntSS_ev f1 h1 h1' r0 (by omega) (by omega)
  have l1 := szSS_le f1 r0 (by omega)
  generalize szSS f1 r0 = r1 at e1 l1
  by_cases c1 : r1 < 0
  · refine ⟨-1, Ev.bind e0 ?_, fun h => absurd (by omega) h⟩
    simp only [if_neg c0]
    refine Ev.bind e1 ?_
    simp only [if_pos c1]
    exact Ev.now _
  have e2 := szIntS_is f2 h2 r1 (by omega) (by omega)
  by_cases c2 : r1 - f2.length < 0
  · refine ⟨-1, Ev.bind e0 ?_, fun h => absurd (by omega) h⟩
    simp only [if_neg c0]
    refine Ev.bind e1 ?_
    simp only [if_neg c1, e2, Option.bind_some, if_pos c2, if_pos (show (-1 : Int) < 0 by omega)]
    exact Ev.now _
  · refine ⟨r1 - f2.length, Ev.bind e0 ?_, fun _ => ⟨by have := (l0.2 c0).1; omega, by have := (l1.2 c1).1; omega, by omega, fun x hx => by have := (l0.2 c0).2 x hx; omega, fun x hx => by have := (l1.2 c1).2 x hx; omega⟩⟩
    simp only [if_neg c0]
    refine Ev.bind e1 ?_
    simp only [if_neg c1, e2, Option.bind_some, if_neg c2]
    exact Ev.now _
theorem toWishes_ev {f0 f1 : List (List Int)} {f2 : List Int} (h : okW f0 f1 f2) : Ev (fun k => laws_toWishes.f k f0 f1 f2) (f0, f1, f2) := by
  unfold laws_toWishes.f
  refine Ev.bind (toIntSS_ev f0 h.a0 h.b0) ?_
  refine Ev.bind (toIntSS_ev f1 h.a1 h.b1) ?_
  refine Ev.bind (toIntS_ev f2 h.a2) ?_
  exact Ev.now _
theorem eqWishes_ev {f0 f1 : List (List Int)} {f2 : List Int} (h : okW f0 f1 f2) : Ev (fun k => laws_eqWishes.f k f0 f1 f2 f0 f1 f2) true := by
  unfold laws_eqWishes.f
  refine Ev.bind (eqSame_ev f0 h.a0 h.b0) ?_
  simp only [if_true]
  refine Ev.bind (eqSame_ev f1 h.a1 h.b1) ?_
  simp only [if_true]
  refine Ev.bind (eqIntS_ev f2 f2 (by have := h.a2; omega)) ?_
  simp only [decide_true, if_true]
  exact Ev.now _
def dupGo : List Int → List Int → Bool
  | _, [] => true
  | pre, x :: r => !(placeGo x pre 0).isSome && dupGo (pre ++ [x]) r
def rowOk (m : Int) (l : List Int) : Bool := decide ((l.length : Int) = m) && (allIn 0 (m - 1) l && dupGo [] l)
theorem l12All_l (m : Int) (h0 : 0 ≤ m) (h1 : m ≤ 1048576) (suf : List Int) : ∀ (pre : List Int), ((pre ++ suf).length : Int) ≤ 1048576 →
    Ev (fun k => spec_l12All.l0 k (pre ++ suf) m (pre ++ suf) ((pre ++ suf).length : Int) pre.length) (decide (((pre ++ suf).length : Int) = m) && (allIn 0 (m - 1) suf && dupGo pre suf)) := by
  induction suf with
  | nil =>
    intro pre h
    refine Ev.succ ?_
    simp only [spec_l12All.l0, List.append_nil, Int.lt_irrefl, if_false]
    refine Ev.some_ ?_
    rw [show allIn 0 (m - 1) [] = true from rfl, dupGo, Bool.and_true, Bool.and_true]
    rfl
  | cons x suf ih =>
    intro pre h
    refine Ev.succ ?_
    rw [len_mid] at h ⊢
    have := ih (pre ++ [x]) (by rw [← app_one, len_mid]; exact h)
    rw [← app_one, len_mid, len_one] at this
    have ht : (pre ++ x :: suf).take ((pre.length : Int)).toNat = pre := by rw [Int.toNat_natCast]; exact List.take_left ..
    rw [show allIn 0 (m - 1) (x :: suf) = (decide (0 ≤ x ∧ x ≤ m - 1) && allIn 0 (m - 1) suf) from rfl, dupGo]
    simp only [spec_l12All.l0]
    simp only [len_mid, if_pos (show ((pre.length : Int) < pre.length + suf.length + 1) by omega), if_pos (show (0 : Int) ≤ pre.length by omega), rd_mid, wrap_id (show (-9223372036854775808 : Int) ≤ pre.length + 1 by omega) (show ((pre.length : Int) + 1 ≤ 9223372036854775807) by omega), wrap_id (show (-9223372036854775808 : Int) ≤ m - 1 by omega) (show (m - 1 ≤ 9223372036854775807) by omega), specIn, Option.bind_some, decide_eq_true_eq, if_pos (show (pre.length : Int) ≤ pre.length + suf.length + 1 by omega), ht]
    by_cases hx : 0 ≤ x ∧ x ≤ m - 1
    · simp only [if_pos hx]
      refine Ev.bind (has_ev x pre (by omega)) ?_
      rw [decide_eq_true hx, Bool.true_and]
      cases hp : (placeGo x pre 0).isSome with
      | true =>
        simp only [if_true, Bool.not_true, Bool.false_and, Bool.and_false]
        exact Ev.now _
      | false =>
        simp only [Bool.false_eq_true, if_false, Bool.not_false, Bool.true_and]
        exact this
    · simp only [if_neg hx]
      rw [decide_eq_false hx, Bool.false_and, Bool.false_and, Bool.and_false]
      exact Ev.now _
theorem l12All_ev (l : List Int) (m : Int) (h0 : 0 ≤ m) (h1 : m ≤ 1048576) (hl : l.length ≤ 1048576) : Ev (fun k => spec_l12All.f k l m) (rowOk m l) := by
  have := l12All_l m h0 h1 l [] (by simp only [List.nil_append]; omega)
  exact this
theorem orders_l1 (Z : List (List Int)) (m : Int) (R : Bool) (X : List (List Int)) (t i : Int) (suf : List Int) : ∀ (pre : List Int), ((pre ++ suf).length : Int) ≤ 1048576 →
    Ev (fun k => if dupGo pre suf = true then impl_orders.l0 k Z m X t (wrap64 (i + 1)) else some false) R →
    Ev (fun k => impl_orders.l1 k Z m (pre ++ suf) X t i (pre ++ suf) ((pre ++ suf).length : Int) pre.length) R := by
  induction suf with
  | nil =>
    intro pre h hR
    refine Ev.succ ?_
    rw [dupGo] at hR
    simp only [if_true] at hR
    simp only [impl_orders.l1, List.append_nil, Int.lt_irrefl, if_false]
    exact hR
  | cons x suf ih =>
    intro pre h hR
    refine Ev.succ ?_
    rw [len_mid] at h ⊢
    have := ih (pre ++ [x]) (by rw [← app_one, len_mid]; exact h)
    rw [← app_one, len_mid, len_one] at this
    have ht : (pre ++ x :: suf).take ((pre.length : Int)).toNat = pre := by rw [Int.toNat_natCast]; exact List.take_left ..
    rw [dupGo] at hR
    simp only [impl_orders.l1]
    simp only [len_mid, if_pos (show ((pre.length : Int) < pre.length + suf.length + 1) by omega), if_pos (show (0 : Int) ≤ pre.length by omega), rd_mid, wrap_id (show (-9223372036854775808 : Int) ≤ pre.length + 1 by omega) (show ((pre.length : Int) + 1 ≤ 9223372036854775807) by omega), if_pos (show (pre.length : Int) ≤ pre.length + suf.length + 1 by omega), ht, slices_Contains_int.f]
    have hi : Ev (fun k => (slices_Index_int.f k pre x).bind fun t170 => (some (decide (t170 ≥ 0)))) (placeGo x pre 0).isSome := by
      refine Ev.bind (index_ev x pre (by omega)) ?_
      refine Ev.some_ ?_
      cases hp : placeGo x pre 0 with
      | none => rfl
      | some r =>
        have := placeGo_ge x pre 0 r hp
        exact decide_eq_true this
    refine Ev.bind hi ?_
    cases hp : (placeGo x pre 0).isSome with
    | true =>
      rw [hp] at hR
      simp only [Bool.not_true, Bool.false_and, Bool.false_eq_true, if_false] at hR
      simp only [if_true]
      exact hR
    | false =>
      rw [hp] at hR
      simp only [Bool.not_false, Bool.true_and] at hR
      simp only [Bool.false_eq_true, if_false]
      exact this hR
theorem orders_l0 (m : Int) (h0 : 0 ≤ m) (h1 : m ≤ 1048576) (suf : List (List Int)) (hs : ∀ x ∈ suf, x.length ≤ 1048576) : ∀ (pre : List (List Int)), ((pre ++ suf).length : Int) ≤ 1048576 →
    Ev (fun k => impl_orders.l0 k (pre ++ suf) m (pre ++ suf) ((pre ++ suf).length : Int) pre.length) (suf.all (rowOk m) && decide (1 ≤ ((pre ++ suf).length : Int) ∧ ((pre ++ suf).length : Int) ≤ 8)) := by
  induction suf with
  | nil =>
    intro pre h
    refine Ev.succ ?_
    simp only [impl_orders.l0, List.append_nil, Int.lt_irrefl, if_false, implIn, Option.bind_some, List.all_nil, Bool.true_and]
    exact Ev.now _
  | cons x suf ih =>
    intro pre h
    refine Ev.succ ?_
    rw [len_mid] at h ⊢
    have := ih (fun y hy => hs y (List.mem_cons_of_mem _ hy)) (pre ++ [x]) (by rw [← app_one, len_mid]; exact h)
    rw [← app_one, len_mid, len_one] at this
    have hx := hs x (List.mem_cons_self ..)
    have bad : Ev (fun k => impl_orders.j1 k (pre ++ x :: suf) m x (pre ++ x :: suf) ((pre.length : Int) + suf.length + 1) pre.length true) false := by
      refine Ev.succ ?_
      simp only [impl_orders.j1, if_true]
      exact Ev.now _
    rw [List.all_cons]
    simp only [impl_orders.l0]
    simp only [len_mid, if_pos (show ((pre.length : Int) < pre.length + suf.length + 1) by omega), if_pos (show (0 : Int) ≤ pre.length by omega), rdSS_mid, wrap_id (show (-9223372036854775808 : Int) ≤ m - 1 by omega) (show (m - 1 ≤ 9223372036854775807) by omega)]
    rw [rowOk]
    by_cases hl : (x.length : Int) = m
    · simp only [if_pos hl]
      rw [decide_eq_true hl, Bool.true_and]
      refine Ev.bind (implAll_ev _ _ x (by omega)) ?_
      cases ha : allIn 0 (m - 1) x with
      | true =>
        rw [Bool.true_and]
        refine Ev.succ ?_
        simp only [impl_orders.j1, Bool.not_true, Bool.false_eq_true, if_false]
        refine orders_l1 _ m _ _ _ _ x [] (by simp only [List.nil_append]; omega) ?_
        cases hd : dupGo [] x with
        | true =>
          simp only [if_true, Bool.true_and, wrap_id (show (-9223372036854775808 : Int) ≤ pre.length + 1 by omega) (show ((pre.length : Int) + 1 ≤ 9223372036854775807) by omega)]
          exact this
        | false =>
          simp only [Bool.false_eq_true, if_false, Bool.false_and]
          exact Ev.now _
      | false =>
        rw [Bool.false_and, Bool.false_and]
        exact bad
    · simp only [if_neg hl]
      rw [decide_eq_false hl, Bool.false_and, Bool.false_and]
      exact bad
theorem orders_ev (l : List (List Int)) (m : Int) (h0 : 0 ≤ m) (h1 : m ≤ 1048576) (hl : l.length ≤ 1048576) (hs : ∀ x ∈ l, x.length ≤ 1048576) : Ev (fun k => impl_orders.f k l m) (l.all (rowOk m) && decide (1 ≤ (l.length : Int) ∧ (l.length : Int) ≤ 8)) := by
  have := orders_l0 m h0 h1 l hs [] (by simp only [List.nil_append]; omega)
  exact this
def goodW (f0 f1 : List (List Int)) (f2 : List Int) : Bool := f0.all (rowOk f1.length) && (f1.all (rowOk f0.length) && (decide (1 ≤ (f0.length : Int) ∧ (f0.length : Int) ≤ 8) && (decide (1 ≤ (f1.length : Int) ∧ (f1.length : Int) ≤ 8) && (decide ((f2.length : Int) = f1.length) && allIn 0 8 f2))))
theorem implGoodW_ev {f0 f1 : List (List Int)} {f2 : List Int} (h : okW f0 f1 f2) : Ev (fun k => impl_GoodWishes.f k f0 f1 f2) (goodW f0 f1 f2) := by
  have a0 := h.a0
  have a1 := h.a1
  have a2 := h.a2
  unfold impl_GoodWishes.f goodW
  refine Ev.bind (orders_ev f0 f1.length (by omega) (by omega) a0 h.b0) ?_
  have e1 := orders_ev f1 f0.length (by omega) (by omega) a1 h.b1
  have e2 := implAll_ev 0 8 f2 (by omega)
  generalize f0.all (rowOk f1.length) = p0
  generalize f1.all (rowOk f0.length) = p1 at e1 ⊢
  generalize decide (1 ≤ (f0.length : Int) ∧ (f0.length : Int) ≤ 8) = q0
  generalize decide (1 ≤ (f1.length : Int) ∧ (f1.length : Int) ≤ 8) = q1 at e1 ⊢
  generalize allIn 0 8 f2 = p2 at e2 ⊢
  cases p0
  · simp only [Bool.false_and, Bool.false_eq_true, if_false]
    exact Ev.now _
  cases q0
  · simp only [Bool.and_false, Bool.false_and, Bool.true_and, Bool.false_eq_true, if_false]
    exact Ev.now _
  simp only [Bool.true_and, if_true]
  refine Ev.bind e1 ?_
  cases p1
  · simp only [Bool.false_and, Bool.false_eq_true, if_false]
    exact Ev.now _
  cases q1
  · simp only [Bool.and_false, Bool.false_and, Bool.true_and, Bool.false_eq_true, if_false]
    exact Ev.now _
  simp only [Bool.true_and, if_true]
  by_cases hc : (f2.length : Int) = f1.length
  · simp only [if_pos hc, decide_eq_true hc, Bool.true_and]
    exact Ev.bind e2 (Ev.now _)
  · simp only [if_neg hc, decide_eq_false hc, Bool.false_and]
    exact Ev.now _
theorem specW_l1 (f0 f1 : List (List Int)) (f2 : List Int) (h : okW f0 f1 f2) (suf : List (List Int)) : ∀ (pre : List (List Int)), pre ++ suf = f1 →
    Ev (fun k => spec_GoodWishes.l1 k f0.length f1.length f1 f1.length pre.length f0 f1 f2) (suf.all (rowOk f0.length) && (decide (1 ≤ (f0.length : Int) ∧ (f0.length : Int) ≤ 8) && (decide (1 ≤ (f1.length : Int) ∧ (f1.length : Int) ≤ 8) && (decide ((f2.length : Int) = f1.length) && allIn 0 8 f2)))) := by
  have a0 := h.a0
  have a1 := h.a1
  have a2 := h.a2
  induction suf with
  | nil =>
    intro pre hp
    refine Ev.succ ?_
    rw [List.append_nil] at hp
    subst hp
    have e2 := specAll_ev 0 8 f2 (by omega)
    simp only [spec_GoodWishes.l1, Int.lt_irrefl, if_false, List.all_nil, Bool.true_and, specIn, Option.bind_some]
    generalize decide (1 ≤ (f0.length : Int) ∧ (f0.length : Int) ≤ 8) = q0
    generalize decide (1 ≤ (pre.length : Int) ∧ (pre.length : Int) ≤ 8) = q1
    generalize allIn 0 8 f2 = p2 at e2 ⊢
    cases q0
    · simp only [Bool.false_and, Bool.false_eq_true, if_false]
      exact Ev.now _
    cases q1
    · simp only [Bool.false_and, Bool.true_and, Bool.false_eq_true, if_false, if_true]
      exact Ev.now _
    simp only [Bool.true_and, if_true]
    by_cases hc : (f2.length : Int) = pre.length
    · simp only [if_pos hc, decide_eq_true hc, Bool.true_and]
      exact Ev.bind e2 (Ev.now _)
    · simp only [if_neg hc, decide_eq_false hc, Bool.false_and]
      exact Ev.now _
  | cons x suf ih =>
    intro pre hp
    refine Ev.succ ?_
    have hn : (f1.length : Int) = pre.length + suf.length + 1 := by rw [← hp, len_mid]
    have hx : rd_L1 f1 (pre.length : Int) = x := by rw [← hp, rdSS_mid]
    have hm : x.length ≤ 1048576 := h.b1 x (by rw [← hp]; simp)
    have := ih (pre ++ [x]) (by rw [← app_one]; exact hp)
    rw [len_one] at this
    simp only [spec_GoodWishes.l1, if_pos (show (pre.length : Int) < f1.length by omega), if_pos (show (0 : Int) ≤ pre.length by omega), hx, wrap_id (show (-9223372036854775808 : Int) ≤ pre.length + 1 by omega) (show ((pre.length : Int) + 1 ≤ 9223372036854775807) by omega)]
    refine Ev.bind (l12All_ev x f0.length (by omega) (by omega) hm) ?_
    rw [List.all_cons]
    cases hr : rowOk f0.length x with
    | true =>
      simp only [if_true, Bool.true_and]
      exact this
    | false =>
      simp only [Bool.false_eq_true, if_false, Bool.false_and]
      exact Ev.now _
theorem specW_l0 (f0 f1 : List (List Int)) (f2 : List Int) (h : okW f0 f1 f2) (suf : List (List Int)) : ∀ (pre : List (List Int)), pre ++ suf = f0 →
    Ev (fun k => spec_GoodWishes.l0 k f0.length f1.length f0 f0.length pre.length f0 f1 f2) (suf.all (rowOk f1.length) && (f1.all (rowOk f0.length) && (decide (1 ≤ (f0.length : Int) ∧ (f0.length : Int) ≤ 8) && (decide (1 ≤ (f1.length : Int) ∧ (f1.length : Int) ≤ 8) && (decide ((f2.length : Int) = f1.length) && allIn 0 8 f2))))) := by
  have a0 := h.a0
  have a1 := h.a1
  induction suf with
  | nil =>
    intro pre hp
    refine Ev.succ ?_
    rw [List.append_nil] at hp
    have := specW_l1 f0 f1 f2 h f1 [] rfl
    subst hp
    simp only [spec_GoodWishes.l0, Int.lt_irrefl, if_false, List.all_nil, Bool.true_and]
    exact this
  | cons x suf ih =>
    intro pre hp
    refine Ev.succ ?_
    have hn : (f0.length : Int) = pre.length + suf.length + 1 := by rw [← hp, len_mid]
    have hx : rd_L1 f0 (pre.length : Int) = x := by rw [← hp, rdSS_mid]
    have hm : x.length ≤ 1048576 := h.b0 x (by rw [← hp]; simp)
    have := ih (pre ++ [x]) (by rw [← app_one]; exact hp)
    rw [len_one] at this
    simp only [spec_GoodWishes.l0, if_pos (show (pre.length : Int) < f0.length by omega), if_pos (show (0 : Int) ≤ pre.length by omega), hx, wrap_id (show (-9223372036854775808 : Int) ≤ pre.length + 1 by omega) (show ((pre.length : Int) + 1 ≤ 9223372036854775807) by omega)]
    refine Ev.bind (l12All_ev x f1.length (by omega) (by omega) hm) ?_
    rw [List.all_cons]
    cases hr : rowOk f1.length x with
    | true =>
      simp only [if_true, Bool.true_and]
      exact this
    | false =>
      simp only [Bool.false_eq_true, if_false, Bool.false_and]
      exact Ev.now _
theorem specGoodW_ev {f0 f1 : List (List Int)} {f2 : List Int} (h : okW f0 f1 f2) : Ev (fun k => spec_GoodWishes.f k f0 f1 f2) (goodW f0 f1 f2) := specW_l0 f0 f1 f2 h f0 [] rfl

end Go.Proofs.Ytoipbblhmcpneaa.P
