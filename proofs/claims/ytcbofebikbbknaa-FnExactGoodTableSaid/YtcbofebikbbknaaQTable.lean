/- Good tables, the row of a host, what is kept and what is learned: the program and the reference. -/
import Derived.Test.YtcbofebikbbknaaQSeenS
import Derived.Test.YtcbofebikbbknaaQMarkSeenS
import Derived.Test.YtcbofebikbbknaaPx0
import Derived.Test.YtcbofebikbbknaaPx2
import Derived.Test.YtcbofebikbbknaaPx3
import Derived.Test.YtcbofebikbbknaaPx4
import Derived.Test.YtcbofebikbbknaaPx6
import Derived.Test.YtcbofebikbbknaaPx7
import Derived.Test.YtcbofebikbbknaaPx8
import Derived.Test.YtcbofebikbbknaaPx9
namespace Go.Proofs.Ytcbofebikbbknaa.P
open Go.RowKit Go.Proofs.YtcbofebikbbknaaW.PrintWords Go.Proofs.YtcbofebikbbknaaW.PrintLast
set_option linter.unusedVariables false
set_option linter.unusedSimpArgs false
theorem specIn3 (a b c : Int) : spec_l1In.f a b c = some (decide (b ≤ a ∧ a ≤ c)) := by
  unfold spec_l1In.f
  by_cases h : a ≥ b
  · rw [if_pos h]
    congr 1
    by_cases h2 : a ≤ c
    · rw [decide_eq_true h2, decide_eq_true ⟨h, h2⟩]
    · rw [decide_eq_false h2, decide_eq_false (fun hc => h2 hc.2)]
  · rw [if_neg h, decide_eq_false (fun hc => h hc.1)]
theorem implIn3 (a b c : Int) : impl_in.f a b c = some (decide (b ≤ a ∧ a ≤ c)) := specIn3 a b c
def okSeen (x : S53) : Bool := decide (1 ≤ x.f0 ∧ x.f0 ≤ 99) && (decide (0 ≤ x.f1 ∧ x.f1 ≤ 9) && decide (0 ≤ x.f2 ∧ x.f2 ≤ 10000))
theorem specRow3 (x : S53) : spec_l13Row.f x.f0 x.f1 x.f2 = some (okSeen x) := by
  unfold spec_l13Row.f okSeen
  simp only [specIn3, Option.bind_some]
  by_cases h1 : 1 ≤ x.f0 ∧ x.f0 ≤ 99
  · by_cases h2 : 0 ≤ x.f1 ∧ x.f1 ≤ 9
    · simp only [h1, h2, and_self, decide_true, if_true, Bool.true_and]
    · simp only [h1, h2, and_self, decide_true, decide_false, if_true, Bool.true_and, Bool.false_and, Bool.false_eq_true, if_false]
  · simp only [h1, decide_false, Bool.false_and, Bool.false_eq_true, if_false]
theorem implSeen3 (x : S53) : impl_isSeen.f x.f0 x.f1 x.f2 = some (okSeen x) := specRow3 x
theorem eta3 (x : S53) : (⟨x.f0, x.f1, x.f2⟩ : S53) = x := rfl
/-- the time of the row ahead is no less -/
def later (o : Option S53) (x : S53) : Bool := match o with
  | none => true
  | some y => !decide (y.f2 < x.f2)
def goT (pre : List S53) : List S53 → Bool
  | [] => true
  | x :: r => okSeen x && (later pre.getLast? x && (!(pre.any fun y => y.f0 == x.f0) && goT (pre ++ [x]) r))
def goodT (a : Int) (l : List S53) : Bool := goT [] l && (decide (1 ≤ a ∧ a ≤ 8) && decide ((l.length : Int) ≤ a))
theorem specGoodT_l1 (l : List S53) (n i a : Int) (x : S53) (R : Bool) (hR : Ev (fun k => spec_GoodTable.l0 k l n (wrap64 (i + 1)) a l) R) (suf : List S53) : ∀ (pre : List S53), ((pre ++ suf).length : Int) ≤ 1099511627776 →
    Ev (fun k => spec_GoodTable.l1 k l n i (pre ++ suf) ((pre ++ suf).length : Int) pre.length a l x.f0 x.f1 x.f2) (!(suf.any fun y => y.f0 == x.f0) && R) := by
  induction suf with
  | nil =>
    intro pre h
    refine Ev.succ ?_
    simp only [spec_GoodTable.l1, List.append_nil, Int.lt_irrefl, if_false, List.any_nil, Bool.not_false, Bool.true_and]
    exact hR
  | cons y suf ih =>
    intro pre h
    refine Ev.succ ?_
    rw [len_mid] at h ⊢
    have := ih (pre ++ [y]) (by rw [← app_one, len_mid]; exact h)
    rw [← app_one, len_mid, len_one] at this
    simp only [spec_GoodTable.l1]
    simp only [if_pos (show ((pre.length : Int) < pre.length + suf.length + 1) by omega), if_pos (show (0 : Int) ≤ pre.length by omega), len_mid, rdSeen_mid, wrap_id (show (-9223372036854775808 : Int) ≤ pre.length + 1 by omega) (show ((pre.length : Int) + 1 ≤ 9223372036854775807) by omega), List.any_cons]
    by_cases h1 : y.f0 = x.f0
    · simp only [if_pos h1, beq_iff_eq.2 h1, Bool.true_or, Bool.not_true, Bool.false_and]
      exact Ev.now _
    · simp only [if_neg h1, beq_eq_false_iff_ne.2 h1, Bool.false_or]
      exact this
theorem specGoodT_l0 (a : Int) (l : List S53) (hl : l.length ≤ 1048576) (suf : List S53) : ∀ (pre : List S53), pre ++ suf = l →
    Ev (fun k => spec_GoodTable.l0 k l (l.length : Int) pre.length a l) (goT pre suf && (decide (1 ≤ a ∧ a ≤ 8) && decide ((l.length : Int) ≤ a))) := by
  induction suf with
  | nil =>
    intro pre h
    rw [List.append_nil] at h
    subst h
    refine Ev.succ ?_
    simp only [spec_GoodTable.l0, Int.lt_irrefl, if_false, specIn3, Option.bind_some, goT, Bool.true_and]
    by_cases h1 : 1 ≤ a ∧ a ≤ 8
    · simp only [h1, and_self, decide_true, if_true, Bool.true_and]
      exact Ev.now _
    · simp only [h1, decide_false, Bool.false_eq_true, if_false, Bool.false_and]
      exact Ev.now _
  | cons x suf ih =>
    intro pre h
    have h' := ih (pre ++ [x]) (by rw [← app_one]; exact h)
    rw [len_one] at h'
    refine Ev.succ ?_
    have hlen : (l.length : Int) = pre.length + suf.length + 1 := by rw [← h, len_mid]
    have hx : rd_T53 l (pre.length : Int) = x := by rw [← h]; exact rdSeen_mid pre x suf
    simp only [spec_GoodTable.l0]
    simp only [if_pos (show ((pre.length : Int) < l.length) by omega), if_pos (show (0 : Int) ≤ pre.length by omega), hx, specRow3, Option.bind_some]
    generalize hfin : (decide (1 ≤ a ∧ a ≤ 8) && decide ((l.length : Int) ≤ a)) = fin at h' ⊢
    have bad : ∀ (b : Bool), b = true → okSeen x = false ∨ later pre.getLast? x = false → Ev (fun k => spec_GoodTable.j1 k (pre.length : Int) l (l.length : Int) (pre.length : Int) b a l x.f0 x.f1 x.f2) (goT pre (x :: suf) && fin) := by
      intro b hb hc
      refine Ev.succ ?_
      simp only [spec_GoodTable.j1, hb, if_true, goT]
      rcases hc with hc | hc
      · rw [hc, Bool.false_and, Bool.false_and]
        exact Ev.now _
      · rw [hc, Bool.false_and, Bool.and_false, Bool.false_and]
        exact Ev.now _
    have good : okSeen x = true → later pre.getLast? x = true → Ev (fun k => spec_GoodTable.j1 k (pre.length : Int) l (l.length : Int) (pre.length : Int) false a l x.f0 x.f1 x.f2) (goT pre (x :: suf) && fin) := by
      intro hc hd
      refine Ev.succ ?_
      simp only [spec_GoodTable.j1, Bool.false_eq_true, if_false, if_pos (show (0 : Int) ≤ pre.length by omega), if_pos (show (pre.length : Int) ≤ l.length by omega), Option.bind_some, Int.toNat_natCast, goT, hc, hd, Bool.true_and]
      rw [show l.take pre.length = pre by rw [← h, List.take_left']; rfl, Bool.and_assoc]
      have := specGoodT_l1 l (l.length : Int) (pre.length : Int) a x _ (by rw [wrap_id (show (-9223372036854775808 : Int) ≤ pre.length + 1 by omega) (show ((pre.length : Int) + 1 ≤ 9223372036854775807) by omega)]; exact h') pre [] (by rw [List.nil_append]; omega)
      exact this
    cases hk : okSeen x with
    | false =>
      simp only [Bool.false_eq_true, if_false]
      exact bad true rfl (.inl hk)
    | true =>
      simp only [if_true]
      rcases nil_or_snoc pre with rfl | ⟨p, y, rfl⟩
      · simp only [List.length_nil, Int.ofNat_zero, gt_iff_lt, Int.lt_irrefl, if_false] at good ⊢
        exact good hk rfl
      · have hy : rd_T53 l (wrap64 (((p ++ [y]).length : Int) - 1)) = y := by
          rw [wrap_id (by omega) (by omega), len_one, show (p.length : Int) + 1 - 1 = p.length by omega, ← h, ← app_one]
          exact rdSeen_mid p y _
        have h0 : (0 : Int) ≤ wrap64 (((p ++ [y]).length : Int) - 1) ∧ wrap64 (((p ++ [y]).length : Int) - 1) < l.length := by
          rw [wrap_id (by omega) (by omega)]
          rw [len_one] at hlen ⊢
          omega
        simp only [if_pos (show (((p ++ [y]).length : Int)) > 0 by rw [len_one]; omega), if_pos h0.1, if_pos h0.2, hy]
        have hlast : (p ++ [y]).getLast? = some y := by simp
        by_cases ht : y.f2 < x.f2
        · rw [decide_eq_true ht]
          exact bad true rfl (.inr (by rw [hlast]; simp [later, ht]))
        · rw [decide_eq_false ht]
          exact good hk (by rw [hlast]; simp [later, ht])
theorem specGoodT_ev (a : Int) (l : List S53) (hl : l.length ≤ 1048576) : Ev (fun k => spec_GoodTable.f k a l) (goodT a l) := specGoodT_l0 a l hl l [] rfl
/-- the place of the first that a test takes -/
theorem ix_none (p : S53 → Bool) : ∀ (l : List S53) (i : Int), l.any p = false → ixF53 p l i = -1
  | [], _, _ => rfl
  | x :: r, i, h => by
    rw [List.any_cons, Bool.or_eq_false_iff] at h
    rw [ixF53, h.1, if_neg Bool.false_ne_true]
    exact ix_none p r (i + 1) h.2
theorem ix_some (p : S53 → Bool) : ∀ (l : List S53) (i : Int), l.any p = true → i ≤ ixF53 p l i ∧ ixF53 p l i < i + l.length
  | [], _, h => by simp at h
  | x :: r, i, h => by
    rw [List.any_cons] at h
    rw [ixF53, List.length_cons]
    by_cases hx : p x = true
    · rw [if_pos hx]
      omega
    · rw [if_neg hx]
      rw [Bool.eq_false_iff.2 hx, Bool.false_or] at h
      have := ix_some p r (i + 1) h
      omega
theorem ix_app (p : S53 → Bool) : ∀ (pre suf : List S53) (i : Int), pre.any p = true → ixF53 p (pre ++ suf) i = ixF53 p pre i
  | [], _, _, h => by simp at h
  | x :: r, suf, i, h => by
    rw [List.any_cons] at h
    rw [List.cons_append, ixF53, ixF53]
    by_cases hx : p x = true
    · rw [if_pos hx, if_pos hx]
    · rw [if_neg hx, if_neg hx]
      rw [Bool.eq_false_iff.2 hx, Bool.false_or] at h
      exact ix_app p r suf (i + 1) h
theorem ix_skip (p : S53 → Bool) : ∀ (pre suf : List S53) (i : Int), pre.any p = false → ixF53 p (pre ++ suf) i = ixF53 p suf (i + pre.length)
  | [], _, _, _ => by simp
  | x :: r, suf, i, h => by
    rw [List.any_cons, Bool.or_eq_false_iff] at h
    rw [List.cons_append, ixF53, h.1, if_neg Bool.false_ne_true, ix_skip p r suf (i + 1) h.2, List.length_cons]
    congr 1
    omega
theorem ix_mid (pre suf : List S53) (x : S53) : ixF53 (fun y => y.f0 == x.f0) (pre ++ x :: suf) 0 < (pre.length : Int) ↔ (pre.any fun y => y.f0 == x.f0) = true := by
  cases h : pre.any fun y => y.f0 == x.f0 with
  | true =>
    rw [ix_app _ _ _ _ h]
    have := ix_some _ pre 0 h
    simp only [iff_true]
    omega
  | false =>
    rw [ix_skip _ _ _ _ h, ixF53, if_pos (by simp)]
    simp
theorem implGoodT_l0 (a : Int) (l : List S53) (hl : l.length ≤ 1048576) (suf : List S53) : ∀ (pre : List S53), pre ++ suf = l →
    Ev (fun k => impl_GoodTable.l0 k l (l.length : Int) pre.length a l) (goT pre suf) := by
  induction suf with
  | nil =>
    intro pre h
    rw [List.append_nil] at h
    subst h
    refine Ev.succ ?_
    simp only [impl_GoodTable.l0, Int.lt_irrefl, if_false, goT]
    exact Ev.now _
  | cons x suf ih =>
    intro pre h
    have h' := ih (pre ++ [x]) (by rw [← app_one]; exact h)
    rw [len_one] at h'
    refine Ev.succ ?_
    have hlen : (l.length : Int) = pre.length + suf.length + 1 := by rw [← h, len_mid]
    have hx : rd_T53 l (pre.length : Int) = x := by rw [← h]; exact rdSeen_mid pre x suf
    have hm := ix_mid pre suf x
    rw [h] at hm
    simp only [impl_GoodTable.l0]
    simp only [if_pos (show ((pre.length : Int) < l.length) by omega), if_pos (show (0 : Int) ≤ pre.length by omega), hx, implSeen3, impl_row.f, Option.bind_some, goT, wrap_id (show (-9223372036854775808 : Int) ≤ pre.length + 1 by omega) (show ((pre.length : Int) + 1 ≤ 9223372036854775807) by omega)]
    cases hk : okSeen x with
    | false =>
      simp only [Bool.false_eq_true, if_false, Bool.false_and]
      exact Ev.now _
    | true =>
      simp only [if_true, Bool.true_and]
      by_cases hd : (pre.any fun y => y.f0 == x.f0) = true
      · simp only [if_pos (hm.2 hd), hd, Bool.not_true, Bool.false_and, Bool.and_false]
        exact Ev.now _
      · simp only [if_neg (fun c => hd (hm.1 c)), Bool.eq_false_iff.2 hd, Bool.not_false, Bool.true_and]
        rcases nil_or_snoc pre with rfl | ⟨p, y, rfl⟩
        · simp only [List.length_nil, Int.ofNat_zero, gt_iff_lt, Int.lt_irrefl, if_false] at h' ⊢
          exact h'
        · have hy : rd_T53 l (wrap64 (((p ++ [y]).length : Int) - 1)) = y := by
            rw [wrap_id (by omega) (by omega), len_one, show (p.length : Int) + 1 - 1 = p.length by omega, ← h, ← app_one]
            exact rdSeen_mid p y _
          have h0 : (0 : Int) ≤ wrap64 (((p ++ [y]).length : Int) - 1) ∧ wrap64 (((p ++ [y]).length : Int) - 1) < l.length := by
            rw [wrap_id (by omega) (by omega)]
            rw [len_one] at hlen ⊢
            omega
          simp only [if_pos (show (((p ++ [y]).length : Int)) > 0 by rw [len_one]; omega), if_pos h0.1, if_pos h0.2, hy]
          have hlast : (p ++ [y]).getLast? = some y := by simp
          by_cases ht : y.f2 < x.f2
          · simp only [if_pos ht, hlast, later, decide_eq_true ht, Bool.not_true, Bool.false_and]
            exact Ev.now _
          · simp only [if_neg ht, hlast, later, decide_eq_false ht, Bool.not_false, Bool.true_and]
            exact h'
theorem implGoodT_ev (a : Int) (l : List S53) (hl : l.length ≤ 1048576) : Ev (fun k => impl_GoodTable.f k a l) (goodT a l) := by
  unfold impl_GoodTable.f goodT
  simp only [implIn3, Option.bind_some]
  by_cases h1 : 1 ≤ a ∧ a ≤ 8
  · simp only [h1, and_self, decide_true, if_true, Bool.true_and]
    refine Ev.succ ?_
    by_cases h2 : (l.length : Int) > a
    · simp only [impl_GoodTable.j0, decide_eq_true h2, if_true, decide_eq_false (show ¬ (l.length : Int) ≤ a by omega), Bool.and_false]
      exact Ev.now _
    · simp only [impl_GoodTable.j0, decide_eq_false h2, Bool.false_eq_true, if_false, decide_eq_true (show (l.length : Int) ≤ a by omega), Bool.and_true]
      exact implGoodT_l0 a l hl l [] rfl
  · simp only [h1, decide_false, Bool.false_eq_true, if_false, Bool.false_and, Bool.and_false]
    refine Ev.succ ?_
    simp only [impl_GoodTable.j0, if_true]
    exact Ev.now _
theorem szTable_is (a0 : Int) (l : List S51) (hl : l.length ≤ maxLen) (a : Int) (h0 : 0 ≤ a) (h1 : a ≤ 1048576) : laws_szTable.f a0 l a = some (if a - l.length < 0 then -1 else a - l.length) := by
  unfold laws_szTable.f
  rw [szSeenS_is l hl a h0 h1]
  simp only [Option.bind_some]
  by_cases h : a - (l.length : Int) < 0
  · simp only [if_pos h, if_pos (show (-1 : Int) < 0 by omega)]
  · simp only [if_neg h]
theorem toTable_ev (a0 : Int) (l : List S51) (hl : l.length ≤ 1048576) : Ev (fun k => laws_toTable.f k a0 l) (a0, l.map cvSeen) := by
  unfold laws_toTable.f
  exact Ev.bind (toSeenS_ev l hl) (Ev.now _)
theorem eqTable_ev (a : Int) (l : List S53) (hl : l.length ≤ 1099511627776) : Ev (fun k => laws_eqTable.f k a l a l) true := by
  unfold laws_eqTable.f
  simp only [if_true]
  refine Ev.bind (eqSeenS_ev l l hl) ?_
  simp only [decide_true, if_true]
  exact Ev.now _
theorem markTable_ev (a : Int) (l : List S53) (q : Int) (hl : l.length ≤ 1099511627776) (h0 : 0 ≤ q) (h1 : q ≤ 1099511627776) : Ev (fun k => laws_markTable.f k a l q) (q + 3 * l.length, marksSeen l.length q) := by
  unfold laws_markTable.f
  exact Ev.bind (markSeenS_ev l q hl h0 h1) (Ev.now _)
theorem heldTable_ev (a : Int) (n : Nat) (q : Int) (hl : n ≤ 1099511627776) (h0 : 0 ≤ q) (h1 : q ≤ 1099511627776) : Ev (fun k => laws_heldTable.f k a (marksSeen n q) q) (q + 3 * n) := by
  unfold laws_heldTable.f
  refine Ev.bind (heldSeenS_ev n q hl h0 h1) ?_
  simp only [if_neg (show ¬ (q + 3 * (n : Int)) < 0 by omega)]
  exact Ev.now _

end Go.Proofs.Ytcbofebikbbknaa.P
