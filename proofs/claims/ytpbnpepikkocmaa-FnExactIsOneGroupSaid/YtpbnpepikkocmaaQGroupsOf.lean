/- GroupsOf of the program and of the reference: the program goes round till nothing changes, the reference as often as there are spots; both come to the same. -/
import Derived.Test.YtpbnpepikkocmaaQGoodEdges
import Derived.Test.YtpbnpepikkocmaaQComp
import Derived.Test.YtpbnpepikkocmaaQIntS
import Derived.Test.YtpbnpepikkocmaaPx0
import Derived.Test.YtpbnpepikkocmaaPx4
import Derived.Test.YtpbnpepikkocmaaPx7
import Derived.Test.YtpbnpepikkocmaaPx8
import Derived.Test.YtpbnpepikkocmaaPx10
namespace Go.Proofs.Ytpbnpepikkocmaa.P
open Go.RowKit Go.Proofs.YtpbnpepikkocmaaW.PrintWords Go.Proofs.YtpbnpepikkocmaaW.PrintLast
set_option linter.unusedVariables false
set_option linter.unusedSimpArgs false
def prs (l : List S52) : List (Nat × Nat) := l.map fun e => (e.f0.toNat, e.f1.toNat)
theorem prs_in {n : Int} {l : List S52} (h : ∀ x ∈ l, 0 ≤ x.f0 ∧ x.f0 < x.f1 ∧ x.f1 < n) : InG n.toNat (prs l) := by
  intro e he
  unfold prs at he
  obtain ⟨x, hx, rfl⟩ := List.mem_map.1 he
  have := h x hx
  constructor
  · show x.f0.toNat < n.toNat
    omega
  · show x.f1.toNat < n.toNat
    omega
theorem least_is (a b : Int) : spec_l1Least.f a b = some (min a b) := by
  unfold spec_l1Least.f
  split
  · rw [Int.min_eq_left (by omega)]
  · rw [Int.min_eq_right (by omega)]
theorem mn_is (a b : Int) : mn a b = min a b := by
  unfold mn
  split
  · rw [Int.min_eq_right (by omega)]
  · rw [Int.min_eq_left (by omega)]
theorem specGroups_l2 (l : List S52) (m : Nat) (c : Int) (R : List Int) (suf : List S52) : ∀ (pre : List S52) (out : List Int), pre ++ suf = l → (l.length : Int) ≤ 1099511627776 → out.length = m → (∀ x ∈ suf, 0 ≤ x.f0 ∧ x.f0 < x.f1 ∧ x.f1 < m) →
    Ev (fun k => spec_l8Groups.l1 k l (roundG (prs suf) out) (m : Int) (wrap64 (c + 1))) R →
    Ev (fun k => spec_l8Groups.l2 k l out (m : Int) c l (l.length : Int) (pre.length : Int)) R := by
  induction suf with
  | nil =>
    intro pre out he hb ho hx h
    refine Ev.succ ?_
    simp only [spec_l8Groups.l2]
    have c1 : ¬ (pre.length : Int) < (l.length : Int) := by rw [← he]; simp
    simp only [if_neg c1]
    exact h
  | cons x suf ih =>
    intro pre out he hb ho hx h
    have hl : l.length = pre.length + suf.length + 1 := by rw [← he]; simp <;> omega
    have c1 : (pre.length : Int) < (l.length : Int) := by omega
    have c0 : (0 : Int) ≤ (pre.length : Int) := by omega
    have hr : rd_T52 l (pre.length : Int) = x := by rw [← he]; exact rdEdge_mid _ _ _
    have hxx := hx x (by simp)
    refine Ev.succ ?_
    simp only [spec_l8Groups.l2]
    simp only [if_pos c1, if_pos c0, hr, if_pos (show 0 ≤ x.f0 by omega), if_pos (show x.f0 < (out.length : Int) by omega), if_pos (show 0 ≤ x.f1 by omega), if_pos (show x.f1 < (out.length : Int) by omega), least_is, Option.bind_some, wrap_id (x := (pre.length : Int) + 1) (by omega) (by omega)]
    have h2 := ih (pre ++ [x]) (stepG out (x.f0.toNat, x.f1.toNat)) (by rw [← he]; simp) hb (by rw [stepG_len]; exact ho) (fun y hy => hx y (by simp [hy])) h
    rw [len_one] at h2
    exact h2
theorem specGroups_l1 (l : List S52) (o0 : List Int) (hb : (l.length : Int) ≤ 1099511627776) (hm : o0.length ≤ 1000) (hx : ∀ x ∈ l, 0 ≤ x.f0 ∧ x.f0 < x.f1 ∧ x.f1 < o0.length) (d : Nat) : ∀ (c : Nat), c + d = o0.length →
    Ev (fun k => spec_l8Groups.l1 k l (iterG (prs l) o0 c) (o0.length : Int) (c : Int)) (iterG (prs l) o0 o0.length) := by
  induction d with
  | zero =>
    intro c hc
    refine Ev.succ ?_
    simp only [spec_l8Groups.l1]
    simp only [if_neg (show ¬ (c : Int) < (o0.length : Int) by omega)]
    refine Ev.some_ ?_
    rw [show c = o0.length by omega]
  | succ d ih =>
    intro c hc
    refine Ev.succ ?_
    simp only [spec_l8Groups.l1]
    simp only [if_pos (show (c : Int) < (o0.length : Int) by omega)]
    refine specGroups_l2 l o0.length (c : Int) _ l [] _ rfl hb (iterG_len _ _ _) hx ?_
    have h := ih (c + 1) (by omega)
    rw [wrap_id (x := (c : Int) + 1) (by omega) (by omega), show (c : Int) + 1 = ((c + 1 : Nat) : Int) by omega]
    exact h
theorem own0_succ (n : Nat) : own0 (n + 1) = own0 n ++ [(n : Int)] := by
  unfold own0
  rw [List.range_succ, List.map_append]
  rfl
theorem specGroups_l0 (n : Nat) (hn : n ≤ 1000) (l : List S52) (hb : (l.length : Int) ≤ 1099511627776) (hx : ∀ x ∈ l, 0 ≤ x.f0 ∧ x.f0 < x.f1 ∧ x.f1 < n) (d : Nat) : ∀ (c : Nat), c + d = n →
    Ev (fun k => spec_l8Groups.l0 k (n : Int) l (own0 c) (c : Int)) (grp n (prs l)) := by
  induction d with
  | zero =>
    intro c hc
    refine Ev.succ ?_
    simp only [spec_l8Groups.l0]
    simp only [if_neg (show ¬ (c : Int) < (n : Int) by omega)]
    have e : c = n := by omega
    subst e
    have h := specGroups_l1 l (own0 c) hb (by rw [own0_len]; exact hn) (by rw [own0_len]; exact hx) c 0 (by rw [own0_len]; omega)
    unfold grp
    rw [own0_len] at h ⊢
    exact h
  | succ d ih =>
    intro c hc
    refine Ev.succ ?_
    simp only [spec_l8Groups.l0]
    simp only [if_pos (show (c : Int) < (n : Int) by omega), if_pos (show (own0 c).length < 17592186044416 by rw [own0_len]; omega), wrap_id (x := (c : Int) + 1) (by omega) (by omega)]
    have h := ih (c + 1) (by omega)
    rw [own0_succ, show ((c + 1 : Nat) : Int) = (c : Int) + 1 by omega] at h
    exact h
def groupsM (n : Int) (l : List S52) : List Int := grp n.toNat (prs l)
theorem specGroups_ev (n : Int) (l : List S52) (h0 : 0 ≤ n) (hn : n ≤ 1000) (hb : (l.length : Int) ≤ 1048576) (hx : ∀ x ∈ l, 0 ≤ x.f0 ∧ x.f0 < x.f1 ∧ x.f1 < n) : Ev (fun k => spec_l8Groups.f k n l) (groupsM n l) := by
  obtain ⟨m, rfl⟩ := Int.eq_ofNat_of_zero_le h0
  unfold spec_l8Groups.f groupsM
  rw [Int.toNat_natCast]
  have h := specGroups_l0 m (by omega) l (by omega) hx m 0 (by omega)
  exact h
/-- the program's own way -/
theorem stepG_ne {out : List Int} {e : Nat × Nat} (h1 : e.1 < out.length) (h2 : e.2 < out.length) : stepG out e = out ↔ (at_ out e.1 = min (at_ out e.1) (at_ out e.2) ∧ at_ out e.2 = min (at_ out e.1) (at_ out e.2)) := by
  constructor
  · intro h
    have a1 := stepG_at out e h1 h2 e.1
    have a2 := stepG_at out e h1 h2 e.2
    rw [h] at a1 a2
    simp only [true_or, or_true, if_true] at a1 a2
    exact ⟨a1, a2⟩
  · intro h
    apply List.ext_getElem?
    intro v
    by_cases hv : v < out.length
    · have l1 : v < (stepG out e).length := by rw [stepG_len]; exact hv
      have a := stepG_at out e h1 h2 v
      have : at_ (stepG out e) v = at_ out v := by
        rw [a]
        split
        · rename_i hve
          rcases hve with rfl | rfl
          · exact h.1.symm
          · exact h.2.symm
        · rfl
      unfold at_ at this
      rw [List.getD_eq_getElem?_getD, List.getD_eq_getElem?_getD, List.getElem?_eq_getElem l1, List.getElem?_eq_getElem hv] at this
      rw [List.getElem?_eq_getElem l1, List.getElem?_eq_getElem hv]
      exact congrArg some this
    · rw [List.getElem?_eq_none (by rw [stepG_len]; omega), List.getElem?_eq_none (by omega)]
theorem round_moved {out : List Int} {e : Nat × Nat} {E : List (Nat × Nat)} (h1 : e.1 < out.length) (h2 : e.2 < out.length) (hE : InG out.length E) (h : stepG out e ≠ out) : roundG E (stepG out e) ≠ out := by
  intro hc
  refine h ((stepG_ne h1 h2).2 ?_)
  have key : ∀ v, at_ out v ≤ at_ (stepG out e) v := fun v => by
    have := roundG_le E (stepG out e) (by rw [stepG_len]; exact hE) v
    rw [hc] at this
    exact this
  have a1 := stepG_at out e h1 h2 e.1
  have a2 := stepG_at out e h1 h2 e.2
  simp only [true_or, or_true, if_true] at a1 a2
  have k1 := key e.1
  have k2 := key e.2
  omega
def pairs (l : List S52) : List (List Int) := l.map fun e => [e.f0, e.f1]
theorem rdLL_mid (pre : List (List Int)) (x : List Int) (suf : List (List Int)) : rd_L3 (pre ++ x :: suf) (pre.length : Int) = x := getD_mid _ pre x suf
theorem implGroups_l2 (P : List (List Int)) (R : List Int) (suf : List S52) : ∀ (pre : List S52) (out : List Int) (b : Bool), pairs (pre ++ suf) = P → (P.length : Int) ≤ 1099511627776 → (∀ x ∈ suf, 0 ≤ x.f0 ∧ x.f0 < x.f1 ∧ x.f1 < out.length) →
    Ev (fun k => impl_groups.l1 k P (roundG (prs suf) out) (b || !decide (roundG (prs suf) out = out))) R →
    Ev (fun k => impl_groups.l2 k P out b P (P.length : Int) (pre.length : Int)) R := by
  induction suf with
  | nil =>
    intro pre out b he hb hx h
    refine Ev.succ ?_
    simp only [impl_groups.l2]
    have c1 : ¬ (pre.length : Int) < (P.length : Int) := by rw [← he]; simp [pairs]
    simp only [if_neg c1]
    have e : roundG (prs []) out = out := rfl
    rw [e] at h
    simpa using h
  | cons x suf ih =>
    intro pre out b he hb hx h
    have hl : P.length = pre.length + suf.length + 1 := by rw [← he]; simp [pairs] <;> omega
    have c1 : (pre.length : Int) < (P.length : Int) := by omega
    have c0 : (0 : Int) ≤ (pre.length : Int) := by omega
    have hr : rd_L3 P (pre.length : Int) = [x.f0, x.f1] := by
      rw [← he]
      have := rdLL_mid (pairs pre) [x.f0, x.f1] (pairs suf)
      unfold pairs at this ⊢
      rw [List.length_map] at this
      simpa using this
    have hxx := hx x (by simp)
    have i1 : x.f0.toNat < out.length := by omega
    have i2 : x.f1.toNat < out.length := by omega
    have hE : InG out.length (prs suf) := by
      have := prs_in (n := (out.length : Int)) (l := suf) (fun y hy => hx y (by simp [hy]))
      simpa using this
    refine Ev.succ ?_
    simp only [impl_groups.l2]
    have r0 : rd [x.f0, x.f1] 0 = x.f0 := rfl
    have r1 : rd [x.f0, x.f1] 1 = x.f1 := rfl
    have q1 : (0 : Int) < (([x.f0, x.f1] : List Int).length : Int) := by simp
    have q2 : (1 : Int) < (([x.f0, x.f1] : List Int).length : Int) := by simp
    simp only [if_pos c1, if_pos c0, hr, if_pos q1, if_pos q2, r0, r1, if_pos (show 0 ≤ x.f0 by omega), if_pos (show x.f0 < (out.length : Int) by omega), if_pos (show 0 ≤ x.f1 by omega), if_pos (show x.f1 < (out.length : Int) by omega), mn_is, wrap_id (x := (pre.length : Int) + 1) (by omega) (by omega)]
    have go : ∀ b2 : Bool, b2 = (b || !decide (stepG out (x.f0.toNat, x.f1.toNat) = out)) →
        Ev (fun k => impl_groups.l2 k P (stepG out (x.f0.toNat, x.f1.toNat)) b2 P (P.length : Int) ((pre.length : Int) + 1)) R := by
      intro b2 hb2
      have h2 := ih (pre ++ [x]) (stepG out (x.f0.toNat, x.f1.toNat)) b2 (by rw [← he]; simp) hb (by rw [stepG_len]; exact fun y hy => hx y (by simp [hy])) (by
        have e : (b2 || !decide (roundG (prs suf) (stepG out (x.f0.toNat, x.f1.toNat)) = stepG out (x.f0.toNat, x.f1.toNat))) = (b || !decide (roundG (prs (x :: suf)) out = out)) := by
          rw [hb2]
          have er : roundG (prs (x :: suf)) out = roundG (prs suf) (stepG out (x.f0.toNat, x.f1.toNat)) := rfl
          rw [er]
          by_cases hs : stepG out (x.f0.toNat, x.f1.toNat) = out
          · simp only [hs, decide_true, Bool.not_true, Bool.or_false]
          · have hm := round_moved i1 i2 hE hs
            simp [hs, hm]
        rw [e]
        exact h)
      rw [len_one] at h2
      exact h2
    have hs := stepG_ne (out := out) (e := (x.f0.toNat, x.f1.toNat)) i1 i2
    have es : (out.set x.f0.toNat (min (rd out x.f0) (rd out x.f1))).set x.f1.toNat (min (rd out x.f0) (rd out x.f1)) = stepG out (x.f0.toNat, x.f1.toNat) := rfl
    have e1 : rd out x.f0 = at_ out x.f0.toNat := rfl
    have e2 : rd out x.f1 = at_ out x.f1.toNat := rfl
    rw [es]
    cases b with
    | true =>
      simp only [if_true]
      exact go true (by simp)
    | false =>
      simp only [Bool.false_eq_true, if_false]
      by_cases g1 : rd out x.f0 = min (rd out x.f0) (rd out x.f1)
      · simp only [if_pos g1]
        refine go _ ?_
        rw [Bool.false_or]
        by_cases g2 : rd out x.f1 = min (rd out x.f0) (rd out x.f1)
        · have : stepG out (x.f0.toNat, x.f1.toNat) = out := hs.2 ⟨g1, g2⟩
          rw [← g2]
          simp [this]
        · have : stepG out (x.f0.toNat, x.f1.toNat) ≠ out := fun h => g2 (hs.1 h).2
          simp only [this, decide_false, Bool.not_false]
          rw [bne_iff_ne]
          exact g2
      · simp only [if_neg g1]
        refine go true ?_
        have : stepG out (x.f0.toNat, x.f1.toNat) ≠ out := fun h => g1 (hs.1 h).1
        simp [this]
theorem implGroups_l1 (l : List S52) (n : Nat) (hb : (l.length : Int) ≤ 1048576) (hx : ∀ x ∈ l, 0 ≤ x.f0 ∧ x.f0 < x.f1 ∧ x.f1 < n) (d : Nat) : ∀ (c : Nat), c + d = n + 1 →
    Ev (fun k => impl_groups.l1 k (pairs l) (iterG (prs l) (own0 n) c) true) (grp n (prs l)) := by
  have hE : InG n (prs l) := by
    have := prs_in (n := (n : Int)) (l := l) hx
    simpa using this
  have stay : ∀ j, iterG (prs l) (own0 n) (n + j) = grp n (prs l) := by
    intro j
    induction j with
    | zero => rfl
    | succ j ihj =>
      show roundG (prs l) (iterG (prs l) (own0 n) (n + j)) = _
      rw [ihj]
      exact iterG_fix hE
  have fixed : ∀ c, c ≤ n → roundG (prs l) (iterG (prs l) (own0 n) c) = iterG (prs l) (own0 n) c → iterG (prs l) (own0 n) c = grp n (prs l) := by
    intro c hc hf
    have : ∀ j, iterG (prs l) (own0 n) (c + j) = iterG (prs l) (own0 n) c := by
      intro j
      induction j with
      | zero => rfl
      | succ j ihj =>
        show roundG (prs l) (iterG (prs l) (own0 n) (c + j)) = _
        rw [ihj]
        exact hf
    have h := this (n - c)
    rw [show c + (n - c) = n by omega] at h
    exact h.symm
  induction d with
  | zero =>
    intro c hc
    have hc : c = n + 1 := by omega
    subst hc
    refine Ev.succ ?_
    simp only [impl_groups.l1, if_true]
    refine implGroups_l2 (pairs l) _ l [] _ false rfl (by simp [pairs]; omega) (by rw [iterG_len, own0_len]; exact hx) ?_
    have e1 : iterG (prs l) (own0 n) (n + 1) = grp n (prs l) := stay 1
    rw [e1, iterG_fix hE]
    simp only [decide_true, Bool.not_true, Bool.or_false]
    refine Ev.succ ?_
    simp only [impl_groups.l1, Bool.false_eq_true, if_false]
    exact Ev.now _
  | succ d ih =>
    intro c hc
    refine Ev.succ ?_
    simp only [impl_groups.l1, if_true]
    refine implGroups_l2 (pairs l) _ l [] _ false rfl (by simp [pairs]; omega) (by rw [iterG_len, own0_len]; exact hx) ?_
    by_cases hf : roundG (prs l) (iterG (prs l) (own0 n) c) = iterG (prs l) (own0 n) c
    · rw [hf]
      simp only [decide_true, Bool.not_true, Bool.or_false]
      refine Ev.succ ?_
      simp only [impl_groups.l1, Bool.false_eq_true, if_false]
      exact Ev.some_ (fixed c (by omega) hf)
    · simp only [hf, decide_false, Bool.not_false, Bool.or_true]
      exact ih (c + 1) (by omega)
theorem implGroups_l0 (n : Nat) (hn : n ≤ 1000) (l : List S52) (hb : (l.length : Int) ≤ 1048576) (hx : ∀ x ∈ l, 0 ≤ x.f0 ∧ x.f0 < x.f1 ∧ x.f1 < n) (d : Nat) : ∀ (c : Nat), c + d = n →
    Ev (fun k => impl_groups.l0 k (pairs l) (own0 c ++ List.replicate d 0) (n : Int) (c : Int)) (grp n (prs l)) := by
  induction d with
  | zero =>
    intro c hc
    have hc : c = n := by omega
    subst hc
    refine Ev.succ ?_
    simp only [impl_groups.l0]
    simp only [if_neg (show ¬ (c : Int) < (c : Int) by omega), List.replicate_zero, List.append_nil]
    exact implGroups_l1 l c hb hx (c + 1) 0 (by omega)
  | succ d ih =>
    intro c hc
    refine Ev.succ ?_
    simp only [impl_groups.l0]
    have hl : (own0 c ++ List.replicate (d + 1) (0 : Int)).length = n := by simp [own0_len]; omega
    simp only [if_pos (show (c : Int) < (n : Int) by omega), if_pos (show (0 : Int) ≤ (c : Int) by omega), if_pos (show (c : Int) < ((own0 c ++ List.replicate (d + 1) (0 : Int)).length : Int) by omega), wrap_id (x := (c : Int) + 1) (by omega) (by omega)]
    have h := ih (c + 1) (by omega)
    have e : (own0 c ++ List.replicate (d + 1) (0 : Int)).set ((c : Int)).toNat (c : Int) = own0 (c + 1) ++ List.replicate d 0 := by
      rw [own0_succ, List.replicate_succ]
      have := set_mid (own0 c) (0 : Int) (c : Int) (List.replicate d 0)
      rw [own0_len] at this
      rw [this]
      simp
    rw [e, show ((c : Int)) + 1 = ((c + 1 : Nat) : Int) by omega]
    exact h
theorem implGroups_ev (n : Int) (l : List S52) (h0 : 0 ≤ n) (hn : n ≤ 1000) (hb : (l.length : Int) ≤ 1048576) (hx : ∀ x ∈ l, 0 ≤ x.f0 ∧ x.f0 < x.f1 ∧ x.f1 < n) : Ev (fun k => impl_groups.f k n (pairs l)) (groupsM n l) := by
  obtain ⟨m, rfl⟩ := Int.eq_ofNat_of_zero_le h0
  unfold impl_groups.f groupsM
  simp only [if_pos h0, Int.toNat_natCast, if_pos (show m ≤ 35184372088832 by omega), Option.bind_some, List.length_replicate]
  have h := implGroups_l0 m (by omega) l hb hx m 0 (by omega)
  exact h
theorem implGroupsOf_l0 (n : Int) (R : List Int) (suf : List S52) : ∀ (pre : List S52), ((pre ++ suf).length : Int) ≤ 1048576 → Ev (fun k => impl_groups.f k n (pairs (pre ++ suf))) R →
    Ev (fun k => impl_groupsOf.l0 k n (pairs pre) (pre ++ suf) ((pre ++ suf).length : Int) (pre.length : Int)) R := by
  induction suf with
  | nil =>
    intro pre hb h
    refine Ev.succ ?_
    simp only [impl_groupsOf.l0]
    simp only [if_neg (show ¬ (pre.length : Int) < ((pre ++ ([] : List S52)).length : Int) by simp)]
    rw [List.append_nil] at h
    exact Ev.bind h (Ev.now _)
  | cons x suf ih =>
    intro pre hb h
    have c1 : (pre.length : Int) < ((pre ++ x :: suf).length : Int) := by simp <;> omega
    have c0 : (0 : Int) ≤ (pre.length : Int) := by omega
    have hp : (pairs pre).length < 5864062014805 := by simp [pairs]; omega
    refine Ev.succ ?_
    simp only [impl_groupsOf.l0]
    simp only [if_pos c1, if_pos c0, rdEdge_mid, if_pos hp, wrap_id (x := (pre.length : Int) + 1) (by omega) (by omega)]
    have h2 := ih (pre ++ [x]) (by rw [← app_one]; exact hb) (by rw [← app_one]; exact h)
    rw [← app_one, len_one] at h2
    have e : pairs (pre ++ [x]) = pairs pre ++ [[x.f0, x.f1]] := by simp [pairs]
    rw [e] at h2
    exact h2
theorem implGroupsOf_ev (n : Int) (l : List S52) (h0 : 0 ≤ n) (hn : n ≤ 1000) (hb : (l.length : Int) ≤ 1048576) (hx : ∀ x ∈ l, 0 ≤ x.f0 ∧ x.f0 < x.f1 ∧ x.f1 < n) : Ev (fun k => impl_groupsOf.f k n l) (groupsM n l) := by
  unfold impl_groupsOf.f
  exact implGroupsOf_l0 n _ l [] (by simpa using hb) (implGroups_ev n l h0 hn hb hx)
def groupsOf (n : Int) (l : List S52) : List Int × Bool := if goodE n l = true then (groupsM n l, true) else ([], false)
theorem specGroupsOf_ev (n : Int) (l : List S52) (hl : l.length ≤ 1048576) : Ev (fun k => spec_GroupsOf.f k n l) (groupsOf n l) := by
  unfold spec_GroupsOf.f
  refine Ev.bind (specGoodE_ev n l hl) ?_
  unfold groupsOf
  cases hg : goodE n l with
  | false => simp only [Bool.false_eq_true, if_false]; exact Ev.now _
  | true =>
    have hn := goodE_n hg
    simp only [if_true]
    exact Ev.bind (specGroups_ev n l (by omega) (by omega) (by omega) (fun x hx => by have := goodE_edge hg x hx; omega)) (Ev.now _)
theorem implGroupsOfTop_ev (n : Int) (l : List S52) (hl : l.length ≤ 1048576) : Ev (fun k => impl_GroupsOf.f k n l) (groupsOf n l) := by
  unfold impl_GroupsOf.f
  refine Ev.bind (implGoodE_ev n l hl) ?_
  unfold groupsOf
  cases hg : goodE n l with
  | false => simp only [Bool.false_eq_true, if_false]; exact Ev.now _
  | true =>
    have hn := goodE_n hg
    simp only [if_true]
    exact Ev.bind (implGroupsOf_ev n l (by omega) (by omega) (by omega) (fun x hx => by have := goodE_edge hg x hx; omega)) (Ev.now _)
theorem groupsOf_len (n : Int) (l : List S52) : (groupsOf n l).1.length ≤ 12 := by
  unfold groupsOf
  split
  · rename_i hg
    have := goodE_n hg
    unfold groupsM
    simp only [grp_len]
    omega
  · simp

end Go.Proofs.Ytpbnpepikkocmaa.P
