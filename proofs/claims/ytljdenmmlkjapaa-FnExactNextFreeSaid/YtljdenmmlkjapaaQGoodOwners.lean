/- GoodOwners of the program and of the reference are one test on a list of owners. -/
import Derived.Test.YtljdenmmlkjapaaQOwnerS
import Derived.Test.YtljdenmmlkjapaaPx0
import Derived.Test.YtljdenmmlkjapaaPx2
import Derived.Test.YtljdenmmlkjapaaPx5
import Derived.Test.YtljdenmmlkjapaaPx7
namespace Go.Proofs.Ytljdenmmlkjapaa.P
open Go.RowKit Go.Proofs.YtljdenmmlkjapaaW.PrintWords Go.Proofs.YtljdenmmlkjapaaW.PrintLast
set_option linter.unusedVariables false
set_option linter.unusedSimpArgs false
def isOwn (x : S26) : Bool := decide (1 ≤ x.f0 ∧ x.f0 ≤ 1000 ∧ 1 ≤ x.f1 ∧ x.f1 ≤ 50 ∧ 0 ≤ x.f2 ∧ x.f2 ≤ 255)
def goodOwnF : Option S26 → List S26 → Bool
  | _, [] => true
  | none, x :: r => isOwn x && goodOwnF (some x) r
  | some y, x :: r => isOwn x && (decide (y.f0 < x.f0) && goodOwnF (some x) r)
def goodOwn (l : List S26) : Bool := goodOwnF none l && decide (1 ≤ l.length ∧ l.length ≤ 10)
theorem specIn (a b c : Int) : spec_l1In.f a b c = some (decide (b ≤ a ∧ a ≤ c)) := by
  unfold spec_l1In.f
  by_cases h : b ≤ a <;> simp [h]
theorem implIn (a b c : Int) : impl_in.f a b c = some (decide (b ≤ a ∧ a ≤ c)) := specIn a b c
theorem specOwner (x : S26) : spec_l11Owner.f x.f0 x.f1 x.f2 = some (isOwn x) := by
  unfold spec_l11Owner.f isOwn
  simp only [specIn, Option.bind_some]
  by_cases h : 1 ≤ x.f0 ∧ x.f0 ≤ 1000
  · rw [if_pos (by simp [h])]
    by_cases h2 : 1 ≤ x.f1 ∧ x.f1 ≤ 50
    · rw [if_pos (by simp [h2])]
      simp [h, h2]
    · rw [if_neg (by simpa using h2)]
      simp only [Option.some.injEq, Bool.false_eq, decide_eq_false_iff_not]
      exact fun h3 => h2 ⟨h3.2.2.1, h3.2.2.2.1⟩
  · rw [if_neg (by simpa using h)]
    simp only [Option.some.injEq, Bool.false_eq, decide_eq_false_iff_not]
    exact fun h3 => h ⟨h3.1, h3.2.1⟩
theorem implOwner (x : S26) : impl_isOwner.f x.f0 x.f1 x.f2 = some (isOwn x) := specOwner x
theorem specGoodOwners_l (suf : List S26) : ∀ (pre : List S26) (k : Nat), suf.length < k → (pre.length : Int) + suf.length ≤ 1099511627776 →
    spec_GoodOwners.l0 k (pre ++ suf) (pre ++ suf) ((pre ++ suf).length : Int) (pre.length : Int) = some (goodOwnF pre.getLast? suf && decide (1 ≤ (pre ++ suf).length ∧ (pre ++ suf).length ≤ 10)) := by
  induction suf with
  | nil =>
    intro pre k hk hb
    obtain ⟨k, rfl⟩ : ∃ m, k = m + 1 := ⟨k - 1, by omega⟩
    simp only [spec_GoodOwners.l0]
    rw [if_neg (by simp), specIn]
    simp only [Option.bind_some, Option.some.injEq]
    have : goodOwnF pre.getLast? [] = true := by cases pre.getLast? <;> rfl
    rw [this, Bool.true_and]
    congr 1
    simp only [eq_iff_iff]
    omega
  | cons x suf ih =>
    intro pre k hk hb
    simp only [List.length_cons] at hk hb
    obtain ⟨k, rfl⟩ : ∃ m, k = m + 1 := ⟨k - 1, by omega⟩
    have h := ih (pre ++ [x]) k (by omega) (by simp <;> omega)
    rw [← app_one, len_one, List.getLast?_concat] at h
    simp only [spec_GoodOwners.l0]
    rw [if_pos (by simp <;> omega), if_pos (by omega), if_pos (by simp <;> omega), rdOwner_mid, specOwner, wrap_id (x := (pre.length : Int) + 1) (by omega) (by omega)]
    simp only [Option.bind_some]
    rcases nil_or_snoc pre with rfl | ⟨pre', y, rfl⟩
    · cases hx : isOwn x with
      | true =>
        rw [if_pos rfl, if_neg (by simp), h]
        simp [goodOwnF, hx]
      | false =>
        rw [if_neg (by decide)]
        simp [goodOwnF, hx]
    · have hy : rd_T26 ((pre' ++ [y]) ++ x :: suf) (wrap64 (((pre' ++ [y]).length : Int) - 1)) = y := by
        rw [wrap_id (by simp <;> omega) (by simp at hb ⊢ <;> omega)]
        rw [show ((pre' ++ [y]) ++ x :: suf) = pre' ++ y :: (x :: suf) by simp, show (((pre' ++ [y]).length : Int) - 1) = (pre'.length : Int) by simp]
        exact rdOwner_mid _ _ _
      cases hx : isOwn x with
      | true =>
        rw [if_pos rfl, if_pos (by simp <;> omega), if_pos (by rw [wrap_id (by simp <;> omega) (by simp at hb ⊢ <;> omega)]; simp), if_pos (by rw [wrap_id (by simp <;> omega) (by simp at hb ⊢ <;> omega)]; simp; omega), hy]
        by_cases hlt : y.f0 < x.f0
        · rw [if_neg (by omega), h]
          simp [goodOwnF, hx, hlt]
        · rw [if_pos (by omega)]
          simp [goodOwnF, hx, hlt]
      | false =>
        rw [if_neg (by decide)]
        simp [goodOwnF, hx]
theorem specGoodOwners_ev (l : List S26) (hl : l.length ≤ 1048576) : Ev (fun k => spec_GoodOwners.f k l) (goodOwn l) := by
  refine ⟨l.length + 1, fun k hk => ?_⟩
  show spec_GoodOwners.f k l = _
  unfold spec_GoodOwners.f
  exact specGoodOwners_l l [] k (by omega) (by simp <;> omega)
theorem goodOwners_same : ∀ k a b c d, impl_GoodOwners.l0 k a b c d = spec_GoodOwners.l0 k a b c d
  | 0, _, _, _, _ => rfl
  | k + 1, a, b, c, d => by
    have e : impl_isOwner.f = spec_l11Owner.f := rfl
    have e2 : impl_in.f = spec_l1In.f := rfl
    simp only [impl_GoodOwners.l0, spec_GoodOwners.l0, goodOwners_same k, e, e2]
theorem implGoodOwners_ev (l : List S26) (hl : l.length ≤ 1048576) : Ev (fun k => impl_GoodOwners.f k l) (goodOwn l) := by
  refine Ev.congr (fun k => ?_) (specGoodOwners_ev l hl)
  exact goodOwners_same k _ _ _ _
theorem goodOwn_len {l : List S26} (h : goodOwn l = true) : 1 ≤ l.length ∧ l.length ≤ 10 := by
  unfold goodOwn at h
  simp only [Bool.and_eq_true, decide_eq_true_eq] at h
  exact h.2
theorem goodOwnF_all : ∀ (l : List S26) (o : Option S26), goodOwnF o l = true → ∀ x ∈ l, isOwn x = true
  | [], _, _, x, hx => by simp at hx
  | y :: r, o, h, x, hx => by
    have h2 : isOwn y = true ∧ goodOwnF (some y) r = true := by
      cases o with
      | none => simpa [goodOwnF] using h
      | some z =>
        simp only [goodOwnF, Bool.and_eq_true] at h
        exact ⟨h.1, h.2.2⟩
    rcases List.mem_cons.1 hx with rfl | hx
    · exact h2.1
    · exact goodOwnF_all r _ h2.2 x hx
theorem goodOwn_all {l : List S26} (h : goodOwn l = true) : ∀ x ∈ l, isOwn x = true := by
  unfold goodOwn at h
  simp only [Bool.and_eq_true] at h
  exact goodOwnF_all l none h.1
theorem isOwn_iff (x : S26) : isOwn x = true ↔ (1 ≤ x.f0 ∧ x.f0 ≤ 1000 ∧ 1 ≤ x.f1 ∧ x.f1 ≤ 50 ∧ 0 ≤ x.f2 ∧ x.f2 ≤ 255) := by unfold isOwn; simp only [decide_eq_true_eq]

end Go.Proofs.Ytljdenmmlkjapaa.P
