/- NameOf of the program and of the reference. -/
import Derived.Test.YtljdenmmlkjapaaQGoodOwners
import Derived.Test.YtljdenmmlkjapaaPx0
import Derived.Test.YtljdenmmlkjapaaPx5
import Derived.Test.YtljdenmmlkjapaaPx7
import Derived.Test.YtljdenmmlkjapaaPx9
namespace Go.Proofs.Ytljdenmmlkjapaa.P
open Go.RowKit Go.Proofs.YtljdenmmlkjapaaW.PrintWords Go.Proofs.YtljdenmmlkjapaaW.PrintLast
set_option linter.unusedVariables false
set_option linter.unusedSimpArgs false
def nameOfF (id : Int) : List S26 → Int × Bool
  | [] => (0, false)
  | x :: r => if x.f0 = id then (x.f1, true) else nameOfF id r
def nameOf (l : List S26) (id : Int) : Int × Bool := if goodOwn l = true then nameOfF id l else (0, false)
theorem specNameOf_l (id : Int) (suf : List S26) : ∀ (pre : List S26) (k : Nat), suf.length < k → (pre.length : Int) + suf.length ≤ 1099511627776 →
    spec_NameOf.l0 k id (pre ++ suf) ((pre ++ suf).length : Int) (pre.length : Int) = some (nameOfF id suf) := by
  induction suf with
  | nil =>
    intro pre k hk hb
    obtain ⟨k, rfl⟩ : ∃ m, k = m + 1 := ⟨k - 1, by omega⟩
    simp only [spec_NameOf.l0]
    rw [if_neg (by simp)]
    rfl
  | cons x suf ih =>
    intro pre k hk hb
    simp only [List.length_cons] at hk hb
    obtain ⟨k, rfl⟩ : ∃ m, k = m + 1 := ⟨k - 1, by omega⟩
    have h := ih (pre ++ [x]) k (by omega) (by simp <;> omega)
    rw [← app_one, len_one] at h
    simp only [spec_NameOf.l0]
    rw [if_pos (by simp <;> omega), if_pos (by omega), if_pos (by simp <;> omega), rdOwner_mid, wrap_id (x := (pre.length : Int) + 1) (by omega) (by omega), h]
    by_cases hx : x.f0 = id
    · rw [if_pos hx]; simp [nameOfF, hx]
    · rw [if_neg hx]; simp [nameOfF, hx]
theorem specNameOf_ev (l : List S26) (id : Int) (hl : l.length ≤ 1048576) : Ev (fun k => spec_NameOf.f k l id) (nameOf l id) := by
  unfold spec_NameOf.f
  refine Ev.bind (specGoodOwners_ev l hl) ?_
  unfold nameOf
  cases h : goodOwn l with
  | true =>
    simp only [if_true]
    exact ⟨l.length + 1, fun k hk => specNameOf_l id l [] k (by omega) (by simp <;> omega)⟩
  | false =>
    simp only [Bool.false_eq_true, if_false]
    exact Ev.now _
theorem nameOf_same : ∀ k a b c d, impl_NameOf.l0 k a b c d = spec_NameOf.l0 k a b c d
  | 0, _, _, _, _ => rfl
  | k + 1, a, b, c, d => by simp only [impl_NameOf.l0, spec_NameOf.l0, nameOf_same k]
theorem implNameOf_ev (l : List S26) (id : Int) (hl : l.length ≤ 1048576) : Ev (fun k => impl_NameOf.f k l id) (nameOf l id) := by
  refine Ev.congr (fun k => ?_) (specNameOf_ev l id hl)
  unfold impl_NameOf.f spec_NameOf.f
  simp only [nameOf_same]
  have e : impl_GoodOwners.f k l = spec_GoodOwners.f k l := goodOwners_same k _ _ _ _
  rw [e]

end Go.Proofs.Ytljdenmmlkjapaa.P
