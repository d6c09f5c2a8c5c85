/- Copies, comparisons and marks of a list of structs of three numbers. -/
import Derived.Test.YtljdenmmlkjapaaQBase
import Derived.Test.YtljdenmmlkjapaaPx0
import Derived.Test.YtljdenmmlkjapaaPx2
import Derived.Test.YtljdenmmlkjapaaPx4
import Derived.Test.YtljdenmmlkjapaaPx6
import Derived.Test.YtljdenmmlkjapaaPx8
namespace Go.Proofs.Ytljdenmmlkjapaa.P
open Go.RowKit Go.Proofs.YtljdenmmlkjapaaW.PrintWords Go.Proofs.YtljdenmmlkjapaaW.PrintLast
set_option linter.unusedVariables false
set_option linter.unusedSimpArgs false
theorem rdOwner_mid (pre : List S26) (x : S26) (suf : List S26) : rd_T26 (pre ++ x :: suf) (pre.length : Int) = x := getD_mid _ pre x suf
theorem rdLOwner_mid (pre : List S23) (x : S23) (suf : List S23) : rd_T23 (pre ++ x :: suf) (pre.length : Int) = x := getD_mid _ pre x suf
instance decOwner : DecidableEq S26 := fun a b => decidable_of_iff (a.f0 = b.f0 ∧ a.f1 = b.f1 ∧ a.f2 = b.f2) (by cases a; cases b; simp)
def cvOwner (x : S23) : S26 := ⟨x.f0, x.f1, x.f2⟩
theorem toOwnerS_l (suf : List S23) : ∀ (pre : List S23) (k : Nat), suf.length < k → (pre.length : Int) + suf.length ≤ 1099511627776 →
    laws_toOwnerS.l0 k (pre ++ suf) (pre.map cvOwner ++ List.replicate suf.length z26) (pre.length : Int) = some ((pre ++ suf).map cvOwner) := by
  induction suf with
  | nil =>
    intro pre k hk hb
    obtain ⟨k, rfl⟩ : ∃ m, k = m + 1 := ⟨k - 1, by omega⟩
    simp only [laws_toOwnerS.l0]
    rw [if_neg (by simp)]
    simp
  | cons x suf ih =>
    intro pre k hk hb
    simp only [List.length_cons] at hk hb
    obtain ⟨k, rfl⟩ : ∃ m, k = m + 1 := ⟨k - 1, by omega⟩
    have h := ih (pre ++ [x]) k (by omega) (by simp; omega)
    simp only [laws_toOwnerS.l0]
    rw [if_pos (by simp; omega), if_pos (by omega), rdLOwner_mid]
    simp only [laws_toOwner.f, Option.bind_some]
    rw [if_pos (by simp; omega), wrap_id (by omega) (by omega)]
    have e : (pre.map cvOwner ++ List.replicate (x :: suf).length z26).set ((pre.length : Int)).toNat (⟨x.f0, x.f1, x.f2⟩ : S26) = (pre ++ [x]).map cvOwner ++ List.replicate suf.length z26 := by
      simp [List.replicate_succ, cvOwner]
    rw [e]
    simpa using h
theorem toOwnerS_ev (l : List S23) (hl : l.length ≤ 1048576) : Ev (fun k => laws_toOwnerS.f k l) (l.map cvOwner) := by
  refine ⟨l.length + 1, fun k hk => ?_⟩
  have h := toOwnerS_l l [] k (by omega) (by simp; omega)
  show laws_toOwnerS.f k l = _
  unfold laws_toOwnerS.f
  rw [if_pos (by omega), if_pos (by simp; omega)]
  simpa using h
theorem eqOwner_is (a b : S26) : laws_eqOwner.f a.f0 a.f1 a.f2 b.f0 b.f1 b.f2 = some (decide (a = b)) := by
  cases a; cases b
  unfold laws_eqOwner.f
  simp only [S26.mk.injEq]
  split
  · split
    · split
      · rename_i h1 h2 h3; simp [h1, h2, h3]
      · rename_i h1 h2 h3; simp [h3]
    · rename_i h1 h2; simp [h2]
  · rename_i h1; simp [h1]
theorem eqOwnerS_l (s : List S26) : ∀ (t pre qre : List S26) (k : Nat), s.length < k → pre.length = qre.length → s.length = t.length → (pre.length : Int) + s.length ≤ 1099511627776 →
    laws_eqOwnerS.l0 k (pre ++ s) (qre ++ t) (pre.length : Int) = some (decide (s = t)) := by
  induction s with
  | nil =>
    intro t pre qre k hk hq hl hb
    obtain ⟨k, rfl⟩ : ∃ m, k = m + 1 := ⟨k - 1, by omega⟩
    obtain rfl : t = [] := List.eq_nil_of_length_eq_zero (by simpa using hl.symm)
    simp only [laws_eqOwnerS.l0]
    rw [if_neg (by simp)]
    simp
  | cons x s ih =>
    intro t pre qre k hk hq hl hb
    cases t with
    | nil => simp at hl
    | cons y t =>
      simp only [List.length_cons] at hk hl hb
      obtain ⟨k, rfl⟩ : ∃ m, k = m + 1 := ⟨k - 1, by omega⟩
      have h := ih t (pre ++ [x]) (qre ++ [y]) k (by omega) (by simp; omega) (by omega) (by simp; omega)
      have hy : rd_T26 (qre ++ y :: t) (pre.length : Int) = y := by rw [hq]; exact rdOwner_mid qre y t
      simp only [laws_eqOwnerS.l0]
      rw [if_pos (by simp; omega), if_pos (by omega), if_pos (by simp; omega), rdOwner_mid, hy, eqOwner_is, wrap_id (by omega) (by omega)]
      simp only [Option.bind_some]
      by_cases e : x = y
      · subst e
        rw [if_pos (by simp)]
        simpa using h
      · rw [if_neg (by simpa using e)]
        simp [e]
theorem eqOwnerS_ev (s t : List S26) (hs : s.length ≤ 1099511627776) : Ev (fun k => laws_eqOwnerS.f k s t) (decide (s = t)) := by
  refine ⟨s.length + 1, fun k hk => ?_⟩
  show laws_eqOwnerS.f k s t = _
  unfold laws_eqOwnerS.f
  by_cases hl : s.length = t.length
  · rw [if_pos (by omega)]
    exact eqOwnerS_l s t [] [] k (by omega) rfl hl (by simp; omega)
  · rw [if_neg (by omega)]
    have : s ≠ t := fun e => hl (by rw [e])
    simp [this]
theorem szOwnerS_is (l : List S23) (hl : l.length ≤ maxLen) (a : Int) (h0 : 0 ≤ a) (h1 : a ≤ 1048576) : laws_szOwnerS.f l a = some (if a - l.length < 0 then -1 else a - l.length) := by
  have hm : l.length ≤ 9223372036854775807 := by unfold maxLen at hl; exact hl
  unfold laws_szOwnerS.f
  rw [wrap_id (by omega) (by omega)]
  split <;> rfl

end Go.Proofs.Ytljdenmmlkjapaa.P
