/- Copies, comparisons and marks of a list of structs of three numbers. -/
import Derived.Test.YtcbofebikbbknaaQBase
import Derived.Test.YtcbofebikbbknaaPx0
import Derived.Test.YtcbofebikbbknaaPx2
import Derived.Test.YtcbofebikbbknaaPx3
import Derived.Test.YtcbofebikbbknaaPx6
import Derived.Test.YtcbofebikbbknaaPx8
namespace Go.Proofs.Ytcbofebikbbknaa.P
open Go.RowKit Go.Proofs.YtcbofebikbbknaaW.PrintWords Go.Proofs.YtcbofebikbbknaaW.PrintLast
set_option linter.unusedVariables false
set_option linter.unusedSimpArgs false
theorem rdSeen_mid (pre : List S53) (x : S53) (suf : List S53) : rd_T53 (pre ++ x :: suf) (pre.length : Int) = x := getD_mid _ pre x suf
theorem rdLSeen_mid (pre : List S51) (x : S51) (suf : List S51) : rd_T51 (pre ++ x :: suf) (pre.length : Int) = x := getD_mid _ pre x suf
instance decSeen : DecidableEq S53 := fun a b => decidable_of_iff (a.f0 = b.f0 ∧ a.f1 = b.f1 ∧ a.f2 = b.f2) (by cases a; cases b; simp)
def cvSeen (x : S51) : S53 := ⟨x.f0, x.f1, x.f2⟩
theorem toSeenS_l (suf : List S51) : ∀ (pre : List S51) (k : Nat), suf.length < k → (pre.length : Int) + suf.length ≤ 1099511627776 →
    laws_toSeenS.l0 k (pre ++ suf) (pre.map cvSeen ++ List.replicate suf.length z53) (pre.length : Int) = some ((pre ++ suf).map cvSeen) := by
  induction suf with
  | nil =>
    intro pre k hk hb
    obtain ⟨k, rfl⟩ : ∃ m, k = m + 1 := ⟨k - 1, by omega⟩
    simp only [laws_toSeenS.l0]
    rw [if_neg (by simp)]
    simp
  | cons x suf ih =>
    intro pre k hk hb
    simp only [List.length_cons] at hk hb
    obtain ⟨k, rfl⟩ : ∃ m, k = m + 1 := ⟨k - 1, by omega⟩
    have h := ih (pre ++ [x]) k (by omega) (by simp; omega)
    simp only [laws_toSeenS.l0]
    rw [if_pos (by simp; omega), if_pos (by omega), rdLSeen_mid]
    simp only [laws_toSeen.f, Option.bind_some]
    rw [if_pos (by simp; omega), wrap_id (by omega) (by omega)]
    have e : (pre.map cvSeen ++ List.replicate (x :: suf).length z53).set ((pre.length : Int)).toNat (⟨x.f0, x.f1, x.f2⟩ : S53) = (pre ++ [x]).map cvSeen ++ List.replicate suf.length z53 := by
      simp [List.replicate_succ, cvSeen]
    rw [e]
    simpa using h
theorem toSeenS_ev (l : List S51) (hl : l.length ≤ 1048576) : Ev (fun k => laws_toSeenS.f k l) (l.map cvSeen) := by
  refine ⟨l.length + 1, fun k hk => ?_⟩
  have h := toSeenS_l l [] k (by omega) (by simp; omega)
  show laws_toSeenS.f k l = _
  unfold laws_toSeenS.f
  rw [if_pos (by omega), if_pos (by simp; omega)]
  simpa using h
theorem eqSeen_is (a b : S53) : laws_eqSeen.f a.f0 a.f1 a.f2 b.f0 b.f1 b.f2 = some (decide (a = b)) := by
  cases a; cases b
  unfold laws_eqSeen.f
  simp only [S53.mk.injEq]
  split
  · split
    · split
      · rename_i h1 h2 h3; simp [h1, h2, h3]
      · rename_i h1 h2 h3; simp [h3]
    · rename_i h1 h2; simp [h2]
  · rename_i h1; simp [h1]
theorem eqSeenS_l (s : List S53) : ∀ (t pre qre : List S53) (k : Nat), s.length < k → pre.length = qre.length → s.length = t.length → (pre.length : Int) + s.length ≤ 1099511627776 →
    laws_eqSeenS.l0 k (pre ++ s) (qre ++ t) (pre.length : Int) = some (decide (s = t)) := by
  induction s with
  | nil =>
    intro t pre qre k hk hq hl hb
    obtain ⟨k, rfl⟩ : ∃ m, k = m + 1 := ⟨k - 1, by omega⟩
    obtain rfl : t = [] := List.eq_nil_of_length_eq_zero (by simpa using hl.symm)
    simp only [laws_eqSeenS.l0]
    rw [if_neg (by simp)]
    simp
  | cons x s ih =>
    intro t pre qre k hk hq hl hb
    cases t with
    | nil => simp at hl
    | cons y t =>
      simp only [List.length_cons] at hk hl hb
      obtain ⟨k, rfl⟩ : ∃ m, k = m + 1 := ⟨k - 1, by omega⟩
      have h := ih t (pre ++ [x]) (qre ++ [y]) k (by omega) (by simp; omega) (by omega) (by simp; omega)
      have hy : rd_T53 (qre ++ y :: t) (pre.length : Int) = y := by rw [hq]; exact rdSeen_mid qre y t
      simp only [laws_eqSeenS.l0]
      rw [if_pos (by simp; omega), if_pos (by omega), if_pos (by simp; omega), rdSeen_mid, hy, eqSeen_is, wrap_id (by omega) (by omega)]
      simp only [Option.bind_some]
      by_cases e : x = y
      · subst e
        rw [if_pos (by simp)]
        simpa using h
      · rw [if_neg (by simpa using e)]
        simp [e]
theorem eqSeenS_ev (s t : List S53) (hs : s.length ≤ 1099511627776) : Ev (fun k => laws_eqSeenS.f k s t) (decide (s = t)) := by
  refine ⟨s.length + 1, fun k hk => ?_⟩
  show laws_eqSeenS.f k s t = _
  unfold laws_eqSeenS.f
  by_cases hl : s.length = t.length
  · rw [if_pos (by omega)]
    exact eqSeenS_l s t [] [] k (by omega) rfl hl (by simp; omega)
  · rw [if_neg (by omega)]
    have : s ≠ t := fun e => hl (by rw [e])
    simp [this]
theorem szSeenS_is (l : List S51) (hl : l.length ≤ maxLen) (a : Int) (h0 : 0 ≤ a) (h1 : a ≤ 1048576) : laws_szSeenS.f l a = some (if a - l.length < 0 then -1 else a - l.length) := by
  have hm : l.length ≤ 9223372036854775807 := by unfold maxLen at hl; exact hl
  unfold laws_szSeenS.f
  rw [wrap_id (by omega) (by omega)]
  split <;> rfl

end Go.Proofs.Ytcbofebikbbknaa.P
