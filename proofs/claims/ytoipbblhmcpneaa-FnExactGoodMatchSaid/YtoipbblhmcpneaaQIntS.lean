/- Copies, comparisons and marks of a list of numbers. -/
import Derived.Test.YtoipbblhmcpneaaQBase
import Derived.Test.YtoipbblhmcpneaaPx2
namespace Go.Proofs.Ytoipbblhmcpneaa.P
open Go.RowKit Go.Proofs.YtoipbblhmcpneaaW.PrintWords Go.Proofs.YtoipbblhmcpneaaW.PrintLast
set_option linter.unusedVariables false
set_option linter.unusedSimpArgs false
theorem rd_mid (pre : List Int) (x : Int) (suf : List Int) : rd (pre ++ x :: suf) (pre.length : Int) = x := getD_mid _ pre x suf
theorem eqIntS_l (s : List Int) : ∀ (t pre qre : List Int) (k : Nat), s.length < k → pre.length = qre.length → s.length = t.length → (pre.length : Int) + s.length ≤ 1099511627776 →
    laws_eqIntS.l0 k (pre ++ s) (qre ++ t) (pre.length : Int) = some (decide (s = t)) := by
  induction s with
  | nil =>
    intro t pre qre k hk hq hl hb
    obtain ⟨k, rfl⟩ : ∃ m, k = m + 1 := ⟨k - 1, by omega⟩
    obtain rfl : t = [] := List.eq_nil_of_length_eq_zero (by simpa using hl.symm)
    simp only [laws_eqIntS.l0]
    rw [if_neg (by simp)]
    simp
  | cons x s ih =>
    intro t pre qre k hk hq hl hb
    cases t with
    | nil => simp at hl
    | cons y t =>
      simp only [List.length_cons] at hk hl hb
      obtain ⟨k, rfl⟩ : ∃ m, k = m + 1 := ⟨k - 1, by omega⟩
      have h := ih t (pre ++ [x]) (qre ++ [y]) k (by omega) (by simp; omega) (by omega) (by simp; omega)
      have hy : rd (qre ++ y :: t) (pre.length : Int) = y := by rw [hq]; exact rd_mid qre y t
      simp only [laws_eqIntS.l0]
      rw [if_pos (by simp <;> omega), if_pos (by omega), if_pos (by simp <;> omega), rd_mid, hy, wrap_id (by omega) (by omega)]
      by_cases e : x = y
      · subst e
        rw [if_pos rfl]
        simpa using h
      · rw [if_neg e]
        simp [e]
theorem eqIntS_ev (s t : List Int) (hs : s.length ≤ 1099511627776) : Ev (fun k => laws_eqIntS.f k s t) (decide (s = t)) := by
  refine ⟨s.length + 1, fun k hk => ?_⟩
  show laws_eqIntS.f k s t = _
  unfold laws_eqIntS.f
  by_cases hl : s.length = t.length
  · rw [if_pos (by omega)]
    exact eqIntS_l s t [] [] k (by omega) rfl hl (by simp; omega)
  · rw [if_neg (by omega)]
    have : s ≠ t := fun e => hl (by rw [e])
    simp [this]

end Go.Proofs.Ytoipbblhmcpneaa.P
