/- The first two owners with one name, as the program and the reference find them. -/
import Derived.Test.YtljdenmmlkjapaaQGoodOwners
import Derived.Test.YtljdenmmlkjapaaPx0
import Derived.Test.YtljdenmmlkjapaaPx13
import Derived.Test.YtljdenmmlkjapaaPx14
namespace Go.Proofs.Ytljdenmmlkjapaa.P
open Go.RowKit Go.Proofs.YtljdenmmlkjapaaW.PrintWords Go.Proofs.YtljdenmmlkjapaaW.PrintLast
set_option linter.unusedVariables false
set_option linter.unusedSimpArgs false
def fstSame (nm : Int) : List S26 → Int → Option Int
  | [], _ => none
  | x :: r, j => if x.f1 = nm then some j else fstSame nm r (j + 1)
def clashM : List S26 → Int → Option (Int × Int)
  | [], _ => none
  | x :: r, i => match fstSame x.f1 r (i + 1) with
    | some j => some (i, j)
    | none => clashM r (i + 1)
def clash2 : Option (Int × Int) → Int × Int
  | none => (-1, -1)
  | some p => p
def clash3 : Option (Int × Int) → Int × Int × Bool
  | none => (0, 0, false)
  | some p => (p.1, p.2, true)
theorem specClash_l1 (i a nm c : Int) (r : Int × Int) (suf : List S26) : ∀ (pre : List S26), (pre.length : Int) + suf.length ≤ 1099511627776 →
    (match fstSame nm suf (pre.length : Int) with | some j => r = (i, j) | none => Ev (fun k => spec_l11Clash.l0 k (pre ++ suf) (pre ++ suf) ((pre ++ suf).length : Int) (wrap64 (i + 1))) r) →
    Ev (fun k => spec_l11Clash.l1 k (pre ++ suf) i (pre.length : Int) (pre ++ suf) ((pre ++ suf).length : Int) i a nm c) r := by
  induction suf with
  | nil =>
    intro pre hb h
    refine Ev.succ ?_
    simp only [spec_l11Clash.l1]
    simp only [if_neg (show ¬ (pre.length : Int) < ((pre ++ ([] : List S26)).length : Int) by simp)]
    exact h
  | cons x suf ih =>
    intro pre hb h
    simp only [List.length_cons] at hb
    refine Ev.succ ?_
    simp only [spec_l11Clash.l1]
    simp only [if_pos (show (pre.length : Int) < ((pre ++ x :: suf).length : Int) by simp <;> omega), if_pos (show (0 : Int) ≤ (pre.length : Int) by omega), rdOwner_mid, wrap_id (x := (pre.length : Int) + 1) (by omega) (by omega)]
    by_cases hx : x.f1 = nm
    · simp only [if_pos hx]
      simp only [fstSame, if_pos hx] at h
      exact Ev.some_ h.symm
    · simp only [if_neg hx]
      simp only [fstSame, if_neg hx] at h
      have := ih (pre ++ [x]) (by simp <;> omega) (by rw [← app_one, len_one]; exact h)
      rw [← app_one, len_one] at this
      exact this
theorem specClash_l0 (suf : List S26) : ∀ (pre : List S26), (pre.length : Int) + suf.length ≤ 1099511627776 →
    Ev (fun k => spec_l11Clash.l0 k (pre ++ suf) (pre ++ suf) ((pre ++ suf).length : Int) (pre.length : Int)) (clash2 (clashM suf (pre.length : Int))) := by
  induction suf with
  | nil =>
    intro pre hb
    refine Ev.succ ?_
    simp only [spec_l11Clash.l0]
    simp only [if_neg (show ¬ (pre.length : Int) < ((pre ++ ([] : List S26)).length : Int) by simp)]
    exact Ev.now _
  | cons x suf ih =>
    intro pre hb
    simp only [List.length_cons] at hb
    refine Ev.succ ?_
    simp only [spec_l11Clash.l0]
    have c1 : (pre.length : Int) < ((pre ++ x :: suf).length : Int) := by simp <;> omega
    simp only [if_pos c1, if_pos (show (0 : Int) ≤ (pre.length : Int) by omega), rdOwner_mid, wrap_id (x := (pre.length : Int) + 1) (by omega) (by omega)]
    have h := ih (pre ++ [x]) (by simp <;> omega)
    rw [← app_one, len_one] at h
    have h2 := specClash_l1 (pre.length : Int) x.f0 x.f1 x.f2 (clash2 (clashM (x :: suf) (pre.length : Int))) suf (pre ++ [x]) (by simp <;> omega)
    rw [← app_one, len_one] at h2
    refine h2 ?_
    cases hf : fstSame x.f1 suf ((pre.length : Int) + 1) with
    | some j => simp [clashM, hf, clash2]
    | none =>
      simp only [wrap_id (x := (pre.length : Int) + 1) (by omega) (by omega)]
      simpa [clashM, hf] using h
theorem specClash_ev (l : List S26) (hl : l.length ≤ 1048576) : Ev (fun k => spec_l11Clash.f k l) (clash2 (clashM l 0)) := by
  unfold spec_l11Clash.f
  exact specClash_l0 l [] (by simp <;> omega)
theorem implClash_l1 (i a nm c : Int) (r : Int × Int × Bool) (suf : List S26) : ∀ (pre : List S26), (pre.length : Int) + suf.length ≤ 1099511627776 →
    (match fstSame nm suf (pre.length : Int) with | some j => r = (i, j, true) | none => Ev (fun k => impl_clash.l0 k (pre ++ suf) (pre ++ suf) ((pre ++ suf).length : Int) (wrap64 (i + 1))) r) →
    Ev (fun k => impl_clash.l1 k (pre ++ suf) i (pre.length : Int) (pre ++ suf) ((pre ++ suf).length : Int) i a nm c) r := by
  induction suf with
  | nil =>
    intro pre hb h
    refine Ev.succ ?_
    simp only [impl_clash.l1]
    simp only [if_neg (show ¬ (pre.length : Int) < ((pre ++ ([] : List S26)).length : Int) by simp)]
    exact h
  | cons x suf ih =>
    intro pre hb h
    simp only [List.length_cons] at hb
    refine Ev.succ ?_
    simp only [impl_clash.l1]
    simp only [if_pos (show (pre.length : Int) < ((pre ++ x :: suf).length : Int) by simp <;> omega), if_pos (show (0 : Int) ≤ (pre.length : Int) by omega), rdOwner_mid, wrap_id (x := (pre.length : Int) + 1) (by omega) (by omega)]
    by_cases hx : x.f1 = nm
    · simp only [if_pos hx.symm]
      simp only [fstSame, if_pos hx] at h
      exact Ev.some_ h.symm
    · simp only [if_neg (fun e => hx (Eq.symm e) : ¬ nm = x.f1)]
      simp only [fstSame, if_neg hx] at h
      have := ih (pre ++ [x]) (by simp <;> omega) (by rw [← app_one, len_one]; exact h)
      rw [← app_one, len_one] at this
      exact this
theorem implClash_l0 (suf : List S26) : ∀ (pre : List S26), (pre.length : Int) + suf.length ≤ 1099511627776 →
    Ev (fun k => impl_clash.l0 k (pre ++ suf) (pre ++ suf) ((pre ++ suf).length : Int) (pre.length : Int)) (clash3 (clashM suf (pre.length : Int))) := by
  induction suf with
  | nil =>
    intro pre hb
    refine Ev.succ ?_
    simp only [impl_clash.l0]
    simp only [if_neg (show ¬ (pre.length : Int) < ((pre ++ ([] : List S26)).length : Int) by simp)]
    exact Ev.now _
  | cons x suf ih =>
    intro pre hb
    simp only [List.length_cons] at hb
    refine Ev.succ ?_
    simp only [impl_clash.l0]
    have c1 : (pre.length : Int) < ((pre ++ x :: suf).length : Int) := by simp <;> omega
    simp only [if_pos c1, if_pos (show (0 : Int) ≤ (pre.length : Int) by omega), rdOwner_mid, wrap_id (x := (pre.length : Int) + 1) (by omega) (by omega)]
    have h := ih (pre ++ [x]) (by simp <;> omega)
    rw [← app_one, len_one] at h
    have h2 := implClash_l1 (pre.length : Int) x.f0 x.f1 x.f2 (clash3 (clashM (x :: suf) (pre.length : Int))) suf (pre ++ [x]) (by simp <;> omega)
    rw [← app_one, len_one] at h2
    refine h2 ?_
    cases hf : fstSame x.f1 suf ((pre.length : Int) + 1) with
    | some j => simp [clashM, hf, clash3]
    | none =>
      simp only [wrap_id (x := (pre.length : Int) + 1) (by omega) (by omega)]
      simpa [clashM, hf] using h
theorem implClash_ev (l : List S26) (hl : l.length ≤ 1048576) : Ev (fun k => impl_clash.f k l) (clash3 (clashM l 0)) := by
  unfold impl_clash.f
  exact implClash_l0 l [] (by simp <;> omega)
/-- Where the two lie, and what is said of them. -/
theorem fstSame_some (nm : Int) : ∀ (l : List S26) (b j : Int), fstSame nm l b = some j → ∃ n : Nat, j = b + n ∧ n < l.length ∧ (l.getD n z26).f1 = nm
  | [], _, _, h => by simp [fstSame] at h
  | x :: r, b, j, h => by
    by_cases hx : x.f1 = nm
    · simp only [fstSame, if_pos hx, Option.some.injEq] at h
      exact ⟨0, by omega, by simp, by simpa using hx⟩
    · simp only [fstSame, if_neg hx] at h
      obtain ⟨n, h1, h2, h3⟩ := fstSame_some nm r (b + 1) j h
      exact ⟨n + 1, by omega, by simpa using h2, by simpa using h3⟩
theorem clashM_some : ∀ (l : List S26) (b i j : Int), clashM l b = some (i, j) → ∃ n m : Nat, i = b + n ∧ j = b + m ∧ n < m ∧ m < l.length ∧ (l.getD n z26).f1 = (l.getD m z26).f1
  | [], _, _, _, h => by simp [clashM] at h
  | x :: r, b, i, j, h => by
    cases hf : fstSame x.f1 r (b + 1) with
    | some q =>
      simp only [clashM, hf, Option.some.injEq, Prod.mk.injEq] at h
      obtain ⟨n, h1, h2, h3⟩ := fstSame_some _ _ _ _ hf
      exact ⟨0, n + 1, by omega, by omega, by omega, by simpa using h2, by simpa using h3.symm⟩
    | none =>
      simp only [clashM, hf] at h
      obtain ⟨n, m, h1, h2, h3, h4, h5⟩ := clashM_some r (b + 1) i j h
      exact ⟨n + 1, m + 1, by omega, by omega, by omega, by simpa using h4, by simpa using h5⟩

end Go.Proofs.Ytljdenmmlkjapaa.P
