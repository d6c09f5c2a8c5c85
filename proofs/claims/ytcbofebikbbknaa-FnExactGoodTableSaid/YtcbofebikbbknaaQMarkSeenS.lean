/- Marks laid into a list of structs of three numbers, and found again. -/
import Derived.Test.YtcbofebikbbknaaQSeenS
import Derived.Test.YtcbofebikbbknaaPx0
import Derived.Test.YtcbofebikbbknaaPx4
namespace Go.Proofs.Ytcbofebikbbknaa.P
open Go.RowKit Go.Proofs.YtcbofebikbbknaaW.PrintWords Go.Proofs.YtcbofebikbbknaaW.PrintLast
set_option linter.unusedVariables false
set_option linter.unusedSimpArgs false
def marksSeen : Nat → Int → List S53
  | 0, _ => []
  | n + 1, q => ⟨q, q + 1, q + 2⟩ :: marksSeen n (q + 3)
theorem marksSeen_len : ∀ (n : Nat) (q : Int), (marksSeen n q).length = n
  | 0, _ => rfl
  | n + 1, q => by simp [marksSeen, marksSeen_len n]
theorem markSeenS_l (suf : List S53) : ∀ (pre : List S53) (k : Nat) (q : Int), suf.length < k → (pre.length : Int) + suf.length ≤ 1099511627776 → 0 ≤ q → q + 3 * suf.length ≤ 4611686018427387904 →
    laws_markSeenS.l0 k (pre ++ suf) q (pre.length : Int) = some (q + 3 * suf.length, pre ++ marksSeen suf.length q) := by
  induction suf with
  | nil =>
    intro pre k q hk hb h0 h1
    obtain ⟨k, rfl⟩ : ∃ m, k = m + 1 := ⟨k - 1, by omega⟩
    simp only [laws_markSeenS.l0]
    rw [if_neg (by simp)]
    simp [marksSeen]
  | cons x suf ih =>
    intro pre k q hk hb h0 h1
    simp only [List.length_cons] at hk hb h1
    obtain ⟨k, rfl⟩ : ∃ m, k = m + 1 := ⟨k - 1, by omega⟩
    have h := ih (pre ++ [⟨q, q + 1, q + 2⟩]) k (q + 3) (by omega) (by simp <;> omega) (by omega) (by omega)
    simp only [laws_markSeenS.l0]
    rw [if_pos (by simp <;> omega), if_pos (by omega)]
    simp only [Option.bind_some, set_mid, rdSeen_mid]
    rw [wrap_id (x := q + 1) (by omega) (by omega), wrap_id (x := q + 1 + 1) (by omega) (by omega), wrap_id (x := q + 1 + 1 + 1) (by omega) (by omega), wrap_id (x := (pre.length : Int) + 1) (by omega) (by omega)]
    rw [show q + 1 + 1 = q + 2 from by omega, show q + 2 + 1 = q + 3 from by omega]
    rw [show ((pre ++ [(⟨q, q + 1, q + 2⟩ : S53)]).length : Int) = (pre.length : Int) + 1 from by simp] at h
    rw [app_one, h]
    simp only [marksSeen, List.length_cons, List.append_assoc, List.cons_append, List.nil_append, Option.some.injEq, Prod.mk.injEq, and_true]
    omega
theorem markSeenS_ev (l : List S53) (q : Int) (hl : l.length ≤ 1099511627776) (h0 : 0 ≤ q) (h1 : q ≤ 1099511627776) : Ev (fun k => laws_markSeenS.f k l q) (q + 3 * l.length, marksSeen l.length q) := by
  refine ⟨l.length + 1, fun k hk => ?_⟩
  show laws_markSeenS.f k l q = _
  unfold laws_markSeenS.f
  simpa using markSeenS_l l [] k q (by omega) (by simp <;> omega) h0 (by omega)
theorem heldSeenS_l (n : Nat) : ∀ (pre : List S53) (k : Nat) (q : Int), n < k → (pre.length : Int) + n ≤ 1099511627776 → 0 ≤ q → q + 3 * n ≤ 4611686018427387904 →
    laws_heldSeenS.l0 k (pre ++ marksSeen n q) q (pre.length : Int) = some (q + 3 * n) := by
  induction n with
  | zero =>
    intro pre k q hk hb h0 h1
    obtain ⟨k, rfl⟩ : ∃ m, k = m + 1 := ⟨k - 1, by omega⟩
    simp only [laws_heldSeenS.l0]
    rw [show marksSeen 0 q = [] from rfl, if_neg (by simp)]
    simp
  | succ n ih =>
    intro pre k q hk hb h0 h1
    obtain ⟨k, rfl⟩ : ∃ m, k = m + 1 := ⟨k - 1, by omega⟩
    have h := ih (pre ++ [⟨q, q + 1, q + 2⟩]) k (q + 3) (by omega) (by simp <;> omega) (by omega) (by omega)
    simp only [laws_heldSeenS.l0]
    rw [show marksSeen (n + 1) q = ⟨q, q + 1, q + 2⟩ :: marksSeen n (q + 3) from rfl]
    rw [if_pos (by simp <;> omega), if_pos (by omega)]
    simp only [rdSeen_mid]
    rw [wrap_id (x := q + 1) (by omega) (by omega), wrap_id (x := q + 1 + 1) (by omega) (by omega), wrap_id (x := q + 1 + 1 + 1) (by omega) (by omega), wrap_id (x := (pre.length : Int) + 1) (by omega) (by omega)]
    rw [show q + 1 + 1 = q + 2 from by omega, show q + 2 + 1 = q + 3 from by omega, if_pos rfl, if_pos rfl, if_pos trivial]
    rw [show ((pre ++ [(⟨q, q + 1, q + 2⟩ : S53)]).length : Int) = (pre.length : Int) + 1 from by simp] at h
    rw [app_one, h]
    simp only [Option.some.injEq]
    omega
theorem heldSeenS_ev (n : Nat) (q : Int) (hl : n ≤ 1099511627776) (h0 : 0 ≤ q) (h1 : q ≤ 1099511627776) : Ev (fun k => laws_heldSeenS.f k (marksSeen n q) q) (q + 3 * n) := by
  refine ⟨n + 1, fun k hk => ?_⟩
  show laws_heldSeenS.f k (marksSeen n q) q = _
  unfold laws_heldSeenS.f
  exact heldSeenS_l n [] k q (by omega) (by simp <;> omega) h0 (by omega)

end Go.Proofs.Ytcbofebikbbknaa.P
