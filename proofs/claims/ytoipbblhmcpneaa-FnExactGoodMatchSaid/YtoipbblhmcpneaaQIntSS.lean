/- Plain lemmas. -/
import Derived.Test.YtoipbblhmcpneaaQToIntS
import Derived.Test.YtoipbblhmcpneaaPx0
import Derived.Test.YtoipbblhmcpneaaPx3
import Derived.Test.YtoipbblhmcpneaaPx5
import Derived.Test.YtoipbblhmcpneaaPx8
namespace Go.Proofs.Ytoipbblhmcpneaa.P
open Go.RowKit Go.Proofs.YtoipbblhmcpneaaW.PrintWords Go.Proofs.YtoipbblhmcpneaaW.PrintLast
set_option linter.unusedVariables false
set_option linter.unusedSimpArgs false
-- rows of numbers: sizes, copies, comparisons
theorem rdSS_mid (pre : List (List Int)) (x : List Int) (suf : List (List Int)) : rd_L1 (pre ++ x :: suf) (pre.length : Int) = x := getD_mid _ pre x suf
theorem szIntS_is (l : List Int) (hl : l.length ≤ maxLen) (a : Int) (h0 : 0 ≤ a) (h1 : a ≤ 1048576) : laws_szIntS.f l a = some (if a - l.length < 0 then -1 else a - l.length) := by
  have hm : l.length ≤ 9223372036854775807 := by unfold maxLen at hl; exact hl
  unfold laws_szIntS.f
  rw [wrap_id (by omega) (by omega)]
  split <;> rfl
def szGo : List (List Int) → Int → Int
  | [], a => a
  | x :: r, a => if a - x.length < 0 then -1 else szGo r (a - x.length)
theorem szGo_le : ∀ (l : List (List Int)) (a : Int), 0 ≤ a → szGo l a ≤ a ∧ (¬ szGo l a < 0 → ∀ x ∈ l, (x.length : Int) ≤ a)
  | [], a, h => ⟨Int.le_refl _, fun _ x hx => by simp at hx⟩
  | y :: r, a, h => by
    rw [szGo]
    by_cases h1 : a - y.length < 0
    · rw [if_pos h1]
      exact ⟨by omega, fun hc => absurd (by omega) hc⟩
    · rw [if_neg h1]
      have h2 := szGo_le r (a - y.length) (by omega)
      refine ⟨by omega, fun hc x hx => ?_⟩
      rcases List.mem_cons.1 hx with rfl | hx
      · omega
      · have := h2.2 hc x hx
        omega
theorem szIntSS_l (suf : List (List Int)) : ∀ (pre : List (List Int)) (a : Int), ((pre ++ suf).length : Int) ≤ 1099511627776 → (∀ x ∈ suf, x.length ≤ maxLen) → 0 ≤ a → a ≤ 1048576 → Ev (fun k => laws_szIntSS.l0 k (pre ++ suf) a pre.length) (szGo suf a) := by
  induction suf with
  | nil =>
    intro pre a h hm h0 h1
    refine Ev.succ ?_
    simp only [laws_szIntSS.l0, List.append_nil, Int.lt_irrefl, if_false, szGo]
    exact Ev.now _
  | cons x suf ih =>
    intro pre a h hm h0 h1
    refine Ev.succ ?_
    rw [len_mid] at h
    have hx := hm x (List.mem_cons_self ..)
    simp only [laws_szIntSS.l0, len_mid, rdSS_mid, if_pos (show ((pre.length : Int) < pre.length + suf.length + 1) by omega), if_pos (show (0 : Int) ≤ pre.length by omega), wrap_id (show (-9223372036854775808 : Int) ≤ pre.length + 1 by omega) (show ((pre.length : Int) + 1 ≤ 9223372036854775807) by omega)]
    rw [szIntS_is x hx a h0 h1, szGo]
    simp only [Option.bind_some]
    by_cases h2 : a - x.length < 0
    · simp only [if_pos h2, if_pos (show (-1 : Int) < 0 by omega)]
      exact Ev.now _
    · simp only [if_neg h2]
      have := ih (pre ++ [x]) (a - x.length) (by rw [← app_one, len_mid]; exact h) (fun y hy => hm y (List.mem_cons_of_mem _ hy)) (by omega) (by omega)
      rw [← app_one, len_one] at this
      exact this
def szSS (l : List (List Int)) (a : Int) : Int := if a - l.length < 0 then -1 else szGo l (a - l.length)
theorem szIntSS_ev (l : List (List Int)) (hl : l.length ≤ maxLen) (hm : ∀ x ∈ l, x.length ≤ maxLen) (a : Int) (h0 : 0 ≤ a) (h1 : a ≤ 1048576) : Ev (fun k => laws_szIntSS.f k l a) (szSS l a) := by
  have hm' : l.length ≤ 9223372036854775807 := by unfold maxLen at hl; exact hl
  unfold laws_szIntSS.f szSS
  rw [wrap_id (by omega) (by omega)]
  by_cases h2 : a - l.length < 0
  · simp only [if_pos h2]
    exact Ev.now _
  · simp only [if_neg h2]
    exact szIntSS_l l [] (a - l.length) (by simp only [List.nil_append]; omega) hm (by omega) (by omega)
theorem szSS_le (l : List (List Int)) (a : Int) (h0 : 0 ≤ a) : szSS l a ≤ a ∧ (¬ szSS l a < 0 → (l.length : Int) ≤ a ∧ ∀ x ∈ l, (x.length : Int) ≤ a) := by
  unfold szSS
  by_cases h2 : a - l.length < 0
  · rw [if_pos h2]
    exact ⟨by omega, fun hc => absurd (by omega) hc⟩
  · rw [if_neg h2]
    have := szGo_le l (a - l.length) (by omega)
    exact ⟨by omega, fun hc => ⟨by omega, fun x hx => by have := this.2 hc x hx; omega⟩⟩
theorem toIntSS_l (suf : List (List Int)) (hs : ∀ x ∈ suf, x.length ≤ 1048576) : ∀ (pre : List (List Int)), ((pre ++ suf).length : Int) ≤ 1099511627776 → Ev (fun k => laws_toIntSS.l0 k (pre ++ suf) (pre ++ List.replicate suf.length []) pre.length) (pre ++ suf) := by
  induction suf with
  | nil =>
    intro pre h
    refine Ev.succ ?_
    simp only [laws_toIntSS.l0, List.append_nil, Int.lt_irrefl, if_false, List.length_nil, List.replicate_zero]
    exact Ev.now _
  | cons x suf ih =>
    intro pre h
    refine Ev.succ ?_
    rw [len_mid] at h
    have := ih (fun y hy => hs y (List.mem_cons_of_mem _ hy)) (pre ++ [x]) (by rw [← app_one, len_mid]; exact h)
    rw [← app_one, len_one] at this
    have hr : ((pre ++ List.replicate (x :: suf).length ([] : List Int)).length : Int) = pre.length + suf.length + 1 := by simp; omega
    simp only [laws_toIntSS.l0]
    simp only [len_mid, hr, if_pos (show ((pre.length : Int) < pre.length + suf.length + 1) by omega), if_pos (show (0 : Int) ≤ pre.length by omega), rdSS_mid, wrap_id (show (-9223372036854775808 : Int) ≤ pre.length + 1 by omega) (show ((pre.length : Int) + 1 ≤ 9223372036854775807) by omega)]
    refine Ev.bind (toIntS_ev x (hs x (List.mem_cons_self ..))) ?_
    rw [List.length_cons, List.replicate_succ, set_mid, app_one pre x (List.replicate suf.length [])]
    exact this
theorem toIntSS_ev (l : List (List Int)) (hl : l.length ≤ 1048576) (hs : ∀ x ∈ l, x.length ≤ 1048576) : Ev (fun k => laws_toIntSS.f k l) l := by
  unfold laws_toIntSS.f
  simp only [if_pos (show (0 : Int) ≤ (l.length : Int) by omega), Int.toNat_natCast, if_pos (show l.length ≤ 11728124029610 by omega)]
  have := toIntSS_l l hs [] (by simp only [List.nil_append]; omega)
  exact this
theorem eqSame_l (suf : List (List Int)) (hs : ∀ x ∈ suf, x.length ≤ 1048576) : ∀ (pre : List (List Int)), ((pre ++ suf).length : Int) ≤ 1099511627776 → Ev (fun k => laws_eqIntSS.l0 k (pre ++ suf) (pre ++ suf) pre.length) true := by
  induction suf with
  | nil =>
    intro pre h
    refine Ev.succ ?_
    simp only [laws_eqIntSS.l0, List.append_nil, Int.lt_irrefl, if_false]
    exact Ev.now _
  | cons x suf ih =>
    intro pre h
    refine Ev.succ ?_
    rw [len_mid] at h
    have := ih (fun y hy => hs y (List.mem_cons_of_mem _ hy)) (pre ++ [x]) (by rw [← app_one, len_mid]; exact h)
    rw [← app_one, len_one] at this
    have hx := hs x (List.mem_cons_self ..)
    simp only [laws_eqIntSS.l0]
    simp only [len_mid, if_pos (show ((pre.length : Int) < pre.length + suf.length + 1) by omega), if_pos (show (0 : Int) ≤ pre.length by omega), rdSS_mid, wrap_id (show (-9223372036854775808 : Int) ≤ pre.length + 1 by omega) (show ((pre.length : Int) + 1 ≤ 9223372036854775807) by omega)]
    refine Ev.bind (eqIntS_ev x x (by omega)) ?_
    simp only [decide_true, if_true]
    exact this
theorem eqSame_ev (l : List (List Int)) (hl : l.length ≤ 1048576) (hs : ∀ x ∈ l, x.length ≤ 1048576) : Ev (fun k => laws_eqIntSS.f k l l) true := by
  unfold laws_eqIntSS.f
  simp only [if_true]
  exact eqSame_l l hs [] (by simp only [List.nil_append]; omega)

end Go.Proofs.Ytoipbblhmcpneaa.P
