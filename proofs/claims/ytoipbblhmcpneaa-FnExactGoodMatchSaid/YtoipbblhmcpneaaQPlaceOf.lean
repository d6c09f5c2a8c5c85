/- Plain lemmas. -/
import Derived.Test.YtoipbblhmcpneaaQToIntS
import Derived.Test.YtoipbblhmcpneaaPx1
import Derived.Test.YtoipbblhmcpneaaPx2
namespace Go.Proofs.Ytoipbblhmcpneaa.P
open Go.RowKit Go.Proofs.YtoipbblhmcpneaaW.PrintWords Go.Proofs.YtoipbblhmcpneaaW.PrintLast
set_option linter.unusedVariables false
set_option linter.unusedSimpArgs false
-- the place of a number in a list, both sides
def placeGo (x : Int) : List Int → Int → Option Int
  | [], _ => none
  | y :: r, i => if y = x then some i else placeGo x r (i + 1)
theorem has_l (x : Int) (suf : List Int) : ∀ (pre : List Int), ((pre ++ suf).length : Int) ≤ 1099511627776 → Ev (fun k => spec_l1Has.l0 k x (pre ++ suf) ((pre ++ suf).length : Int) pre.length) (placeGo x suf pre.length).isSome := by
  induction suf with
  | nil =>
    intro pre h
    refine Ev.succ ?_
    simp only [spec_l1Has.l0, List.append_nil, Int.lt_irrefl, if_false, placeGo, Option.isSome_none]
    exact Ev.now _
  | cons y suf ih =>
    intro pre h
    refine Ev.succ ?_
    rw [len_mid] at h ⊢
    have := ih (pre ++ [y]) (by rw [← app_one, len_mid]; exact h)
    rw [← app_one, len_mid, len_one] at this
    simp only [spec_l1Has.l0, placeGo]
    simp only [if_pos (show ((pre.length : Int) < pre.length + suf.length + 1) by omega), if_pos (show (0 : Int) ≤ pre.length by omega), len_mid, rd_mid, wrap_id (show (-9223372036854775808 : Int) ≤ pre.length + 1 by omega) (show ((pre.length : Int) + 1 ≤ 9223372036854775807) by omega)]
    by_cases h1 : y = x
    · simp only [if_pos h1, Option.isSome_some]
      exact Ev.now _
    · simp only [if_neg h1]
      exact this
theorem place_l (l : List Int) (x : Int) (suf : List Int) : ∀ (pre : List Int), ((pre ++ suf).length : Int) ≤ 1099511627776 → Ev (fun k => spec_l12Place.l0 k l x (pre ++ suf) ((pre ++ suf).length : Int) pre.length) ((placeGo x suf pre.length).getD (l.length : Int)) := by
  induction suf with
  | nil =>
    intro pre h
    refine Ev.succ ?_
    simp only [spec_l12Place.l0, List.append_nil, Int.lt_irrefl, if_false, placeGo, Option.getD_none]
    exact Ev.now _
  | cons y suf ih =>
    intro pre h
    refine Ev.succ ?_
    rw [len_mid] at h ⊢
    have := ih (pre ++ [y]) (by rw [← app_one, len_mid]; exact h)
    rw [← app_one, len_mid, len_one] at this
    simp only [spec_l12Place.l0, placeGo]
    simp only [if_pos (show ((pre.length : Int) < pre.length + suf.length + 1) by omega), if_pos (show (0 : Int) ≤ pre.length by omega), len_mid, rd_mid, wrap_id (show (-9223372036854775808 : Int) ≤ pre.length + 1 by omega) (show ((pre.length : Int) + 1 ≤ 9223372036854775807) by omega)]
    by_cases h1 : y = x
    · simp only [if_pos h1, Option.getD_some]
      exact Ev.now _
    · simp only [if_neg h1]
      exact this
theorem index_l (x : Int) (suf : List Int) : ∀ (pre : List Int), ((pre ++ suf).length : Int) ≤ 1099511627776 → Ev (fun k => slices_Index_int.l0 k (pre ++ suf) x ((pre ++ suf).length : Int) pre.length) ((placeGo x suf pre.length).getD (-1)) := by
  induction suf with
  | nil =>
    intro pre h
    refine Ev.succ ?_
    simp only [slices_Index_int.l0, List.append_nil, Int.lt_irrefl, if_false, placeGo, Option.getD_none]
    exact Ev.now _
  | cons y suf ih =>
    intro pre h
    refine Ev.succ ?_
    rw [len_mid] at h ⊢
    have := ih (pre ++ [y]) (by rw [← app_one, len_mid]; exact h)
    rw [← app_one, len_mid, len_one] at this
    simp only [slices_Index_int.l0, placeGo]
    simp only [if_pos (show ((pre.length : Int) < pre.length + suf.length + 1) by omega), if_pos (show (0 : Int) ≤ pre.length by omega), len_mid, rd_mid, wrap_id (show (-9223372036854775808 : Int) ≤ pre.length + 1 by omega) (show ((pre.length : Int) + 1 ≤ 9223372036854775807) by omega)]
    by_cases h1 : y = x
    · simp only [if_pos h1, if_pos h1.symm, Option.getD_some]
      exact Ev.now _
    · simp only [if_neg h1, if_neg (fun hc => h1 (Eq.symm hc))]
      exact this
theorem placeGo_ge (x : Int) : ∀ (l : List Int) (i r : Int), placeGo x l i = some r → i ≤ r
  | [], _, _, h => by cases h
  | y :: l, i, r, h => by
    rw [placeGo] at h
    split at h
    · cases h
      omega
    · have := placeGo_ge x l (i + 1) r h
      omega
theorem has_ev (x : Int) (l : List Int) (h : (l.length : Int) ≤ 1099511627776) : Ev (fun k => spec_l1Has.f k l x) (placeGo x l 0).isSome := by
  have := has_l x l [] h
  exact this
theorem place_ev (x : Int) (l : List Int) (h : (l.length : Int) ≤ 1099511627776) : Ev (fun k => spec_l12Place.f k l x) ((placeGo x l 0).getD (l.length : Int)) := by
  have := place_l l x l [] h
  exact this
theorem index_ev (x : Int) (l : List Int) (h : (l.length : Int) ≤ 1099511627776) : Ev (fun k => slices_Index_int.f k l x) ((placeGo x l 0).getD (-1)) := by
  have := index_l x l [] h
  exact this
def placeOf (l : List Int) (x : Int) : Int × Bool := if (l.length : Int) > 8 then (0, false) else match placeGo x l 0 with
  | some r => (r, true)
  | none => (0, false)
theorem specPlaceOf_ev (l : List Int) (x : Int) (h : l.length ≤ 1048576) : Ev (fun k => spec_PlaceOf.f k l x) (placeOf l x) := by
  unfold spec_PlaceOf.f placeOf
  by_cases h1 : (l.length : Int) > 8
  · simp only [if_pos h1]
    exact Ev.now _
  · simp only [if_neg h1]
    refine Ev.bind (has_ev x l (by omega)) ?_
    have hp := place_ev x l (by omega)
    cases hg : placeGo x l 0 with
    | some r =>
      rw [hg] at hp
      simp only [Option.isSome_some, if_true]
      exact Ev.bind hp (Ev.now _)
    | none =>
      simp only [Option.isSome_none, Bool.false_eq_true, if_false]
      exact Ev.now _
theorem implPlaceOf_ev (l : List Int) (x : Int) (h : l.length ≤ 1048576) : Ev (fun k => impl_PlaceOf.f k l x) (placeOf l x) := by
  unfold impl_PlaceOf.f placeOf
  refine Ev.bind (index_ev x l (by omega)) ?_
  by_cases h1 : (l.length : Int) > 8
  · simp only [if_pos h1]
    exact Ev.now _
  · simp only [if_neg h1]
    cases hg : placeGo x l 0 with
    | some r =>
      have := placeGo_ge x l 0 r hg
      simp only [Option.getD_some, if_neg (show ¬ r < 0 by omega)]
      exact Ev.now _
    | none =>
      simp only [Option.getD_none, if_pos (show (-1 : Int) < 0 by omega)]
      exact Ev.now _

end Go.Proofs.Ytoipbblhmcpneaa.P
