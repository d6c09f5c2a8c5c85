/- Functions, walks and plain lemmas that the law FnExactLearn reaches, part 6. -/
import Derived.Test.YtcbofebikbbknaaCFnExactLearn5
import Derived.WalkKit
import Derived.ProofKit
import Derived.OpenShut
import Derived.ChangeOld
import Derived.Below
import Derived.SizedLaws
import Derived.ChangeArms
import Derived.DataElems
import Derived.Deep.Draws
import Derived.Deep.AppendLies
import Derived.Maps.AppendAt
import Derived.OwnWalk
import Derived.Laws.BytesArg
import Derived.Laws.MakeOwn
import Derived.Laws.OwnMore
import Derived.Deep.OwnRows
import Derived.Tactics
import Derived.Lib.ConvBytes
import Derived.Laws.Slices
import Derived.KernelRfl
import Derived.RowKit3
import Derived.Deep.LoopGhost
import Derived.Deep.QuietTactic
import Derived.BigQuiet
import Derived.WideLaws
import Derived.Deep.DeepCutAuto
import Derived.Deep.CutBlock
import Derived.Deep.RegionHeld3
import Derived.Laws.Rows
import Derived.Lib.AppendStr
import Derived.ArgAppend
import Derived.Laws.IdiomCopy
import Derived.OrdersHeld
import Derived.Laws.BitsLemmas
import Derived.RowKit
import Derived.WalkSpells
import Derived.Lib.SliceRun
import Derived.Shelf.Abstract
import Derived.ShutString
namespace Go.Proofs.Ytcbofebikbbknaa.P
open Go.RowKit Go.Proofs.YtcbofebikbbknaaW.PrintWords Go.Proofs.YtcbofebikbbknaaW.PrintLast
def wfS51 (s : S51) : Prop := (fun n : Int => (Lit.int .i64 n).wf = true) s.f0 ∧ (fun n : Int => (Lit.int .i64 n).wf = true) s.f1 ∧ (fun n : Int => (Lit.int .i64 n).wf = true) s.f2
def wfS32 (s : S32) : Prop := (fun n : Int => (Lit.int .i64 n).wf = true) s.f0 ∧ (fun l : List (S51) => l.length ≤ maxLen ∧ ∀ x ∈ l, wfS51 x) s.f1
/-- The one pure statement of laws_FnExactLearn. -/
def laws_FnExactLearn.Pure : Prop := ∀ (s0 : S32) (s1 : S51), wfS32 s0 → wfS51 s1 → ∃ k, laws_FnExactLearn.f k s0.f0 s0.f1 s1.f0 s1.f1 s1.f2 = some true
end Go.Proofs.Ytcbofebikbbknaa.P

namespace Go.Proofs.Ytcbofebikbbknaa.P
open Go.RowKit Go.Proofs.YtcbofebikbbknaaW.PrintWords
set_option linter.unusedVariables false
set_option linter.unusedSimpArgs false
theorem wrap_id {x : Int} (h0 : -9223372036854775808 ≤ x) (h1 : x ≤ 9223372036854775807) : wrap64 x = x := by unfold wrap64; omega
theorem Ev.succ {α : Type} {g : Nat → Option α} {r : α} (h : Ev (fun k => g (k + 1)) r) : Ev g r := Ev.step (fun _ => rfl) h
theorem Ev.some_ {α : Type} {r s : α} (h : r = s) : Ev (fun _ => some r) s := h ▸ Ev.now r
theorem getD_mid {α : Type} (d : α) (pre : List α) (x : α) (suf : List α) : (pre ++ x :: suf).getD ((pre.length : Int)).toNat d = x := by simp
theorem set_mid {α : Type} (pre : List α) (x y : α) (suf : List α) : (pre ++ x :: suf).set ((pre.length : Int)).toNat y = pre ++ y :: suf := by simp
theorem app_one {α : Type} (pre : List α) (x : α) (suf : List α) : pre ++ x :: suf = (pre ++ [x]) ++ suf := by simp
theorem len_mid {α : Type} (pre : List α) (x : α) (suf : List α) : ((pre ++ x :: suf).length : Int) = pre.length + suf.length + 1 := by simp; omega
theorem len_one {α : Type} (pre : List α) (x : α) : ((pre ++ [x]).length : Int) = pre.length + 1 := by simp
theorem nil_or_snoc {α : Type} (l : List α) : l = [] ∨ ∃ p y, l = p ++ [y] := by
 rcases List.eq_nil_or_concat l with rfl | ⟨p, y, rfl⟩
 ·exact .inl rfl
 ·exact .inr ⟨p, y, by simp⟩
end Go.Proofs.Ytcbofebikbbknaa.P

namespace Go.Proofs.Ytcbofebikbbknaa.P
open Go.RowKit Go.Proofs.YtcbofebikbbknaaW.PrintWords Go.Proofs.YtcbofebikbbknaaW.PrintLast
set_option linter.unusedVariables false
set_option linter.unusedSimpArgs false
theorem rdSeen_mid (pre : List S53) (x : S53) (suf : List S53) : rd_T53 (pre ++ x :: suf) (pre.length : Int) = x := getD_mid _ pre x suf
theorem rdLSeen_mid (pre : List S51) (x : S51) (suf : List S51) : rd_T51 (pre ++ x :: suf) (pre.length : Int) = x := getD_mid _ pre x suf
instance decSeen : DecidableEq S53 := fun a b => decidable_of_iff (a.f0 = b.f0 ∧ a.f1 = b.f1 ∧ a.f2 = b.f2) (by cases a; cases b; simp)
def cvSeen (x : S51) : S53 := ⟨x.f0, x.f1, x.f2⟩
theorem toSeenS_l (suf : List S51) : ∀ (pre : List S51) (k : Nat), suf.length < k → (pre.length : Int) + suf.length ≤ 1099511627776 →
  laws_toSeenS.l0 k (pre ++ suf) (pre.map cvSeen ++ List.replicate suf.length z53) (pre.length : Int) = some ((pre ++ suf).map cvSeen) := by
 induction suf with
 | nil =>
  intro pre k hk hb
  obtain ⟨k, rfl⟩ : ∃ m, k = m + 1 := ⟨k - 1, by omega⟩
  simp only [laws_toSeenS.l0]
  rw [if_neg (by simp)]
  simp
 | cons x suf ih =>
  intro pre k hk hb
  simp only [List.length_cons] at hk hb
  obtain ⟨k, rfl⟩ : ∃ m, k = m + 1 := ⟨k - 1, by omega⟩
  have h := ih (pre ++ [x]) k (by omega) (by simp; omega)
  simp only [laws_toSeenS.l0]
  rw [if_pos (by simp; omega), if_pos (by omega), rdLSeen_mid]
  simp only [laws_toSeen.f, Option.bind_some]
  rw [if_pos (by simp; omega), wrap_id (by omega) (by omega)]
  have e : (pre.map cvSeen ++ List.replicate (x :: suf).length z53).set ((pre.length : Int)).toNat (⟨x.f0, x.f1, x.f2⟩ : S53) = (pre ++ [x]).map cvSeen ++ List.replicate suf.length z53 := by
   simp [List.replicate_succ, cvSeen]
  rw [e]
  simpa using h
theorem toSeenS_ev (l : List S51) (hl : l.length ≤ 1048576) : Ev (fun k => laws_toSeenS.f k l) (l.map cvSeen) := by
 refine ⟨l.length + 1, fun k hk => ?_⟩
 have h := toSeenS_l l [] k (by omega) (by simp; omega)
 show laws_toSeenS.f k l = _
 unfold laws_toSeenS.f
 rw [if_pos (by omega), if_pos (by simp; omega)]
 simpa using h
theorem eqSeen_is (a b : S53) : laws_eqSeen.f a.f0 a.f1 a.f2 b.f0 b.f1 b.f2 = some (decide (a = b)) := by
 cases a; cases b
 unfold laws_eqSeen.f
 simp only [S53.mk.injEq]
 split
 ·split
  ·split
   ·rename_i h1 h2 h3; simp [h1, h2, h3]
   ·rename_i h1 h2 h3; simp [h3]
  ·rename_i h1 h2; simp [h2]
 ·rename_i h1; simp [h1]
theorem eqSeenS_l (s : List S53) : ∀ (t pre qre : List S53) (k : Nat), s.length < k → pre.length = qre.length → s.length = t.length → (pre.length : Int) + s.length ≤ 1099511627776 →
  laws_eqSeenS.l0 k (pre ++ s) (qre ++ t) (pre.length : Int) = some (decide (s = t)) := by
 induction s with
 | nil =>
  intro t pre qre k hk hq hl hb
  obtain ⟨k, rfl⟩ : ∃ m, k = m + 1 := ⟨k - 1, by omega⟩
  obtain rfl : t = [] := List.eq_nil_of_length_eq_zero (by simpa using hl.symm)
  simp only [laws_eqSeenS.l0]
  rw [if_neg (by simp)]
  simp
 | cons x s ih =>
  intro t pre qre k hk hq hl hb
  cases t with
  | nil => simp at hl
  | cons y t =>
   simp only [List.length_cons] at hk hl hb
   obtain ⟨k, rfl⟩ : ∃ m, k = m + 1 := ⟨k - 1, by omega⟩
   have h := ih t (pre ++ [x]) (qre ++ [y]) k (by omega) (by simp; omega) (by omega) (by simp; omega)
   have hy : rd_T53 (qre ++ y :: t) (pre.length : Int) = y := by rw [hq]; exact rdSeen_mid qre y t
   simp only [laws_eqSeenS.l0]
   rw [if_pos (by simp; omega), if_pos (by omega), if_pos (by simp; omega), rdSeen_mid, hy, eqSeen_is, wrap_id (by omega) (by omega)]
   simp only [Option.bind_some]
   by_cases e : x = y
   ·subst e
    rw [if_pos (by simp)]
    simpa using h
   ·rw [if_neg (by simpa using e)]
    simp [e]
theorem eqSeenS_ev (s t : List S53) (hs : s.length ≤ 1099511627776) : Ev (fun k => laws_eqSeenS.f k s t) (decide (s = t)) := by
 refine ⟨s.length + 1, fun k hk => ?_⟩
 show laws_eqSeenS.f k s t = _
 unfold laws_eqSeenS.f
 by_cases hl : s.length = t.length
 ·rw [if_pos (by omega)]
  exact eqSeenS_l s t [] [] k (by omega) rfl hl (by simp; omega)
 ·rw [if_neg (by omega)]
  have : s ≠ t := fun e => hl (by rw [e])
  simp [this]
theorem szSeenS_is (l : List S51) (hl : l.length ≤ maxLen) (a : Int) (h0 : 0 ≤ a) (h1 : a ≤ 1048576) : laws_szSeenS.f l a = some (if a - l.length < 0 then -1 else a - l.length) := by
 have hm : l.length ≤ 9223372036854775807 := by unfold maxLen at hl; exact hl
 unfold laws_szSeenS.f
 rw [wrap_id (by omega) (by omega)]
 split <;> rfl
end Go.Proofs.Ytcbofebikbbknaa.P

namespace Go.Proofs.Ytcbofebikbbknaa.P
open Go.RowKit Go.Proofs.YtcbofebikbbknaaW.PrintWords Go.Proofs.YtcbofebikbbknaaW.PrintLast
set_option linter.unusedVariables false
set_option linter.unusedSimpArgs false
def marksSeen : Nat → Int → List S53
 | 0, _ => []
 | n + 1, q => ⟨q, q + 1, q + 2⟩ :: marksSeen n (q + 3)
theorem markSeenS_l (suf : List S53) : ∀ (pre : List S53) (k : Nat) (q : Int), suf.length < k → (pre.length : Int) + suf.length ≤ 1099511627776 → 0 ≤ q → q + 3 * suf.length ≤ 4611686018427387904 →
  laws_markSeenS.l0 k (pre ++ suf) q (pre.length : Int) = some (q + 3 * suf.length, pre ++ marksSeen suf.length q) := by
 induction suf with
 | nil =>
  intro pre k q hk hb h0 h1
  obtain ⟨k, rfl⟩ : ∃ m, k = m + 1 := ⟨k - 1, by omega⟩
  simp only [laws_markSeenS.l0]
  rw [if_neg (by simp)]
  simp [marksSeen]
 | cons x suf ih =>
  intro pre k q hk hb h0 h1
  simp only [List.length_cons] at hk hb h1
  obtain ⟨k, rfl⟩ : ∃ m, k = m + 1 := ⟨k - 1, by omega⟩
  have h := ih (pre ++ [⟨q, q + 1, q + 2⟩]) k (q + 3) (by omega) (by simp <;> omega) (by omega) (by omega)
  simp only [laws_markSeenS.l0]
  rw [if_pos (by simp <;> omega), if_pos (by omega)]
  simp only [Option.bind_some, set_mid, rdSeen_mid]
  rw [wrap_id (x := q + 1) (by omega) (by omega), wrap_id (x := q + 1 + 1) (by omega) (by omega), wrap_id (x := q + 1 + 1 + 1) (by omega) (by omega), wrap_id (x := (pre.length : Int) + 1) (by omega) (by omega)]
  rw [show q + 1 + 1 = q + 2 from by omega, show q + 2 + 1 = q + 3 from by omega]
  rw [show ((pre ++ [(⟨q, q + 1, q + 2⟩ : S53)]).length : Int) = (pre.length : Int) + 1 from by simp] at h
  rw [app_one, h]
  simp only [marksSeen, List.length_cons, List.append_assoc, List.cons_append, List.nil_append, Option.some.injEq, Prod.mk.injEq, and_true]
  omega
theorem markSeenS_ev (l : List S53) (q : Int) (hl : l.length ≤ 1099511627776) (h0 : 0 ≤ q) (h1 : q ≤ 1099511627776) : Ev (fun k => laws_markSeenS.f k l q) (q + 3 * l.length, marksSeen l.length q) := by
 refine ⟨l.length + 1, fun k hk => ?_⟩
 show laws_markSeenS.f k l q = _
 unfold laws_markSeenS.f
 simpa using markSeenS_l l [] k q (by omega) (by simp <;> omega) h0 (by omega)
theorem heldSeenS_l (n : Nat) : ∀ (pre : List S53) (k : Nat) (q : Int), n < k → (pre.length : Int) + n ≤ 1099511627776 → 0 ≤ q → q + 3 * n ≤ 4611686018427387904 →
  laws_heldSeenS.l0 k (pre ++ marksSeen n q) q (pre.length : Int) = some (q + 3 * n) := by
 induction n with
 | zero =>
  intro pre k q hk hb h0 h1
  obtain ⟨k, rfl⟩ : ∃ m, k = m + 1 := ⟨k - 1, by omega⟩
  simp only [laws_heldSeenS.l0]
  rw [show marksSeen 0 q = [] from rfl, if_neg (by simp)]
  simp
 | succ n ih =>
  intro pre k q hk hb h0 h1
  obtain ⟨k, rfl⟩ : ∃ m, k = m + 1 := ⟨k - 1, by omega⟩
  have h := ih (pre ++ [⟨q, q + 1, q + 2⟩]) k (q + 3) (by omega) (by simp <;> omega) (by omega) (by omega)
  simp only [laws_heldSeenS.l0]
  rw [show marksSeen (n + 1) q = ⟨q, q + 1, q + 2⟩ :: marksSeen n (q + 3) from rfl]
  rw [if_pos (by simp <;> omega), if_pos (by omega)]
  simp only [rdSeen_mid]
  rw [wrap_id (x := q + 1) (by omega) (by omega), wrap_id (x := q + 1 + 1) (by omega) (by omega), wrap_id (x := q + 1 + 1 + 1) (by omega) (by omega), wrap_id (x := (pre.length : Int) + 1) (by omega) (by omega)]
  rw [show q + 1 + 1 = q + 2 from by omega, show q + 2 + 1 = q + 3 from by omega, if_pos rfl, if_pos rfl, if_pos trivial]
  rw [show ((pre ++ [(⟨q, q + 1, q + 2⟩ : S53)]).length : Int) = (pre.length : Int) + 1 from by simp] at h
  rw [app_one, h]
  simp only [Option.some.injEq]
  omega
theorem heldSeenS_ev (n : Nat) (q : Int) (hl : n ≤ 1099511627776) (h0 : 0 ≤ q) (h1 : q ≤ 1099511627776) : Ev (fun k => laws_heldSeenS.f k (marksSeen n q) q) (q + 3 * n) := by
 refine ⟨n + 1, fun k hk => ?_⟩
 show laws_heldSeenS.f k (marksSeen n q) q = _
 unfold laws_heldSeenS.f
 exact heldSeenS_l n [] k q (by omega) (by simp <;> omega) h0 (by omega)
end Go.Proofs.Ytcbofebikbbknaa.P

namespace Go.Proofs.Ytcbofebikbbknaa.P
open Go.RowKit Go.Proofs.YtcbofebikbbknaaW.PrintWords Go.Proofs.YtcbofebikbbknaaW.PrintLast
set_option linter.unusedVariables false
set_option linter.unusedSimpArgs false
theorem specIn3 (a b c : Int) : spec_l1In.f a b c = some (decide (b ≤ a ∧ a ≤ c)) := by
 unfold spec_l1In.f
 by_cases h : a ≥ b
 ·rw [if_pos h]
  congr 1
  by_cases h2 : a ≤ c
  ·rw [decide_eq_true h2, decide_eq_true ⟨h, h2⟩]
  ·rw [decide_eq_false h2, decide_eq_false (fun hc => h2 hc.2)]
 ·rw [if_neg h, decide_eq_false (fun hc => h hc.1)]
theorem implIn3 (a b c : Int) : impl_in.f a b c = some (decide (b ≤ a ∧ a ≤ c)) := specIn3 a b c
def okSeen (x : S53) : Bool := decide (1 ≤ x.f0 ∧ x.f0 ≤ 99) && (decide (0 ≤ x.f1 ∧ x.f1 ≤ 9) && decide (0 ≤ x.f2 ∧ x.f2 ≤ 10000))
theorem specRow3 (x : S53) : spec_l13Row.f x.f0 x.f1 x.f2 = some (okSeen x) := by
 unfold spec_l13Row.f okSeen
 simp only [specIn3, Option.bind_some]
 by_cases h1 : 1 ≤ x.f0 ∧ x.f0 ≤ 99
 ·by_cases h2 : 0 ≤ x.f1 ∧ x.f1 ≤ 9
  ·simp only [h1, h2, and_self, decide_true, if_true, Bool.true_and]
  ·simp only [h1, h2, and_self, decide_true, decide_false, if_true, Bool.true_and, Bool.false_and, Bool.false_eq_true, if_false]
 ·simp only [h1, decide_false, Bool.false_and, Bool.false_eq_true, if_false]
theorem implSeen3 (x : S53) : impl_isSeen.f x.f0 x.f1 x.f2 = some (okSeen x) := specRow3 x
theorem eta3 (x : S53) : (⟨x.f0, x.f1, x.f2⟩ : S53) = x := rfl
/-- the time of the row ahead is no less -/
def later (o : Option S53) (x : S53) : Bool := match o with
 | none => true
 | some y => !decide (y.f2 < x.f2)
def goT (pre : List S53) : List S53 → Bool
 | [] => true
 | x :: r => okSeen x && (later pre.getLast? x && (!(pre.any fun y => y.f0 == x.f0) && goT (pre ++ [x]) r))
def goodT (a : Int) (l : List S53) : Bool := goT [] l && (decide (1 ≤ a ∧ a ≤ 8) && decide ((l.length : Int) ≤ a))
theorem specGoodT_l1 (l : List S53) (n i a : Int) (x : S53) (R : Bool) (hR : Ev (fun k => spec_GoodTable.l0 k l n (wrap64 (i + 1)) a l) R) (suf : List S53) : ∀ (pre : List S53), ((pre ++ suf).length : Int) ≤ 1099511627776 →
  Ev (fun k => spec_GoodTable.l1 k l n i (pre ++ suf) ((pre ++ suf).length : Int) pre.length a l x.f0 x.f1 x.f2) (!(suf.any fun y => y.f0 == x.f0) && R) := by
 induction suf with
 | nil =>
  intro pre h
  refine Ev.succ ?_
  simp only [spec_GoodTable.l1, List.append_nil, Int.lt_irrefl, if_false, List.any_nil, Bool.not_false, Bool.true_and]
  exact hR
 | cons y suf ih =>
  intro pre h
  refine Ev.succ ?_
  rw [len_mid] at h ⊢
  have := ih (pre ++ [y]) (by rw [← app_one, len_mid]; exact h)
  rw [← app_one, len_mid, len_one] at this
  simp only [spec_GoodTable.l1]
  simp only [if_pos (show ((pre.length : Int) < pre.length + suf.length + 1) by omega), if_pos (show (0 : Int) ≤ pre.length by omega), len_mid, rdSeen_mid, wrap_id (show (-9223372036854775808 : Int) ≤ pre.length + 1 by omega) (show ((pre.length : Int) + 1 ≤ 9223372036854775807) by omega), List.any_cons]
  by_cases h1 : y.f0 = x.f0
  ·simp only [if_pos h1, beq_iff_eq.2 h1, Bool.true_or, Bool.not_true, Bool.false_and]
   exact Ev.now _
  ·simp only [if_neg h1, beq_eq_false_iff_ne.2 h1, Bool.false_or]
   exact this
theorem specGoodT_l0 (a : Int) (l : List S53) (hl : l.length ≤ 1048576) (suf : List S53) : ∀ (pre : List S53), pre ++ suf = l →
  Ev (fun k => spec_GoodTable.l0 k l (l.length : Int) pre.length a l) (goT pre suf && (decide (1 ≤ a ∧ a ≤ 8) && decide ((l.length : Int) ≤ a))) := by
 induction suf with
 | nil =>
  intro pre h
  rw [List.append_nil] at h
  subst h
  refine Ev.succ ?_
  simp only [spec_GoodTable.l0, Int.lt_irrefl, if_false, specIn3, Option.bind_some, goT, Bool.true_and]
  by_cases h1 : 1 ≤ a ∧ a ≤ 8
  ·simp only [h1, and_self, decide_true, if_true, Bool.true_and]
   exact Ev.now _
  ·simp only [h1, decide_false, Bool.false_eq_true, if_false, Bool.false_and]
   exact Ev.now _
 | cons x suf ih =>
  intro pre h
  have h' := ih (pre ++ [x]) (by rw [← app_one]; exact h)
  rw [len_one] at h'
  refine Ev.succ ?_
  have hlen : (l.length : Int) = pre.length + suf.length + 1 := by rw [← h, len_mid]
  have hx : rd_T53 l (pre.length : Int) = x := by rw [← h]; exact rdSeen_mid pre x suf
  simp only [spec_GoodTable.l0]
  simp only [if_pos (show ((pre.length : Int) < l.length) by omega), if_pos (show (0 : Int) ≤ pre.length by omega), hx, specRow3, Option.bind_some]
  generalize hfin : (decide (1 ≤ a ∧ a ≤ 8) && decide ((l.length : Int) ≤ a)) = fin at h' ⊢
  have bad : ∀ (b : Bool), b = true → okSeen x = false ∨ later pre.getLast? x = false → Ev (fun k => spec_GoodTable.j1 k (pre.length : Int) l (l.length : Int) (pre.length : Int) b a l x.f0 x.f1 x.f2) (goT pre (x :: suf) && fin) := by
   intro b hb hc
   refine Ev.succ ?_
   simp only [spec_GoodTable.j1, hb, if_true, goT]
   rcases hc with hc | hc
   ·rw [hc, Bool.false_and, Bool.false_and]
    exact Ev.now _
   ·rw [hc, Bool.false_and, Bool.and_false, Bool.false_and]
    exact Ev.now _
  have good : okSeen x = true → later pre.getLast? x = true → Ev (fun k => spec_GoodTable.j1 k (pre.length : Int) l (l.length : Int) (pre.length : Int) false a l x.f0 x.f1 x.f2) (goT pre (x :: suf) && fin) := by
   intro hc hd
   refine Ev.succ ?_
   simp only [spec_GoodTable.j1, Bool.false_eq_true, if_false, if_pos (show (0 : Int) ≤ pre.length by omega), if_pos (show (pre.length : Int) ≤ l.length by omega), Option.bind_some, Int.toNat_natCast, goT, hc, hd, Bool.true_and]
   rw [show l.take pre.length = pre by rw [← h, List.take_left']; rfl, Bool.and_assoc]
   have := specGoodT_l1 l (l.length : Int) (pre.length : Int) a x _ (by rw [wrap_id (show (-9223372036854775808 : Int) ≤ pre.length + 1 by omega) (show ((pre.length : Int) + 1 ≤ 9223372036854775807) by omega)]; exact h') pre [] (by rw [List.nil_append]; omega)
   exact this
  cases hk : okSeen x with
  | false =>
   simp only [Bool.false_eq_true, if_false]
   exact bad true rfl (.inl hk)
  | true =>
   simp only [if_true]
   rcases nil_or_snoc pre with rfl | ⟨p, y, rfl⟩
   ·simp only [List.length_nil, Int.ofNat_zero, gt_iff_lt, Int.lt_irrefl, if_false] at good ⊢
    exact good hk rfl
   ·have hy : rd_T53 l (wrap64 (((p ++ [y]).length : Int) - 1)) = y := by
     rw [wrap_id (by omega) (by omega), len_one, show (p.length : Int) + 1 - 1 = p.length by omega, ← h, ← app_one]
     exact rdSeen_mid p y _
    have h0 : (0 : Int) ≤ wrap64 (((p ++ [y]).length : Int) - 1) ∧ wrap64 (((p ++ [y]).length : Int) - 1) < l.length := by
     rw [wrap_id (by omega) (by omega)]
     rw [len_one] at hlen ⊢
     omega
    simp only [if_pos (show (((p ++ [y]).length : Int)) > 0 by rw [len_one]; omega), if_pos h0.1, if_pos h0.2, hy]
    have hlast : (p ++ [y]).getLast? = some y := by simp
    by_cases ht : y.f2 < x.f2
    ·rw [decide_eq_true ht]
     exact bad true rfl (.inr (by rw [hlast]; simp [later, ht]))
    ·rw [decide_eq_false ht]
     exact good hk (by rw [hlast]; simp [later, ht])
theorem specGoodT_ev (a : Int) (l : List S53) (hl : l.length ≤ 1048576) : Ev (fun k => spec_GoodTable.f k a l) (goodT a l) := specGoodT_l0 a l hl l [] rfl
theorem ix_some (p : S53 → Bool) : ∀ (l : List S53) (i : Int), l.any p = true → i ≤ ixF53 p l i ∧ ixF53 p l i < i + l.length
 | [], _, h => by simp at h
 | x :: r, i, h => by
  rw [List.any_cons] at h
  rw [ixF53, List.length_cons]
  by_cases hx : p x = true
  ·rw [if_pos hx]
   omega
  ·rw [if_neg hx]
   rw [Bool.eq_false_iff.2 hx, Bool.false_or] at h
   have := ix_some p r (i + 1) h
   omega
theorem ix_app (p : S53 → Bool) : ∀ (pre suf : List S53) (i : Int), pre.any p = true → ixF53 p (pre ++ suf) i = ixF53 p pre i
 | [], _, _, h => by simp at h
 | x :: r, suf, i, h => by
  rw [List.any_cons] at h
  rw [List.cons_append, ixF53, ixF53]
  by_cases hx : p x = true
  ·rw [if_pos hx, if_pos hx]
  ·rw [if_neg hx, if_neg hx]
   rw [Bool.eq_false_iff.2 hx, Bool.false_or] at h
   exact ix_app p r suf (i + 1) h
theorem ix_skip (p : S53 → Bool) : ∀ (pre suf : List S53) (i : Int), pre.any p = false → ixF53 p (pre ++ suf) i = ixF53 p suf (i + pre.length)
 | [], _, _, _ => by simp
 | x :: r, suf, i, h => by
  rw [List.any_cons, Bool.or_eq_false_iff] at h
  rw [List.cons_append, ixF53, h.1, if_neg Bool.false_ne_true, ix_skip p r suf (i + 1) h.2, List.length_cons]
  congr 1
  omega
theorem ix_mid (pre suf : List S53) (x : S53) : ixF53 (fun y => y.f0 == x.f0) (pre ++ x :: suf) 0 < (pre.length : Int) ↔ (pre.any fun y => y.f0 == x.f0) = true := by
 cases h : pre.any fun y => y.f0 == x.f0 with
 | true =>
  rw [ix_app _ _ _ _ h]
  have := ix_some _ pre 0 h
  simp only [iff_true]
  omega
 | false =>
  rw [ix_skip _ _ _ _ h, ixF53, if_pos (by simp)]
  simp
theorem implGoodT_l0 (a : Int) (l : List S53) (hl : l.length ≤ 1048576) (suf : List S53) : ∀ (pre : List S53), pre ++ suf = l →
  Ev (fun k => impl_GoodTable.l0 k l (l.length : Int) pre.length a l) (goT pre suf) := by
 induction suf with
 | nil =>
  intro pre h
  rw [List.append_nil] at h
  subst h
  refine Ev.succ ?_
  simp only [impl_GoodTable.l0, Int.lt_irrefl, if_false, goT]
  exact Ev.now _
 | cons x suf ih =>
  intro pre h
  have h' := ih (pre ++ [x]) (by rw [← app_one]; exact h)
  rw [len_one] at h'
  refine Ev.succ ?_
  have hlen : (l.length : Int) = pre.length + suf.length + 1 := by rw [← h, len_mid]
  have hx : rd_T53 l (pre.length : Int) = x := by rw [← h]; exact rdSeen_mid pre x suf
  have hm := ix_mid pre suf x
  rw [h] at hm
  simp only [impl_GoodTable.l0]
  simp only [if_pos (show ((pre.length : Int) < l.length) by omega), if_pos (show (0 : Int) ≤ pre.length by omega), hx, implSeen3, impl_row.f, Option.bind_some, goT, wrap_id (show (-9223372036854775808 : Int) ≤ pre.length + 1 by omega) (show ((pre.length : Int) + 1 ≤ 9223372036854775807) by omega)]
  cases hk : okSeen x with
  | false =>
   simp only [Bool.false_eq_true, if_false, Bool.false_and]
   exact Ev.now _
  | true =>
   simp only [if_true, Bool.true_and]
   by_cases hd : (pre.any fun y => y.f0 == x.f0) = true
   ·simp only [if_pos (hm.2 hd), hd, Bool.not_true, Bool.false_and, Bool.and_false]
    exact Ev.now _
   ·simp only [if_neg (fun c => hd (hm.1 c)), Bool.eq_false_iff.2 hd, Bool.not_false, Bool.true_and]
    rcases nil_or_snoc pre with rfl | ⟨p, y, rfl⟩
    ·simp only [List.length_nil, Int.ofNat_zero, gt_iff_lt, Int.lt_irrefl, if_false] at h' ⊢
     exact h'
    ·have hy : rd_T53 l (wrap64 (((p ++ [y]).length : Int) - 1)) = y := by
      rw [wrap_id (by omega) (by omega), len_one, show (p.length : Int) + 1 - 1 = p.length by omega, ← h, ← app_one]
      exact rdSeen_mid p y _
     have h0 : (0 : Int) ≤ wrap64 (((p ++ [y]).length : Int) - 1) ∧ wrap64 (((p ++ [y]).length : Int) - 1) < l.length := by
      rw [wrap_id (by omega) (by omega)]
      rw [len_one] at hlen ⊢
      omega
     simp only [if_pos (show (((p ++ [y]).length : Int)) > 0 by rw [len_one]; omega), if_pos h0.1, if_pos h0.2, hy]
     have hlast : (p ++ [y]).getLast? = some y := by simp
     by_cases ht : y.f2 < x.f2
     ·simp only [if_pos ht, hlast, later, decide_eq_true ht, Bool.not_true, Bool.false_and]
      exact Ev.now _
     ·simp only [if_neg ht, hlast, later, decide_eq_false ht, Bool.not_false, Bool.true_and]
      exact h'
theorem implGoodT_ev (a : Int) (l : List S53) (hl : l.length ≤ 1048576) : Ev (fun k => impl_GoodTable.f k a l) (goodT a l) := by
 unfold impl_GoodTable.f goodT
 simp only [implIn3, Option.bind_some]
 by_cases h1 : 1 ≤ a ∧ a ≤ 8
 ·simp only [h1, and_self, decide_true, if_true, Bool.true_and]
  refine Ev.succ ?_
  by_cases h2 : (l.length : Int) > a
  ·simp only [impl_GoodTable.j0, decide_eq_true h2, if_true, decide_eq_false (show ¬ (l.length : Int) ≤ a by omega), Bool.and_false]
   exact Ev.now _
  ·simp only [impl_GoodTable.j0, decide_eq_false h2, Bool.false_eq_true, if_false, decide_eq_true (show (l.length : Int) ≤ a by omega), Bool.and_true]
   exact implGoodT_l0 a l hl l [] rfl
 ·simp only [h1, decide_false, Bool.false_eq_true, if_false, Bool.false_and, Bool.and_false]
  refine Ev.succ ?_
  simp only [impl_GoodTable.j0, if_true]
  exact Ev.now _
theorem szTable_is (a0 : Int) (l : List S51) (hl : l.length ≤ maxLen) (a : Int) (h0 : 0 ≤ a) (h1 : a ≤ 1048576) : laws_szTable.f a0 l a = some (if a - l.length < 0 then -1 else a - l.length) := by
 unfold laws_szTable.f
 rw [szSeenS_is l hl a h0 h1]
 simp only [Option.bind_some]
 by_cases h : a - (l.length : Int) < 0
 ·simp only [if_pos h, if_pos (show (-1 : Int) < 0 by omega)]
 ·simp only [if_neg h]
theorem toTable_ev (a0 : Int) (l : List S51) (hl : l.length ≤ 1048576) : Ev (fun k => laws_toTable.f k a0 l) (a0, l.map cvSeen) := by
 unfold laws_toTable.f
 exact Ev.bind (toSeenS_ev l hl) (Ev.now _)
theorem eqTable_ev (a : Int) (l : List S53) (hl : l.length ≤ 1099511627776) : Ev (fun k => laws_eqTable.f k a l a l) true := by
 unfold laws_eqTable.f
 simp only [if_true]
 refine Ev.bind (eqSeenS_ev l l hl) ?_
 simp only [decide_true, if_true]
 exact Ev.now _
theorem markTable_ev (a : Int) (l : List S53) (q : Int) (hl : l.length ≤ 1099511627776) (h0 : 0 ≤ q) (h1 : q ≤ 1099511627776) : Ev (fun k => laws_markTable.f k a l q) (q + 3 * l.length, marksSeen l.length q) := by
 unfold laws_markTable.f
 exact Ev.bind (markSeenS_ev l q hl h0 h1) (Ev.now _)
theorem heldTable_ev (a : Int) (n : Nat) (q : Int) (hl : n ≤ 1099511627776) (h0 : 0 ≤ q) (h1 : q ≤ 1099511627776) : Ev (fun k => laws_heldTable.f k a (marksSeen n q) q) (q + 3 * n) := by
 unfold laws_heldTable.f
 refine Ev.bind (heldSeenS_ev n q hl h0 h1) ?_
 simp only [if_neg (show ¬ (q + 3 * (n : Int)) < 0 by omega)]
 exact Ev.now _
end Go.Proofs.Ytcbofebikbbknaa.P

namespace Go.Proofs.Ytcbofebikbbknaa.P
open Go.RowKit Go.Proofs.YtcbofebikbbknaaW.PrintWords Go.Proofs.YtcbofebikbbknaaW.PrintLast
set_option linter.unusedVariables false
set_option linter.unusedSimpArgs false
theorem kept_l (p : S53 → Bool) (a : Int) (suf : List S53) : ∀ (pre out : List S53), ((pre ++ suf).length : Int) ≤ 1048576 → out.length ≤ pre.length →
  Ev (fun k => impl_Table_kept.l0 p k (pre ++ suf) ((pre ++ suf).length : Int) pre.length a out) (a, out ++ suf.filter p) := by
 induction suf with
 | nil =>
  intro pre out h ho
  refine Ev.succ ?_
  simp only [impl_Table_kept.l0, List.append_nil, Int.lt_irrefl, if_false, List.filter_nil]
  exact Ev.now _
 | cons x suf ih =>
  intro pre out h ho
  refine Ev.succ ?_
  rw [len_mid] at h ⊢
  have := fun o ho => ih (pre ++ [x]) o (by rw [← app_one, len_mid]; exact h) ho
  rw [← app_one, len_mid, len_one] at this
  simp only [impl_Table_kept.l0]
  simp only [if_pos (show ((pre.length : Int) < pre.length + suf.length + 1) by omega), if_pos (show (0 : Int) ≤ pre.length by omega), len_mid, rdSeen_mid, wrap_id (show (-9223372036854775808 : Int) ≤ pre.length + 1 by omega) (show ((pre.length : Int) + 1 ≤ 9223372036854775807) by omega), Option.bind_some, eta3]
  cases hp : p x with
  | true =>
   simp only [if_true, if_pos (show out.length < 5864062014805 by omega)]
   rw [List.filter_cons_of_pos hp, app_one out x (suf.filter p)]
   exact this (out ++ [x]) (by simp only [List.length_append, List.length_singleton]; omega)
  | false =>
   simp only [Bool.false_eq_true, if_false]
   rw [List.filter_cons_of_neg (by rw [hp]; exact Bool.false_ne_true)]
   exact this out (by rw [List.length_append]; omega)
theorem kept_ev (p : S53 → Bool) (a : Int) (l : List S53) (hl : l.length ≤ 1048576) : Ev (fun k => impl_Table_kept.f k a l p) (a, l.filter p) := by
 have := kept_l p a l [] [] (by rw [List.nil_append]; omega) (by simp)
 exact this
def learnM (a : Int) (l : List S53) (x : S53) : List S53 := (x :: l.filter fun y => y.f0 != x.f0).take a.toNat
theorem learnM_len (a : Int) (l : List S53) (x : S53) : (learnM a l x).length ≤ a.toNat := List.length_take_le ..
theorem implLearn_ev (a : Int) (l : List S53) (x : S53) (ha : 0 ≤ a) (hl : l.length ≤ 1048575) : Ev (fun k => impl_Table_learn.f k a l x.f0 x.f1 x.f2) (a, learnM a l x) := by
 unfold impl_Table_learn.f
 refine Ev.bind (kept_ev _ a l (by omega)) ?_
 have hf := List.length_filter_le (fun y : S53 => y.f0 != x.f0) l
 simp only [Option.bind_some, eta3, List.length_singleton, if_pos (show 1 + (l.filter fun y => y.f0 != x.f0).length < 5864062014805 by omega), List.singleton_append]
 have hmn : mn ((x :: l.filter fun y => y.f0 != x.f0).length : Int) a = min ((x :: l.filter fun y => y.f0 != x.f0).length : Int) a := by
  unfold mn
  split
  ·rw [Int.min_eq_right (by omega)]
  ·rw [Int.min_eq_left (by omega)]
 rw [hmn]
 simp only [if_pos (show 0 ≤ min ((x :: l.filter fun y => y.f0 != x.f0).length : Int) a by omega), if_pos (show min ((x :: l.filter fun y => y.f0 != x.f0).length : Int) a ≤ ((x :: l.filter fun y => y.f0 != x.f0).length : Int) by omega)]
 refine Ev.some_ ?_
 unfold learnM
 congr 1
 generalize (x :: l.filter fun y => y.f0 != x.f0) = L
 by_cases h : (L.length : Int) ≤ a
 ·rw [Int.min_eq_left h, Int.toNat_natCast, List.take_length, List.take_of_length_le (by omega)]
 ·rw [Int.min_eq_right (by omega)]
theorem specLearn_l (a : Int) (l0 : List S53) (x : S53) (suf : List S53) : ∀ (pre out : List S53), ((pre ++ suf).length : Int) ≤ 1048576 → out.length ≤ pre.length + 1 → (out.length : Int) ≤ a →
  Ev (fun k => spec_l13Learn.l0 k (pre ++ suf) ((pre ++ suf).length : Int) pre.length a l0 x.f0 x.f1 x.f2 a out) (a, (out ++ suf.filter fun y => y.f0 != x.f0).take a.toNat) := by
 induction suf with
 | nil =>
  intro pre out h ho ha
  refine Ev.succ ?_
  simp only [spec_l13Learn.l0, List.append_nil, Int.lt_irrefl, if_false, List.filter_nil]
  rw [List.take_of_length_le (by omega)]
  exact Ev.now _
 | cons y suf ih =>
  intro pre out h ho ha
  refine Ev.succ ?_
  rw [len_mid] at h ⊢
  have := fun o ho => ih (pre ++ [y]) o (by rw [← app_one, len_mid]; exact h) ho
  rw [← app_one, len_mid, len_one] at this
  simp only [spec_l13Learn.l0]
  simp only [if_pos (show ((pre.length : Int) < pre.length + suf.length + 1) by omega), if_pos (show (0 : Int) ≤ pre.length by omega), len_mid, rdSeen_mid, wrap_id (show (-9223372036854775808 : Int) ≤ pre.length + 1 by omega) (show ((pre.length : Int) + 1 ≤ 9223372036854775807) by omega), eta3]
  by_cases h1 : y.f0 = x.f0
  ·simp only [if_pos h1]
   rw [List.filter_cons_of_neg (by simp [h1])]
   exact this out (by rw [List.length_append]; omega) ha
  ·simp only [if_neg h1]
   rw [List.filter_cons_of_pos (by simp [h1])]
   by_cases h2 : (out.length : Int) < a
   ·simp only [if_pos h2, if_pos (show out.length < 5864062014805 by omega)]
    rw [app_one out y (suf.filter fun y => y.f0 != x.f0)]
    exact this (out ++ [y]) (by simp only [List.length_append, List.length_singleton]; omega) (by rw [len_one]; omega)
   ·simp only [if_neg h2]
    have h3 := this out (by rw [List.length_append]; omega) ha
    rw [List.take_append_of_le_length (by omega)] at h3 ⊢
    exact h3
theorem specLearn_ev (a : Int) (l : List S53) (x : S53) (ha : 1 ≤ a) (hl : l.length ≤ 1048576) : Ev (fun k => spec_l13Learn.f k a l x.f0 x.f1 x.f2) (a, learnM a l x) := by
 have := specLearn_l a l x l [] [x] (by rw [List.nil_append]; omega) (by simp) (by simpa using ha)
 exact this
end Go.Proofs.Ytcbofebikbbknaa.P

namespace Go.Proofs.Ytcbofebikbbknaa.P
open Go.RowKit Go.Proofs.YtcbofebikbbknaaW.PrintWords Go.Proofs.YtcbofebikbbknaaW.PrintLast
set_option linter.unusedVariables false
set_option linter.unusedSimpArgs false
def learnT (a : Int) (l : List S53) (x : S53) : Int × List S53 × Bool :=
 if goodT a l = true then (if okSeen x = true then (if (l.length : Int) > 0 then (if x.f2 < (rd_T53 l 0).f2 then (0, [], false) else (a, learnM a l x, true)) else (a, learnM a l x, true)) else (0, [], false)) else (0, [], false)
theorem goodT_room {a : Int} {l : List S53} (h : goodT a l = true) : 1 ≤ a ∧ a ≤ 8 ∧ (l.length : Int) ≤ a := by
 unfold goodT at h
 rw [Bool.and_eq_true, Bool.and_eq_true, decide_eq_true_eq, decide_eq_true_eq] at h
 exact ⟨h.2.1.1, h.2.1.2, h.2.2⟩
theorem learnT_len (a : Int) (l : List S53) (x : S53) : (learnT a l x).2.1.length ≤ 8 := by
 unfold learnT
 split
 ·rename_i h
  have h1 := goodT_room h
  have h2 := learnM_len a l x
  split
  ·split
   ·split
    ·simp
    ·show (learnM a l x).length ≤ 8
     omega
   ·show (learnM a l x).length ≤ 8
    omega
  ·simp
 ·simp
theorem specLearnT_ev (a : Int) (l : List S53) (x : S53) (hl : l.length ≤ 1048576) : Ev (fun k => spec_Learn.f k a l x.f0 x.f1 x.f2) (learnT a l x) := by
 unfold spec_Learn.f learnT
 refine Ev.bind (specGoodT_ev a l hl) ?_
 simp only [specRow3, Option.bind_some]
 by_cases hg : goodT a l = true
 ·have hr := goodT_room hg
  simp only [if_pos hg]
  by_cases hk : okSeen x = true
  ·simp only [if_pos hk]
   by_cases h0 : (l.length : Int) > 0
   ·simp only [if_pos h0, if_pos (show 0 < (l.length : Int) from h0)]
    by_cases h1 : x.f2 < (rd_T53 l 0).f2
    ·simp only [if_pos h1]
     exact Ev.now _
    ·simp only [if_neg h1]
     exact Ev.bind (specLearn_ev a l x hr.1 hl) (Ev.now _)
   ·simp only [if_neg h0]
    exact Ev.bind (specLearn_ev a l x hr.1 hl) (Ev.now _)
  ·simp only [if_neg hk]
   exact Ev.now _
 ·simp only [if_neg hg]
  exact Ev.now _
theorem implLearnT_ev (a : Int) (l : List S53) (x : S53) (hl : l.length ≤ 1048576) : Ev (fun k => impl_Learn.f k a l x.f0 x.f1 x.f2) (learnT a l x) := by
 unfold impl_Learn.f learnT
 refine Ev.bind (implGoodT_ev a l hl) ?_
 simp only [implSeen3, Option.bind_some, gt_iff_lt]
 by_cases hg : goodT a l = true
 ·have hr := goodT_room hg
  simp only [if_pos hg]
  by_cases hk : okSeen x = true
  ·simp only [if_pos hk]
   by_cases h0 : 0 < (l.length : Int)
   ·simp only [if_pos h0]
    by_cases h1 : x.f2 < (rd_T53 l 0).f2
    ·simp only [if_pos h1]
     exact Ev.now _
    ·simp only [if_neg h1]
     exact Ev.bind (implLearn_ev a l x (by omega) (by omega)) (Ev.now _)
   ·simp only [if_neg h0]
    exact Ev.bind (implLearn_ev a l x (by omega) (by omega)) (Ev.now _)
  ·simp only [if_neg hk]
   exact Ev.now _
 ·simp only [if_neg hg]
  exact Ev.now _
end Go.Proofs.Ytcbofebikbbknaa.P

namespace Go.Proofs.Ytcbofebikbbknaa.Pure
open Go.RowKit Go.Proofs.Ytcbofebikbbknaa.P Go.Proofs.YtcbofebikbbknaaW.PrintWords Go.Proofs.YtcbofebikbbknaaW.PrintLast
set_option linter.unusedVariables false
set_option linter.unusedSimpArgs false
theorem FnExactLearn : laws_FnExactLearn.Pure := by
 intro s t ⟨_, hm, _⟩ _
 refine Ev.rounds ?_
 unfold laws_FnExactLearn.f
 rw [szTable_is s.f0 s.f1 hm 1048576 (by omega) (by omega)]
 simp only [Option.bind_some]
 by_cases h : (1048576 : Int) - s.f1.length < 0
 ·simp only [if_pos h]
  exact Ev.now _
 ·have hl : s.f1.length ≤ 1048576 := by omega
  have hl2 : (s.f1.map cvSeen).length ≤ 1048576 := by simpa using hl
  have hr : (learnT s.f0 (s.f1.map cvSeen) (cvSeen t)).2.1.length ≤ 1048576 := Nat.le_trans (learnT_len ..) (by omega)
  simp only [if_neg h]
  refine Ev.bind (toTable_ev s.f0 s.f1 hl) ?_
  simp only [laws_toSeen.f, Option.bind_some]
  refine Ev.bind (specLearnT_ev s.f0 _ (cvSeen t) hl2) ?_
  refine Ev.bind (toTable_ev s.f0 s.f1 hl) ?_
  simp only [laws_toSeen.f, Option.bind_some]
  refine Ev.bind (implLearnT_ev s.f0 _ (cvSeen t) hl2) ?_
  have hi := implLearnT_ev s.f0 _ (cvSeen t) hl2
  generalize learnT s.f0 (s.f1.map cvSeen) (cvSeen t) = r at hr hi
  refine Ev.bind (eqTable_ev _ _ (by omega)) ?_
  simp only [if_true, bne_self_eq_false]
  refine Ev.succ ?_
  simp only [laws_FnExactLearn.j0, Bool.false_eq_true, if_false]
  refine Ev.bind (toTable_ev s.f0 s.f1 hl) ?_
  refine Ev.bind (eqTable_ev _ _ (by omega)) ?_
  simp only [if_true]
  refine Ev.bind (markTable_ev _ _ 1 (by omega) (by omega) (by omega)) ?_
  simp only [if_neg (show ¬ (1 + 3 * ((s.f1.map cvSeen).length : Int)) < 0 by omega)]
  refine Ev.bind (eqTable_ev _ _ (by omega)) ?_
  simp only [if_true, bne_self_eq_false]
  refine Ev.succ ?_
  simp only [laws_FnExactLearn.j1, Bool.false_eq_true, if_false]
  refine Ev.bind (markTable_ev _ _ 1 (by omega) (by omega) (by omega)) ?_
  refine Ev.bind (heldTable_ev _ _ 1 (by omega) (by omega) (by omega)) ?_
  simp only [if_neg (show ¬ (1 + 3 * (r.2.1.length : Int)) < 0 by omega), if_true]
  refine Ev.bind (toTable_ev s.f0 s.f1 hl) ?_
  simp only [laws_toSeen.f, Option.bind_some]
  refine Ev.bind hi ?_
  refine Ev.bind (eqTable_ev _ _ (by omega)) ?_
  simp only [if_true, bne_self_eq_false]
  refine Ev.succ ?_
  simp only [laws_FnExactLearn.j2, Bool.false_eq_true, if_false]
  refine Ev.bind (heldTable_ev _ _ 1 (by omega) (by omega) (by omega)) ?_
  simp only [if_neg (show ¬ (1 + 3 * (r.2.1.length : Int)) < 0 by omega), if_true]
  exact Ev.now _
end Go.Proofs.Ytcbofebikbbknaa.Pure
