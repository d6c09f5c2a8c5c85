/- Functions, walks and plain lemmas that the law FnExactTreesFor reaches, part 6. -/
import Derived.Test.YtedegfbheihopaaCFnExactTreesFor5
import Derived.WalkKit
import Derived.ProofKit
import Derived.OpenShut
import Derived.ChangeOld
import Derived.Below
import Derived.SizedLaws
import Derived.ChangeArms
import Derived.DataElems
import Derived.Deep.Draws
import Derived.Deep.AppendLies
import Derived.Maps.AppendAt
import Derived.OwnWalk
import Derived.Laws.BytesArg
import Derived.Laws.MakeOwn
import Derived.Laws.OwnMore
import Derived.Deep.OwnRows
import Derived.Tactics
import Derived.Lib.ConvBytes
import Derived.Laws.Slices
import Derived.KernelRfl
import Derived.RowKit3
import Derived.Deep.LoopGhost
import Derived.Deep.QuietTactic
import Derived.BigQuiet
import Derived.WideLaws
import Derived.Deep.DeepCutAuto
import Derived.Deep.CutBlock
import Derived.Deep.RegionHeld3
import Derived.Laws.Rows
import Derived.Lib.AppendStr
import Derived.ArgAppend
import Derived.Laws.IdiomCopy
import Derived.OrdersHeld
import Derived.Laws.BitsLemmas
import Derived.RowKit
import Derived.WalkSpells
import Derived.Lib.SliceRun
import Derived.Shelf.Abstract
import Derived.ShutString
namespace Go.Proofs.Ytedegfbheihopaa.P
open Go.RowKit Go.Proofs.YtedegfbheihopaaW.PrintWords Go.Proofs.YtedegfbheihopaaW.PrintLast
set_option linter.unusedVariables false
set_option linter.unusedSimpArgs false
-- the neighbours of a node: the sorted puts and the sweep over costs give one list
def putI : List Int → Int → List Int
 | [], x => [x]
 | y :: r, x => if y < x then y :: putI r x else if y = x then y :: r else x :: y :: r
theorem putI_len : ∀ (l : List Int) (x : Int), (putI l x).length ≤ l.length + 1
 | [], x => by simp [putI]
 | y :: r, x => by
  have := putI_len r x
  unfold putI
  split
  ·simp; omega
  ·split <;> simp
theorem putI_mem : ∀ (l : List Int) (x z : Int), z ∈ putI l x ↔ z = x ∨ z ∈ l
 | [], x, z => by simp [putI]
 | y :: r, x, z => by
  have := putI_mem r x z
  unfold putI
  split
  ·simp only [List.mem_cons, this]
   constructor
   ·rintro (h | h | h) <;> simp [h]
   ·rintro (h | h | h) <;> simp [h]
  ·split
   ·rename_i h
    subst h
    simp
   ·simp
theorem putI_sorted : ∀ (l : List Int) (x : Int), l.Pairwise (· < ·) → (putI l x).Pairwise (· < ·)
 | [], x, _ => by simp [putI]
 | y :: r, x, h => by
  have h1 := List.pairwise_cons.1 h
  have := putI_sorted r x h1.2
  unfold putI
  split
  ·rename_i hyx
   refine List.pairwise_cons.2 ⟨fun z hz => ?_, this⟩
   rcases (putI_mem r x z).1 hz with h2 | h2
   ·omega
   ·exact h1.1 z h2
  ·split
   ·exact h
   ·refine List.pairwise_cons.2 ⟨fun z hz => ?_, h⟩
    rcases List.mem_cons.1 hz with h2 | h2
    ·omega
    ·have := h1.1 z h2
     omega
theorem sorted_ext : ∀ (a b : List Int), a.Pairwise (· < ·) → b.Pairwise (· < ·) → (∀ x, x ∈ a ↔ x ∈ b) → a = b
 | [], [], _, _, _ => rfl
 | [], y :: b, _, _, h => by have := (h y).2 (List.mem_cons_self ..); simp at this
 | x :: a, [], _, _, h => by have := (h x).1 (List.mem_cons_self ..); simp at this
 | x :: a, y :: b, ha, hb, h => by
  have ha1 := List.pairwise_cons.1 ha
  have hb1 := List.pairwise_cons.1 hb
  have hxy : x = y := by
   rcases List.mem_cons.1 ((h x).1 (List.mem_cons_self ..)) with h1 | h1
   ·exact h1
   ·rcases List.mem_cons.1 ((h y).2 (List.mem_cons_self ..)) with h2 | h2
    ·exact h2.symm
    ·have := ha1.1 y h2
     have := hb1.1 x h1
     omega
  subst hxy
  rw [sorted_ext a b ha1.2 hb1.2 fun z => ?_]
  constructor
  ·intro hz
   rcases List.mem_cons.1 ((h z).1 (List.mem_cons_of_mem _ hz)) with h1 | h1
   ·have := ha1.1 z hz
    omega
   ·exact h1
  ·intro hz
   rcases List.mem_cons.1 ((h z).2 (List.mem_cons_of_mem _ hz)) with h1 | h1
   ·have := hb1.1 z hz
    omega
   ·exact h1
theorem put_l (x : Int) (suf : List Int) : ∀ (pre : List Int), ((pre ++ suf).length : Int) ≤ 4398046511104 → Ev (fun k => spec_l1Put.l0 k (pre ++ suf) x pre.length) (pre ++ putI suf x) := by
 induction suf with
 | nil =>
  intro pre h
  refine Ev.succ ?_
  simp only [List.append_nil] at h ⊢
  have h0 : pre.length < 17592186044416 := by omega
  simp only [spec_l1Put.l0, Int.lt_irrefl, if_false, Option.bind_some, if_pos (show (0 : Int) ≤ pre.length by omega), if_pos (Int.le_refl (pre.length : Int)), Int.toNat_natCast, List.take_length, List.drop_length, List.nil_append, List.length_nil, Nat.zero_add, if_pos h0, List.length_append, List.length_cons, Nat.add_zero, List.append_nil, if_pos (show pre.length + (0 + 1) < 17592186044416 by omega), if_pos (show pre.length + 1 < 17592186044416 by omega), putI]
  exact Ev.now _
 | cons y suf ih =>
  intro pre h
  refine Ev.succ ?_
  have hl := len_mid pre y suf
  rw [hl] at h
  simp only [spec_l1Put.l0, hl, rd_mid, if_pos (show ((pre.length : Int) < pre.length + suf.length + 1) by omega), if_pos (show (0 : Int) ≤ pre.length by omega), wrap_id (show (-9223372036854775808 : Int) ≤ pre.length + 1 by omega) (show ((pre.length : Int) + 1 ≤ 9223372036854775807) by omega)]
  by_cases h1 : y < x
  ·have := ih (pre ++ [y]) (by rw [← app_one, hl]; exact h)
   rw [← app_one, len_one] at this
   simp only [if_pos h1, putI]
   rw [app_one] at this
   rw [app_one pre y (putI suf x)]
   rw [← app_one] at this
   exact this
  ·by_cases h2 : y = x
   ·simp only [if_neg h1, if_pos h2, putI]
    exact Ev.now _
   ·have h0 : pre.length < 17592186044416 := by omega
    simp only [if_neg h1, if_neg h2, putI, Option.bind_some, if_pos (show (pre.length : Int) ≤ pre.length + suf.length + 1 by omega), Int.toNat_natCast, List.take_left, List.drop_left, List.nil_append, List.length_nil, Nat.zero_add, if_pos h0, List.length_append, List.length_cons, if_pos (show pre.length + 1 + (suf.length + 1) < 17592186044416 by omega), if_pos (show pre.length + (0 + 1) + (suf.length + 1) < 17592186044416 by omega), List.append_assoc, List.cons_append]
    exact Ev.now _
theorem put_ev (l : List Int) (x : Int) (h : (l.length : Int) ≤ 4398046511104) : Ev (fun k => spec_l1Put.f k l x) (putI l x) := by
 have := put_l x l [] h
 exact this
def nearStep (v : Int) (out : List Int) (e : S79) : List Int := if e.f0 = v then (if e.f1 = v then putI (putI out e.f1) e.f0 else putI out e.f1) else (if e.f1 = v then putI out e.f0 else out)
theorem nearStep_len (v : Int) (out : List Int) (e : S79) : (nearStep v out e).length ≤ out.length + 2 := by
 unfold nearStep
 split
 ·split
  ·have := putI_len (putI out e.f1) e.f0
   have := putI_len out e.f1
   omega
  ·have := putI_len out e.f1
   omega
 ·split
  ·have := putI_len out e.f0
   omega
  ·omega
theorem specNear_l (v : Int) (suf : List S79) : ∀ (pre : List S79) (out : List Int), ((pre ++ suf).length : Int) ≤ 1099511627776 → (out.length : Int) ≤ 2 * pre.length →
  Ev (fun k => spec_l8Near.l0 k v out (pre ++ suf) ((pre ++ suf).length : Int) pre.length) (suf.foldl (nearStep v) out) := by
 induction suf with
 | nil =>
  intro pre out h ho
  refine Ev.succ ?_
  simp only [spec_l8Near.l0, List.append_nil, Int.lt_irrefl, if_false, List.foldl_nil]
  exact Ev.now _
 | cons e suf ih =>
  intro pre out h ho
  refine Ev.succ ?_
  rw [len_mid] at h ⊢
  have hs := nearStep_len v out e
  have := ih (pre ++ [e]) (nearStep v out e) (by rw [← app_one, len_mid]; exact h) (by rw [len_one]; omega)
  rw [← app_one, len_mid, len_one] at this
  simp only [spec_l8Near.l0, List.foldl_cons]
  simp only [if_pos (show ((pre.length : Int) < pre.length + suf.length + 1) by omega), if_pos (show (0 : Int) ≤ pre.length by omega), len_mid, rdEdge_mid, wrap_id (show (-9223372036854775808 : Int) ≤ pre.length + 1 by omega) (show ((pre.length : Int) + 1 ≤ 9223372036854775807) by omega)]
  have hp := putI_len out e.f1
  by_cases h1 : e.f0 = v
  ·by_cases h2 : e.f1 = v
   ·simp only [if_pos h1, if_pos h2]
    refine Ev.bind (put_ev _ _ (by omega)) ?_
    refine Ev.bind (put_ev _ _ (by omega)) ?_
    rw [show nearStep v out e = putI (putI out e.f1) e.f0 by simp [nearStep, h1, h2]] at this
    rw [show nearStep v out e = putI (putI out e.f1) e.f0 by simp [nearStep, h1, h2]]
    exact this
   ·simp only [if_pos h1, if_neg h2]
    refine Ev.bind (put_ev _ _ (by omega)) ?_
    rw [show nearStep v out e = putI out e.f1 by simp only [nearStep, if_pos h1, if_neg h2]] at this
    rw [show nearStep v out e = putI out e.f1 by simp only [nearStep, if_pos h1, if_neg h2]]
    exact this
  ·by_cases h2 : e.f1 = v
   ·simp only [if_neg h1, if_pos h2]
    refine Ev.bind (put_ev _ _ (by omega)) ?_
    rw [show nearStep v out e = putI out e.f0 by simp only [nearStep, if_neg h1, if_pos h2]] at this
    rw [show nearStep v out e = putI out e.f0 by simp only [nearStep, if_neg h1, if_pos h2]]
    exact this
   ·simp only [if_neg h1, if_neg h2]
    rw [show nearStep v out e = out by simp only [nearStep, if_neg h1, if_neg h2]] at this
    rw [show nearStep v out e = out by simp only [nearStep, if_neg h1, if_neg h2]]
    exact this
def nearS (l : List S79) (v : Int) : List Int := l.foldl (nearStep v) []
theorem specNear_ev (l : List S79) (v : Int) (h : (l.length : Int) ≤ 1099511627776) : Ev (fun k => spec_l8Near.f k l v) (nearS l v) := by
 have := specNear_l v l [] [] h (by simp)
 exact this
theorem foldNear (v : Int) : ∀ (l : List S79) (out : List Int), out.Pairwise (· < ·) → (l.foldl (nearStep v) out).Pairwise (· < ·) ∧ ∀ x, x ∈ l.foldl (nearStep v) out ↔ x ∈ out ∨ ∃ e ∈ l, (e.f0 = v ∧ e.f1 = x) ∨ (e.f1 = v ∧ e.f0 = x)
 | [], out, h => by simp [h]
 | e :: l, out, h => by
  have h1 : (nearStep v out e).Pairwise (· < ·) := by
   unfold nearStep
   split
   ·split
    ·exact putI_sorted _ _ (putI_sorted _ _ h)
    ·exact putI_sorted _ _ h
   ·split
    ·exact putI_sorted _ _ h
    ·exact h
  have h2 : ∀ x, x ∈ nearStep v out e ↔ x ∈ out ∨ (e.f0 = v ∧ e.f1 = x) ∨ (e.f1 = v ∧ e.f0 = x) := by
   intro x
   unfold nearStep
   split
   ·rename_i a
    split
    ·rename_i b
     rw [putI_mem, putI_mem]
     constructor
     ·rintro (c | c | c)
      ·exact .inr (.inr ⟨b, c.symm⟩)
      ·exact .inr (.inl ⟨a, c.symm⟩)
      ·exact .inl c
     ·rintro (c | c | c)
      ·exact .inr (.inr c)
      ·exact .inr (.inl c.2.symm)
      ·exact .inl c.2.symm
    ·rename_i b
     rw [putI_mem]
     constructor
     ·rintro (c | c)
      ·exact .inr (.inl ⟨a, c.symm⟩)
      ·exact .inl c
     ·rintro (c | c | c)
      ·exact .inr c
      ·exact .inl c.2.symm
      ·exact absurd c.1 b
   ·rename_i a
    split
    ·rename_i b
     rw [putI_mem]
     constructor
     ·rintro (c | c)
      ·exact .inr (.inr ⟨b, c.symm⟩)
      ·exact .inl c
     ·rintro (c | c | c)
      ·exact .inr c
      ·exact absurd c.1 a
      ·exact .inl c.2.symm
    ·rename_i b
     constructor
     ·exact .inl
     ·rintro (c | c | c)
      ·exact c
      ·exact absurd c.1 a
      ·exact absurd c.1 b
  have h3 := foldNear v l (nearStep v out e) h1
  refine ⟨h3.1, fun x => ?_⟩
  rw [List.foldl_cons, h3.2, h2]
  constructor
  ·rintro ((c | c) | ⟨y, c, d⟩)
   ·exact .inl c
   ·exact .inr ⟨e, List.mem_cons_self .., c⟩
   ·exact .inr ⟨y, List.mem_cons_of_mem _ c, d⟩
  ·rintro (c | ⟨y, c, d⟩)
   ·exact .inl (.inl c)
   ·rcases List.mem_cons.1 c with rfl | c
    ·exact .inl (.inr d)
    ·exact .inr ⟨y, c, d⟩
def isAt (a b : Int) (e : S79) : Bool := decide (e.f0 = min a b ∧ e.f1 = max a b)
def costM (l : List S79) (a b : Int) : Int := match l.find? (isAt a b) with
 | some e => e.f2
 | none => 0
theorem implCost_l (a b : Int) (suf : List S79) : ∀ (pre : List S79), ((pre ++ suf).length : Int) ≤ 1099511627776 →
  Ev (fun k => impl_cost.l0 k a b (pre ++ suf) ((pre ++ suf).length : Int) pre.length) (costM suf a b) := by
 induction suf with
 | nil =>
  intro pre h
  refine Ev.succ ?_
  simp only [impl_cost.l0, List.append_nil, Int.lt_irrefl, if_false]
  exact Ev.now _
 | cons e suf ih =>
  intro pre h
  refine Ev.succ ?_
  rw [len_mid] at h ⊢
  have := ih (pre ++ [e]) (by rw [← app_one, len_mid]; exact h)
  rw [← app_one, len_mid, len_one] at this
  simp only [impl_cost.l0]
  simp only [if_pos (show ((pre.length : Int) < pre.length + suf.length + 1) by omega), if_pos (show (0 : Int) ≤ pre.length by omega), len_mid, rdEdge_mid, wrap_id (show (-9223372036854775808 : Int) ≤ pre.length + 1 by omega) (show ((pre.length : Int) + 1 ≤ 9223372036854775807) by omega), mn_is, mx_is]
  by_cases h1 : e.f0 = min a b
  ·by_cases h2 : e.f1 = max a b
   ·simp only [if_pos h1, if_pos h2]
    rw [show costM (e :: suf) a b = e.f2 by unfold costM; rw [List.find?_cons_of_pos (by simp only [isAt, h1, h2, and_self, decide_true])]]
    exact Ev.now _
   ·simp only [if_pos h1, if_neg h2]
    rw [show costM (e :: suf) a b = costM suf a b by unfold costM; rw [List.find?_cons_of_neg (by simp only [isAt, h2, and_false, decide_false]; simp)]]
    exact this
  ·simp only [if_neg h1]
   rw [show costM (e :: suf) a b = costM suf a b by unfold costM; rw [List.find?_cons_of_neg (by simp only [isAt, h1, false_and, decide_false]; simp)]]
   exact this
theorem implCost_ev (l : List S79) (a b : Int) (h : (l.length : Int) ≤ 1099511627776) : Ev (fun k => impl_cost.f k l a b) (costM l a b) := by
 have := implCost_l a b l [] h
 exact this
def nearM (n : Nat) (l : List S79) (v : Int) : List Int := (own0 n).filter fun u => decide (costM l v u > 0)
theorem nearM_succ (n : Nat) (l : List S79) (v : Int) : nearM (n + 1) l v = if costM l v n > 0 then nearM n l v ++ [(n : Int)] else nearM n l v := by
 unfold nearM
 rw [own0_succ, List.filter_append]
 split
 ·rename_i h
  simp [h]
 ·rename_i h
  simp [h]
theorem nearM_len (n : Nat) (l : List S79) (v : Int) : (nearM n l v).length ≤ n := by
 have := List.length_filter_le (fun u => decide (costM l v u > 0)) (own0 n)
 rw [own0_len] at this
 exact this
theorem implNear_l (l : List S79) (v : Int) (hb : (l.length : Int) ≤ 1099511627776) (d : Nat) : ∀ (c : Nat), c + d ≤ 1000000 →
  Ev (fun k => impl_near.l0 k l v (nearM c l v) ((c + d : Nat) : Int) c) (nearM (c + d) l v) := by
 induction d with
 | zero =>
  intro c h
  refine Ev.succ ?_
  simp only [impl_near.l0, Nat.add_zero, Int.lt_irrefl, if_false]
  exact Ev.now _
 | succ d ih =>
  intro c h
  refine Ev.succ ?_
  have := ih (c + 1) (by omega)
  rw [show c + 1 + d = c + (d + 1) by omega] at this
  have hl := nearM_len c l v
  simp only [impl_near.l0, if_pos (show (c : Int) < ((c + (d + 1) : Nat) : Int) by omega), wrap_id (show (-9223372036854775808 : Int) ≤ c + 1 by omega) (show ((c : Int) + 1 ≤ 9223372036854775807) by omega)]
  refine Ev.bind (implCost_ev l v c hb) ?_
  rw [nearM_succ] at this
  by_cases h1 : costM l v c > 0
  ·simp only [if_pos h1, if_pos (show (nearM c l v).length < 17592186044416 by omega)] at this ⊢
   exact this
  ·simp only [if_neg h1] at this ⊢
   exact this
theorem implNear_ev (n : Int) (l : List S79) (v : Int) (h0 : 0 ≤ n) (hn : n ≤ 1000) (hb : (l.length : Int) ≤ 1099511627776) : Ev (fun k => impl_near.f k n l v) (nearM n.toNat l v) := by
 have := implNear_l l v hb n.toNat 0 (by omega)
 rw [Nat.zero_add, show ((n.toNat : Nat) : Int) = n by omega] at this
 exact this
theorem costM_pos {n : Int} {l : List S79} (hx : ∀ x ∈ l, 0 ≤ x.f0 ∧ x.f0 < x.f1 ∧ x.f1 < n ∧ 1 ≤ x.f2 ∧ x.f2 ≤ 100) (a b : Int) : costM l a b > 0 ↔ ∃ e ∈ l, (e.f0 = a ∧ e.f1 = b) ∨ (e.f1 = a ∧ e.f0 = b) := by
 unfold costM
 cases hf : l.find? (isAt a b) with
 | none =>
  simp only [gt_iff_lt, Int.lt_irrefl, false_iff]
  rintro ⟨e, he, hc⟩
  have := hx e he
  have h1 := List.find?_eq_none.1 hf e he
  simp only [isAt, decide_eq_true_eq] at h1
  omega
 | some e =>
  have he := List.mem_of_find?_eq_some hf
  have := hx e he
  have h1 := List.find?_some hf
  simp only [isAt, decide_eq_true_eq] at h1
  simp only [gt_iff_lt]
  refine ⟨fun _ => ⟨e, he, ?_⟩, fun _ => by omega⟩
  omega
theorem near_same {n : Int} {l : List S79} (hx : ∀ x ∈ l, 0 ≤ x.f0 ∧ x.f0 < x.f1 ∧ x.f1 < n ∧ 1 ≤ x.f2 ∧ x.f2 ≤ 100) (v : Int) : nearS l v = nearM n.toNat l v := by
 have h := foldNear v l [] (by simp)
 refine sorted_ext _ _ h.1 ?_ fun x => ?_
 ·exact (own0_sorted _).filter _
 ·unfold nearM
  rw [List.mem_filter, own0_mem, decide_eq_true_eq, costM_pos hx]
  have h2 := h.2 x
  simp only [List.not_mem_nil, false_or] at h2
  refine h2.trans ⟨fun hc => ⟨?_, hc⟩, fun hc => hc.2⟩
  obtain ⟨e, he, hc⟩ := hc
  have := hx e he
  omega
end Go.Proofs.Ytedegfbheihopaa.P

namespace Go.Proofs.Ytedegfbheihopaa.P
open Go.RowKit Go.Proofs.YtedegfbheihopaaW.PrintWords Go.Proofs.YtedegfbheihopaaW.PrintLast
set_option linter.unusedVariables false
set_option linter.unusedSimpArgs false
-- all the shortest ways from a node, both sides
def farsIt (l : List S79) : Nat → List Int → List Int
 | 0, x => x
 | d + 1, x => farsIt l d (relaxM l x)
theorem farsIt_len (l : List S79) : ∀ (d : Nat) (x : List Int), (farsIt l d x).length = x.length
 | 0, _ => rfl
 | d + 1, x => by rw [farsIt, farsIt_len l d, relaxM_len]
def fars0 (n : Nat) (a : Int) : List Int := (List.replicate n (100000 : Int)).set a.toNat 0
theorem fars0_len (n : Nat) (a : Int) : (fars0 n a).length = n := by simp [fars0]
def farsM (n : Nat) (l : List S79) (a : Int) : List Int := farsIt l n (fars0 n a)
theorem farsM_len (n : Nat) (l : List S79) (a : Int) : (farsM n l a).length = n := by rw [farsM, farsIt_len, fars0_len]
theorem specFars_l1 (n : Nat) (hn : n ≤ 1000) (l : List S79) (hb : (l.length : Int) ≤ 1099511627776) (hx : ∀ x ∈ l, 0 ≤ x.f0 ∧ x.f0 < x.f1 ∧ x.f1 < n) (d : Nat) : ∀ (c : Nat) (x : List Int), c + d = n → x.length = n →
  Ev (fun k => spec_l9Fars.l1 k n l x c) (farsIt l d x) := by
 induction d with
 | zero =>
  intro c x h hl
  refine Ev.succ ?_
  simp only [spec_l9Fars.l1, if_neg (show ¬ (c : Int) < n by omega)]
  exact Ev.now _
 | succ d ih =>
  intro c x h hl
  refine Ev.succ ?_
  have := ih (c + 1) (relaxM l x) (by omega) (by rw [relaxM_len, hl])
  simp only [spec_l9Fars.l1, if_pos (show (c : Int) < n by omega), wrap_id (show (-9223372036854775808 : Int) ≤ c + 1 by omega) (show ((c : Int) + 1 ≤ 9223372036854775807) by omega)]
  refine Ev.bind (specRelax_ev l x hb (by omega) (by rw [hl]; exact hx)) ?_
  exact this
theorem implFars_l1 (n : Nat) (hn : n ≤ 1000) (l : List S79) (hb : (l.length : Int) ≤ 1099511627776) (hx : ∀ x ∈ l, 0 ≤ x.f0 ∧ x.f0 < x.f1 ∧ x.f1 < n) (d : Nat) : ∀ (c : Nat) (x : List Int), c + d = n → x.length = n →
  Ev (fun k => impl_fars.l1 k l x n c) (farsIt l d x) := by
 induction d with
 | zero =>
  intro c x h hl
  refine Ev.succ ?_
  simp only [impl_fars.l1, if_neg (show ¬ (c : Int) < n by omega)]
  exact Ev.now _
 | succ d ih =>
  intro c x h hl
  refine Ev.succ ?_
  have := ih (c + 1) (relaxM l x) (by omega) (by rw [relaxM_len, hl])
  simp only [impl_fars.l1, if_pos (show (c : Int) < n by omega), wrap_id (show (-9223372036854775808 : Int) ≤ c + 1 by omega) (show ((c : Int) + 1 ≤ 9223372036854775807) by omega)]
  refine Ev.bind (implRelax_ev l x hb (by omega) (by rw [hl]; exact hx)) ?_
  exact this
theorem rep_succ (c : Nat) (x : Int) : List.replicate c x ++ [x] = List.replicate (c + 1) x := by
 rw [List.replicate_succ']
theorem specFars_l0 (n : Nat) (hn : n ≤ 1000) (l : List S79) (a : Int) (R : List Int) (ha : 0 ≤ a) (ha1 : a < n) (hR : Ev (fun k => spec_l9Fars.l1 k n l (fars0 n a) 0) R) (d : Nat) : ∀ (c : Nat), c + d = n →
  Ev (fun k => spec_l9Fars.l0 k n l a (List.replicate c 100000) c) R := by
 induction d with
 | zero =>
  intro c h
  refine Ev.succ ?_
  have hc : c = n := by omega
  subst hc
  simp only [spec_l9Fars.l0, Int.lt_irrefl, if_false, if_pos ha, List.length_replicate, if_pos ha1]
  exact hR
 | succ d ih =>
  intro c h
  refine Ev.succ ?_
  have := ih (c + 1) (by omega)
  simp only [spec_l9Fars.l0, if_pos (show (c : Int) < n by omega), List.length_replicate, if_pos (show c < 17592186044416 by omega), wrap_id (show (-9223372036854775808 : Int) ≤ c + 1 by omega) (show ((c : Int) + 1 ≤ 9223372036854775807) by omega)]
  rw [rep_succ]
  exact this
theorem specFars_ev (n : Int) (l : List S79) (a : Int) (hn : n ≤ 1000) (hb : (l.length : Int) ≤ 1099511627776) (hx : ∀ x ∈ l, 0 ≤ x.f0 ∧ x.f0 < x.f1 ∧ x.f1 < n) (ha : 0 ≤ a) (ha1 : a < n) : Ev (fun k => spec_l9Fars.f k n l a) (farsM n.toNat l a) := by
 obtain ⟨m, rfl⟩ := Int.eq_ofNat_of_zero_le (show 0 ≤ n by omega)
 rw [Int.toNat_natCast]
 have := specFars_l0 m (by omega) l a _ ha ha1 (specFars_l1 m (by omega) l hb hx m 0 _ (by omega) (fars0_len m a)) m 0 (by omega)
 exact this
theorem implFars_l0 (n : Nat) (hn : n ≤ 1000) (l : List S79) (a : Int) (R : List Int) (ha : 0 ≤ a) (ha1 : a < n) (hR : Ev (fun k => impl_fars.l1 k l (fars0 n a) n 0) R) (d : Nat) : ∀ (c : Nat), c + d = n →
  Ev (fun k => impl_fars.l0 k n l a (List.replicate c 100000 ++ List.replicate d 0) n c) R := by
 induction d with
 | zero =>
  intro c h
  refine Ev.succ ?_
  have hc : c = n := by omega
  subst hc
  simp only [impl_fars.l0, Int.lt_irrefl, if_false, if_pos ha, List.replicate_zero, List.append_nil, List.length_replicate, if_pos ha1]
  exact hR
 | succ d ih =>
  intro c h
  refine Ev.succ ?_
  have := ih (c + 1) (by omega)
  have hl : ((List.replicate c (100000 : Int) ++ List.replicate (d + 1) (0 : Int)).length : Int) = n := by simp; omega
  simp only [impl_fars.l0, hl, if_pos (show (c : Int) < n by omega), if_pos (show (0 : Int) ≤ c by omega), wrap_id (show (-9223372036854775808 : Int) ≤ c + 1 by omega) (show ((c : Int) + 1 ≤ 9223372036854775807) by omega)]
  have hs := set_mid (List.replicate c (100000 : Int)) 0 100000 (List.replicate d 0)
  rw [List.length_replicate] at hs
  rw [List.replicate_succ, hs, app_one, rep_succ]
  exact this
theorem implFars_ev (n : Int) (l : List S79) (a : Int) (hn : n ≤ 1000) (hb : (l.length : Int) ≤ 1099511627776) (hx : ∀ x ∈ l, 0 ≤ x.f0 ∧ x.f0 < x.f1 ∧ x.f1 < n) (ha : 0 ≤ a) (ha1 : a < n) : Ev (fun k => impl_fars.f k n l a) (farsM n.toNat l a) := by
 obtain ⟨m, rfl⟩ := Int.eq_ofNat_of_zero_le (show 0 ≤ n by omega)
 rw [Int.toNat_natCast]
 unfold impl_fars.f
 simp only [Int.toNat_natCast, if_pos (show (0 : Int) ≤ (m : Int) by omega), if_pos (show m ≤ 35184372088832 by omega), Option.bind_some, List.length_replicate]
 have := implFars_l0 m (by omega) l a _ ha ha1 (implFars_l1 m (by omega) l hb hx m 0 _ (by omega) (fars0_len m a)) m 0 (by omega)
 exact this
theorem edge3 {n : Int} {l : List S79} (h : goodE n l = true) : ∀ x ∈ l, 0 ≤ x.f0 ∧ x.f0 < x.f1 ∧ x.f1 < n := fun x hm => ⟨(goodE_edge h x hm).1, (goodE_edge h x hm).2.1, (goodE_edge h x hm).2.2.1⟩
end Go.Proofs.Ytedegfbheihopaa.P

namespace Go.Proofs.Ytedegfbheihopaa.P
open Go.RowKit Go.Proofs.YtedegfbheihopaaW.PrintWords Go.Proofs.YtedegfbheihopaaW.PrintLast
set_option linter.unusedVariables false
set_option linter.unusedSimpArgs false
-- the cost of a list of nodes, both sides
theorem specEdge_l (a b : Int) (suf : List S79) : ∀ (pre : List S79), ((pre ++ suf).length : Int) ≤ 1099511627776 → (∀ x ∈ suf, x.f0 < x.f1) →
  Ev (fun k => spec_l9Edge.l0 k a b (pre ++ suf) ((pre ++ suf).length : Int) pre.length) (costM suf a b) := by
 induction suf with
 | nil =>
  intro pre h hx
  refine Ev.succ ?_
  simp only [spec_l9Edge.l0, List.append_nil, Int.lt_irrefl, if_false]
  exact Ev.now _
 | cons e suf ih =>
  intro pre h hx
  refine Ev.succ ?_
  rw [len_mid] at h ⊢
  have := ih (pre ++ [e]) (by rw [← app_one, len_mid]; exact h) (fun x hm => hx x (List.mem_cons_of_mem _ hm))
  rw [← app_one, len_mid, len_one] at this
  have he := hx e (List.mem_cons_self ..)
  simp only [spec_l9Edge.l0]
  simp only [if_pos (show ((pre.length : Int) < pre.length + suf.length + 1) by omega), if_pos (show (0 : Int) ≤ pre.length by omega), len_mid, rdEdge_mid, wrap_id (show (-9223372036854775808 : Int) ≤ pre.length + 1 by omega) (show ((pre.length : Int) + 1 ≤ 9223372036854775807) by omega)]
  by_cases hc : e.f0 = min a b ∧ e.f1 = max a b
  ·rw [show costM (e :: suf) a b = e.f2 by unfold costM; rw [List.find?_cons_of_pos (by simp only [isAt, hc, and_self, decide_true])]]
   by_cases hab : a ≤ b
   ·simp only [if_pos (show e.f0 = a by omega), if_pos (show e.f1 = b by omega)]
    exact Ev.now _
   ·simp only [if_neg (show ¬ e.f0 = a by omega), if_pos (show e.f0 = b by omega), if_pos (show e.f1 = a by omega)]
    exact Ev.now _
  ·rw [show costM (e :: suf) a b = costM suf a b by unfold costM; rw [List.find?_cons_of_neg (by simp only [isAt, hc, decide_false]; simp)]]
   by_cases h1 : e.f0 = a
   ·simp only [if_pos h1, if_neg (show ¬ e.f1 = b by omega)]
    by_cases h2 : e.f0 = b
    ·simp only [if_pos h2, if_neg (show ¬ e.f1 = a by omega)]
     exact this
    ·simp only [if_neg h2]
     exact this
   ·simp only [if_neg h1]
    by_cases h2 : e.f0 = b
    ·simp only [if_pos h2, if_neg (show ¬ e.f1 = a by omega)]
     exact this
    ·simp only [if_neg h2]
     exact this
theorem specEdge_ev {n : Int} (l : List S79) (a b : Int) (h : (l.length : Int) ≤ 1099511627776) (hg : ∀ x ∈ l, 0 ≤ x.f0 ∧ x.f0 < x.f1 ∧ x.f1 < n) : Ev (fun k => spec_l9Edge.f k l a b) (costM l a b) := by
 have := specEdge_l a b l [] h (fun x hm => (hg x hm).2.1)
 exact this
end Go.Proofs.Ytedegfbheihopaa.P

namespace Go.Proofs.Ytedegfbheihopaa.P
open Go.RowKit Go.Proofs.YtedegfbheihopaaW.PrintWords Go.Proofs.YtedegfbheihopaaW.PrintLast
set_option linter.unusedVariables false
set_option linter.unusedSimpArgs false
-- the first steps of the shortest ways, one side
def hopsGo (l : List S79) (a : Int) (F : List Int) (q : List Int) : List Int := q.filter fun u => decide (rd F a < 100000 ∧ wrap64 (rd F u + costM l a u) = rd F a)
theorem hopsGo_pos (l : List S79) (a : Int) (F : List Int) (u : Int) (q : List Int) (h : rd F a < 100000 ∧ wrap64 (rd F u + costM l a u) = rd F a) : hopsGo l a F (u :: q) = u :: hopsGo l a F q := by
 unfold hopsGo
 exact List.filter_cons_of_pos (decide_eq_true h)
theorem hopsGo_neg (l : List S79) (a : Int) (F : List Int) (u : Int) (q : List Int) (h : ¬ (rd F a < 100000 ∧ wrap64 (rd F u + costM l a u) = rd F a)) : hopsGo l a F (u :: q) = hopsGo l a F q := by
 unfold hopsGo
 exact List.filter_cons_of_neg (by rw [decide_eq_true_eq]; exact h)
theorem implHops_l (n : Nat) (l : List S79) (hb : (l.length : Int) ≤ 1099511627776) (a : Int) (ha : 0 ≤ a) (ha1 : a < n) (F : List Int) (hF : F.length = n) (suf : List Int) : ∀ (pre out : List Int), ((pre ++ suf).length : Int) ≤ 1000000 → out.length ≤ pre.length → (∀ u ∈ suf, 0 ≤ u ∧ u < n) →
  Ev (fun k => impl_hops.l0 k l a F out (pre ++ suf) ((pre ++ suf).length : Int) pre.length) (out ++ hopsGo l a F suf) := by
 induction suf with
 | nil =>
  intro pre out h ho hu
  refine Ev.succ ?_
  simp only [impl_hops.l0, List.append_nil, Int.lt_irrefl, if_false, hopsGo, List.filter_nil]
  exact Ev.now _
 | cons u suf ih =>
  intro pre out h ho hu
  refine Ev.succ ?_
  rw [len_mid] at h ⊢
  have h0 := hu u (List.mem_cons_self ..)
  have := fun o ho => ih (pre ++ [u]) o (by rw [← app_one, len_mid]; exact h) ho (fun x hm => hu x (List.mem_cons_of_mem _ hm))
  rw [← app_one, len_mid, len_one] at this
  simp only [impl_hops.l0]
  simp only [if_pos (show ((pre.length : Int) < pre.length + suf.length + 1) by omega), if_pos (show (0 : Int) ≤ pre.length by omega), len_mid, rd_mid, wrap_id (show (-9223372036854775808 : Int) ≤ pre.length + 1 by omega) (show ((pre.length : Int) + 1 ≤ 9223372036854775807) by omega), if_pos ha, if_pos (show a < (F.length : Int) by omega), if_pos h0.1, if_pos (show u < (F.length : Int) by omega)]
  by_cases h1 : rd F a < 100000
  ·simp only [if_pos h1]
   refine Ev.bind (implCost_ev l a u hb) ?_
   by_cases h2 : wrap64 (rd F u + costM l a u) = rd F a
   ·simp only [if_pos h2, if_pos (show out.length < 17592186044416 by omega)]
    rw [hopsGo_pos l a F u suf ⟨h1, h2⟩, app_one out u (hopsGo l a F suf)]
    exact this (out ++ [u]) (by simp only [List.length_append, List.length_singleton]; omega)
   ·simp only [if_neg h2]
    rw [hopsGo_neg l a F u suf (fun hc => h2 hc.2)]
    exact this out (by rw [List.length_append]; omega)
  ·simp only [if_neg h1]
   rw [hopsGo_neg l a F u suf (fun hc => h1 hc.1)]
   exact this out (by rw [List.length_append]; omega)
def hopsM (n : Nat) (l : List S79) (a b : Int) : List Int := hopsGo l a (farsM n l b) (nearM n l a)
theorem nearM_in (n : Nat) (l : List S79) (a u : Int) (h : u ∈ nearM n l a) : 0 ≤ u ∧ u < n := (own0_mem n u).1 (List.mem_filter.1 h).1
theorem implHops_ev (n : Int) (l : List S79) (a b : Int) (hl : l.length ≤ 1048576) (h : goodE n l = true) (ha : 0 ≤ a) (ha1 : a < n) : Ev (fun k => impl_hops.f k n l a (farsM n.toNat l b)) (hopsM n.toNat l a b) := by
 have hn := goodE_n h
 unfold impl_hops.f
 refine Ev.bind (implNear_ev n l a (by omega) (by omega) (by omega)) ?_
 have hq := nearM_len n.toNat l a
 have := implHops_l n.toNat l (by omega) a ha (by omega) (farsM n.toNat l b) (farsM_len ..) (nearM n.toNat l a) [] [] (by rw [List.nil_append]; omega) (by simp) (fun u hu => nearM_in _ _ _ _ hu)
 exact this
end Go.Proofs.Ytedegfbheihopaa.P

namespace Go.Proofs.Ytedegfbheihopaa.P
open Go.RowKit Go.Proofs.YtedegfbheihopaaW.PrintWords Go.Proofs.YtedegfbheihopaaW.PrintLast
set_option linter.unusedVariables false
set_option linter.unusedSimpArgs false
-- the tree of shortest ways to a node, both sides
theorem costM_symm (l : List S79) (a b : Int) : costM l a b = costM l b a := by
 unfold costM
 rw [show isAt a b = isAt b a from funext fun e => by unfold isAt; rw [Int.min_comm, Int.max_comm]]
def parM (n : Nat) (l : List S79) (a v : Int) : Int := if v = a then -1 else (hopsM n l v a).headD (-1)
theorem specAt_l1 (n : Nat) (l : List S79) (hb : (l.length : Int) ≤ 1099511627776) (hg : ∀ x ∈ l, 0 ≤ x.f0 ∧ x.f0 < x.f1 ∧ x.f1 < n) (a v : Int) (hv : 0 ≤ v) (hv1 : v < n) (F out : List Int) (hF : F.length = n) (ho : out.length ≤ 1000) (R : List Int) (suf : List Int) : ∀ (pre : List Int) (b : Int), ((pre ++ suf).length : Int) ≤ 1000000 → (∀ u ∈ suf, 0 ≤ u ∧ u < n) →
  Ev (fun k => spec_l10At.l0 k n l a F (out ++ [if b < 0 then (if v = a then b else (hopsGo l v F suf).headD b) else b]) (wrap64 (v + 1))) R →
  Ev (fun k => spec_l10At.l1 k n l a F out v b (pre ++ suf) ((pre ++ suf).length : Int) pre.length) R := by
 induction suf with
 | nil =>
  intro pre b h hu hR
  refine Ev.succ ?_
  rw [show (hopsGo l v F []).headD b = b from rfl] at hR
  simp only [ite_self] at hR
  simp only [spec_l10At.l1, List.append_nil, Int.lt_irrefl, if_false, if_pos (show out.length < 17592186044416 by omega)]
  exact hR
 | cons u suf ih =>
  intro pre b h hu hR
  refine Ev.succ ?_
  rw [len_mid] at h ⊢
  have h0 := hu u (List.mem_cons_self ..)
  have := fun b => ih (pre ++ [u]) b (by rw [← app_one, len_mid]; exact h) (fun x hm => hu x (List.mem_cons_of_mem _ hm))
  rw [← app_one, len_mid, len_one] at this
  simp only [spec_l10At.l1]
  simp only [if_pos (show ((pre.length : Int) < pre.length + suf.length + 1) by omega), if_pos (show (0 : Int) ≤ pre.length by omega), len_mid, rd_mid, wrap_id (show (-9223372036854775808 : Int) ≤ pre.length + 1 by omega) (show ((pre.length : Int) + 1 ≤ 9223372036854775807) by omega)]
  by_cases hb0 : b < 0
  ·simp only [if_pos hb0] at hR ⊢
   by_cases hva : v = a
   ·simp only [if_pos hva] at hR ⊢
    refine this b ?_
    simp only [if_pos hb0, if_pos hva]
    exact hR
   ·simp only [if_neg hva, if_pos hv, if_pos (show v < (F.length : Int) by omega), if_pos h0.1, if_pos (show u < (F.length : Int) by omega)] at hR ⊢
    by_cases h1 : rd F v < 100000
    ·simp only [if_pos h1]
     refine Ev.bind (specEdge_ev l u v hb hg) ?_
     rw [costM_symm l u v]
     by_cases h2 : wrap64 (rd F u + costM l v u) = rd F v
     ·simp only [if_pos h2]
      rw [hopsGo_pos l v F u suf ⟨h1, h2⟩, List.headD_cons] at hR
      refine this u ?_
      simp only [if_neg (show ¬ u < 0 by omega)]
      exact hR
     ·simp only [if_neg h2]
      rw [hopsGo_neg l v F u suf (fun hc => h2 hc.2)] at hR
      refine this b ?_
      simp only [if_pos hb0, if_neg hva]
      exact hR
    ·simp only [if_neg h1]
     rw [hopsGo_neg l v F u suf (fun hc => h1 hc.1)] at hR
     refine this b ?_
     simp only [if_pos hb0, if_neg hva]
     exact hR
  ·simp only [if_neg hb0] at hR ⊢
   refine this b ?_
   simp only [if_neg hb0]
   exact hR
def pars (n : Nat) (l : List S79) (a : Int) (c : Nat) : List Int := (own0 c).map (parM n l a)
theorem pars_len (n : Nat) (l : List S79) (a : Int) (c : Nat) : (pars n l a c).length = c := by unfold pars; rw [List.length_map, own0_len]
theorem pars_succ (n : Nat) (l : List S79) (a : Int) (c : Nat) : pars n l a (c + 1) = pars n l a c ++ [parM n l a c] := by
 unfold pars
 rw [own0_succ, List.map_append]
 rfl
theorem specAt_l0 (n : Nat) (hn : n ≤ 1000) (l : List S79) (hb : (l.length : Int) ≤ 1099511627776) (hx : ∀ x ∈ l, 0 ≤ x.f0 ∧ x.f0 < x.f1 ∧ x.f1 < n ∧ 1 ≤ x.f2 ∧ x.f2 ≤ 100) (a : Int) (d : Nat) : ∀ (c : Nat), c + d = n →
  Ev (fun k => spec_l10At.l0 k n l a (farsM n l a) (pars n l a c) c) (pars n l a n) := by
 induction d with
 | zero =>
  intro c h
  refine Ev.succ ?_
  have hc : c = n := by omega
  subst hc
  simp only [spec_l10At.l0, Int.lt_irrefl, if_false]
  exact Ev.now _
 | succ d ih =>
  intro c h
  refine Ev.succ ?_
  have hi := ih (c + 1) (by omega)
  have hp := pars_len n l a c
  simp only [spec_l10At.l0, if_pos (show (c : Int) < n by omega)]
  refine Ev.bind (specNear_ev l c hb) ?_
  rw [near_same hx, Int.toNat_natCast]
  have hq := nearM_len n l c
  have := specAt_l1 n l hb (fun x hm => ⟨(hx x hm).1, (hx x hm).2.1, (hx x hm).2.2.1⟩) a c (by omega) (by omega) (farsM n l a) (pars n l a c) (farsM_len ..) (by omega) (pars n l a n) (nearM n l c) [] (-1) (by rw [List.nil_append]; omega) (fun u hu => nearM_in _ _ _ _ hu)
  refine this ?_
  simp only [if_pos (show (-1 : Int) < 0 by omega), wrap_id (show (-9223372036854775808 : Int) ≤ c + 1 by omega) (show ((c : Int) + 1 ≤ 9223372036854775807) by omega)]
  rw [pars_succ] at hi
  exact hi
theorem implAt_l0 (n : Nat) (hn : n ≤ 1000) (l : List S79) (hl : l.length ≤ 1048576) (hgood : goodE n l = true) (a : Int) (d : Nat) : ∀ (c : Nat), c + d = n →
  Ev (fun k => impl_treeAt.l0 k n l a (farsM n l a) (pars n l a c ++ List.replicate d 0) n c) (pars n l a n) := by
 induction d with
 | zero =>
  intro c h
  refine Ev.succ ?_
  have hc : c = n := by omega
  subst hc
  simp only [impl_treeAt.l0, Int.lt_irrefl, if_false, List.replicate_zero, List.append_nil]
  exact Ev.now _
 | succ d ih =>
  intro c h
  refine Ev.succ ?_
  have hi := ih (c + 1) (by omega)
  have hp := pars_len n l a c
  have hlen : ((pars n l a c ++ List.replicate (d + 1) (0 : Int)).length : Int) = n := by simp [hp]; omega
  simp only [impl_treeAt.l0, hlen, if_pos (show (c : Int) < n by omega), if_pos (show (0 : Int) ≤ c by omega), Option.bind_some, wrap_id (show (-9223372036854775808 : Int) ≤ c + 1 by omega) (show ((c : Int) + 1 ≤ 9223372036854775807) by omega)]
  have hh := implHops_ev (n : Int) l c a hl hgood (by omega) (by omega)
  rw [Int.toNat_natCast] at hh
  refine Ev.bind hh ?_
  have hs := fun y => set_mid (pars n l a c) (0 : Int) y (List.replicate d 0)
  have hs2 := fun x y => set_mid (pars n l a c) (x : Int) y (List.replicate d 0)
  rw [hp] at hs hs2
  rw [List.replicate_succ, hs]
  rw [pars_succ] at hi
  by_cases h1 : (c : Int) = a
  ·simp only [if_pos h1]
   rw [parM, if_pos h1, ← app_one] at hi
   exact hi
  ·simp only [if_neg h1]
   rw [parM, if_neg h1, ← app_one] at hi
   by_cases h2 : ((hopsM n l c a).length : Int) > 0
   ·simp only [if_pos h2, if_pos (show (0 : Int) < ((hopsM n l c a).length : Int) from h2)]
    rw [hs2]
    rw [show rd (hopsM n l c a) 0 = (hopsM n l c a).headD (-1) from ?_]
    ·exact hi
    ·cases hm : hopsM n l c a with
     | nil => rw [hm] at h2; simp at h2
     | cons x r => rfl
   ·simp only [if_neg h2]
    rw [show (hopsM n l c a).headD (-1) = -1 from ?_] at hi
    ·exact hi
    ·cases hm : hopsM n l c a with
     | nil => rfl
     | cons x r => rw [hm] at h2; simp at h2
end Go.Proofs.Ytedegfbheihopaa.P

namespace Go.Proofs.Ytedegfbheihopaa.P
open Go.RowKit Go.Proofs.YtedegfbheihopaaW.PrintWords Go.Proofs.YtedegfbheihopaaW.PrintLast
set_option linter.unusedVariables false
set_option linter.unusedSimpArgs false
theorem rdSS_mid (pre : List (List Int)) (x : List Int) (suf : List (List Int)) : rd_L6 (pre ++ x :: suf) (pre.length : Int) = x := getD_mid _ pre x suf
theorem eqSame_l (suf : List (List Int)) (hs : ∀ x ∈ suf, x.length ≤ 1048576) : ∀ (pre : List (List Int)), ((pre ++ suf).length : Int) ≤ 1099511627776 → Ev (fun k => laws_eqIntSS.l0 k (pre ++ suf) (pre ++ suf) pre.length) true := by
 induction suf with
 | nil =>
  intro pre h
  refine Ev.succ ?_
  simp only [laws_eqIntSS.l0, List.append_nil, Int.lt_irrefl, if_false]
  exact Ev.now _
 | cons x suf ih =>
  intro pre h
  refine Ev.succ ?_
  rw [len_mid] at h
  have := ih (fun y hy => hs y (List.mem_cons_of_mem _ hy)) (pre ++ [x]) (by rw [← app_one, len_mid]; exact h)
  rw [← app_one, len_one] at this
  have hx := hs x (List.mem_cons_self ..)
  simp only [laws_eqIntSS.l0]
  simp only [len_mid, if_pos (show ((pre.length : Int) < pre.length + suf.length + 1) by omega), if_pos (show (0 : Int) ≤ pre.length by omega), rdSS_mid, wrap_id (show (-9223372036854775808 : Int) ≤ pre.length + 1 by omega) (show ((pre.length : Int) + 1 ≤ 9223372036854775807) by omega)]
  refine Ev.bind (eqIntS_ev x x (by omega)) ?_
  simp only [decide_true, if_true]
  exact this
theorem eqSame_ev (l : List (List Int)) (hl : l.length ≤ 1048576) (hs : ∀ x ∈ l, x.length ≤ 1048576) : Ev (fun k => laws_eqIntSS.f k l l) true := by
 unfold laws_eqIntSS.f
 simp only [if_true]
 exact eqSame_l l hs [] (by simp only [List.nil_append]; omega)
end Go.Proofs.Ytedegfbheihopaa.P

namespace Go.Proofs.Ytedegfbheihopaa.P
open Go.RowKit Go.Proofs.YtedegfbheihopaaW.PrintWords Go.Proofs.YtedegfbheihopaaW.PrintLast
set_option linter.unusedVariables false
set_option linter.unusedSimpArgs false
def marksI : Nat → Int → List Int
 | 0, _ => []
 | n + 1, q => q :: marksI n (q + 1)
theorem markIntS_l (suf : List Int) : ∀ (pre : List Int) (k : Nat) (q : Int), suf.length < k → (pre.length : Int) + suf.length ≤ 1099511627776 → 0 ≤ q → q + suf.length ≤ 4611686018427387904 →
  laws_markIntS.l0 k (pre ++ suf) q (pre.length : Int) = some (q + suf.length, pre ++ marksI suf.length q) := by
 induction suf with
 | nil =>
  intro pre k q hk hb h0 h1
  obtain ⟨k, rfl⟩ : ∃ m, k = m + 1 := ⟨k - 1, by omega⟩
  simp only [laws_markIntS.l0]
  rw [if_neg (by simp)]
  simp [marksI]
 | cons x suf ih =>
  intro pre k q hk hb h0 h1
  simp only [List.length_cons] at hk hb h1
  obtain ⟨k, rfl⟩ : ∃ m, k = m + 1 := ⟨k - 1, by omega⟩
  have h := ih (pre ++ [q]) k (q + 1) (by omega) (by simp <;> omega) (by omega) (by omega)
  simp only [laws_markIntS.l0]
  rw [if_pos (by simp <;> omega), if_pos (by omega), set_mid, wrap_id (x := q + 1) (by omega) (by omega), wrap_id (x := (pre.length : Int) + 1) (by omega) (by omega)]
  rw [len_one] at h
  rw [app_one, h]
  simp only [marksI, List.length_cons, List.append_assoc, List.cons_append, List.nil_append, Option.some.injEq, Prod.mk.injEq, and_true]
  omega
theorem markIntS_ev (l : List Int) (q : Int) (hl : l.length ≤ 1099511627776) (h0 : 0 ≤ q) (h1 : q ≤ 1099511627776) : Ev (fun k => laws_markIntS.f k l q) (q + l.length, marksI l.length q) := by
 refine ⟨l.length + 1, fun k hk => ?_⟩
 show laws_markIntS.f k l q = _
 unfold laws_markIntS.f
 simpa using markIntS_l l [] k q (by omega) (by simp <;> omega) h0 (by omega)
theorem heldIntS_l (n : Nat) : ∀ (pre : List Int) (k : Nat) (q : Int), n < k → (pre.length : Int) + n ≤ 1099511627776 → 0 ≤ q → q + n ≤ 4611686018427387904 →
  laws_heldIntS.l0 k (pre ++ marksI n q) q (pre.length : Int) = some (q + n) := by
 induction n with
 | zero =>
  intro pre k q hk hb h0 h1
  obtain ⟨k, rfl⟩ : ∃ m, k = m + 1 := ⟨k - 1, by omega⟩
  simp only [laws_heldIntS.l0]
  rw [show marksI 0 q = [] from rfl, if_neg (by simp)]
  simp
 | succ n ih =>
  intro pre k q hk hb h0 h1
  obtain ⟨k, rfl⟩ : ∃ m, k = m + 1 := ⟨k - 1, by omega⟩
  have h := ih (pre ++ [q]) k (q + 1) (by omega) (by simp <;> omega) (by omega) (by omega)
  simp only [laws_heldIntS.l0]
  rw [show marksI (n + 1) q = q :: marksI n (q + 1) from rfl]
  rw [if_pos (by simp <;> omega), if_pos (by omega), rd_mid, if_pos rfl, wrap_id (x := q + 1) (by omega) (by omega), wrap_id (x := (pre.length : Int) + 1) (by omega) (by omega)]
  rw [len_one] at h
  rw [app_one, h]
  simp only [Option.some.injEq]
  omega
theorem heldIntS_ev (n : Nat) (q : Int) (hl : n ≤ 1099511627776) (h0 : 0 ≤ q) (h1 : q ≤ 1099511627776) : Ev (fun k => laws_heldIntS.f k (marksI n q) q) (q + n) := by
 refine ⟨n + 1, fun k hk => ?_⟩
 show laws_heldIntS.f k (marksI n q) q = _
 unfold laws_heldIntS.f
 exact heldIntS_l n [] k q (by omega) (by simp <;> omega) h0 (by omega)
end Go.Proofs.Ytedegfbheihopaa.P

namespace Go.Proofs.Ytedegfbheihopaa.P
open Go.RowKit Go.Proofs.YtedegfbheihopaaW.PrintWords Go.Proofs.YtedegfbheihopaaW.PrintLast
set_option linter.unusedVariables false
set_option linter.unusedSimpArgs false
def marksSS : List (List Int) → Int → List (List Int)
 | [], _ => []
 | x :: r, q => marksI x.length q :: marksSS r (q + x.length)
def endSS : List (List Int) → Int → Int
 | [], q => q
 | x :: r, q => endSS r (q + x.length)
theorem endSS_ge : ∀ (l : List (List Int)) (q : Int), q ≤ endSS l q
 | [], q => Int.le_refl q
 | x :: r, q => by
  rw [endSS]
  have := endSS_ge r (q + x.length)
  omega
theorem markIntSS_l (suf : List (List Int)) : ∀ (pre : List (List Int)) (q : Int), (pre.length : Int) + suf.length ≤ 1048576 → (∀ x ∈ suf, x.length ≤ 1000) → 0 ≤ q → q + 1000 * suf.length ≤ 1099511627776 →
  Ev (fun k => laws_markIntSS.l0 k (pre ++ suf) q (pre.length : Int)) (endSS suf q, pre ++ marksSS suf q) := by
 induction suf with
 | nil =>
  intro pre q h hs h0 h1
  refine Ev.succ ?_
  simp only [laws_markIntSS.l0, List.append_nil, Int.lt_irrefl, if_false]
  exact Ev.some_ (by simp [endSS, marksSS])
 | cons x suf ih =>
  intro pre q h hs h0 h1
  rw [List.length_cons] at h h1
  have hx := hs x (by simp)
  refine Ev.succ ?_
  simp only [laws_markIntSS.l0, if_pos (show ((pre.length : Int) < ((pre ++ x :: suf).length : Int)) by rw [len_mid]; omega), if_pos (show (0 : Int) ≤ pre.length by omega), getD_mid, wrap_id (show (-9223372036854775808 : Int) ≤ pre.length + 1 by omega) (show ((pre.length : Int) + 1 ≤ 9223372036854775807) by omega)]
  refine Ev.bind (markIntS_ev x q (by omega) h0 (by omega)) ?_
  simp only [set_mid]
  have := ih (pre ++ [marksI x.length q]) (q + x.length) (by rw [len_one]; omega) (fun y hy => hs y (by simp [hy])) (by omega) (by omega)
  rw [len_one, ← app_one] at this
  rw [show (endSS (x :: suf) q, pre ++ marksSS (x :: suf) q) = (endSS suf (q + x.length), (pre ++ [marksI x.length q]) ++ marksSS suf (q + x.length)) by rw [endSS, marksSS, List.append_assoc]; rfl]
  exact this
theorem markIntSS_ev (l : List (List Int)) (q : Int) (hl : l.length ≤ 1000) (hs : ∀ x ∈ l, x.length ≤ 1000) (h0 : 0 ≤ q) (h1 : q ≤ 1000000) : Ev (fun k => laws_markIntSS.f k l q) (endSS l q, marksSS l q) :=
 markIntSS_l l [] q (by simp; omega) hs h0 (by omega)
theorem heldIntSS_l (suf : List (List Int)) : ∀ (pre : List (List Int)) (q : Int), (pre.length : Int) + suf.length ≤ 1048576 → (∀ x ∈ suf, x.length ≤ 1000) → 0 ≤ q → q + 1000 * suf.length ≤ 1099511627776 →
  Ev (fun k => laws_heldIntSS.l0 k (pre ++ marksSS suf q) q (pre.length : Int)) (endSS suf q) := by
 induction suf with
 | nil =>
  intro pre q h hs h0 h1
  refine Ev.succ ?_
  simp only [laws_heldIntSS.l0, marksSS, List.append_nil, Int.lt_irrefl, if_false]
  exact Ev.now _
 | cons x suf ih =>
  intro pre q h hs h0 h1
  rw [List.length_cons] at h h1
  have hx := hs x (by simp)
  refine Ev.succ ?_
  rw [marksSS]
  simp only [laws_heldIntSS.l0, if_pos (show ((pre.length : Int) < ((pre ++ marksI x.length q :: marksSS suf (q + x.length)).length : Int)) by rw [len_mid]; omega), if_pos (show (0 : Int) ≤ pre.length by omega), rdSS_mid, wrap_id (show (-9223372036854775808 : Int) ≤ pre.length + 1 by omega) (show ((pre.length : Int) + 1 ≤ 9223372036854775807) by omega)]
  refine Ev.bind (heldIntS_ev x.length q (by omega) h0 (by omega)) ?_
  simp only [if_neg (show ¬ (q + (x.length : Int) < 0) by omega)]
  have := ih (pre ++ [marksI x.length q]) (q + x.length) (by rw [len_one]; omega) (fun y hy => hs y (by simp [hy])) (by omega) (by omega)
  rw [len_one, ← app_one] at this
  exact this
theorem heldIntSS_ev (l : List (List Int)) (q : Int) (hl : l.length ≤ 1000) (hs : ∀ x ∈ l, x.length ≤ 1000) (h0 : 0 ≤ q) (h1 : q ≤ 1000000) : Ev (fun k => laws_heldIntSS.f k (marksSS l q) q) (endSS l q) :=
 heldIntSS_l l [] q (by simp; omega) hs h0 (by omega)
end Go.Proofs.Ytedegfbheihopaa.P

namespace Go.Proofs.Ytedegfbheihopaa.P
open Go.RowKit Go.Proofs.YtedegfbheihopaaW.PrintWords Go.Proofs.YtedegfbheihopaaW.PrintLast
set_option linter.unusedVariables false
set_option linter.unusedSimpArgs false
theorem specAt_ev {m : Nat} {l : List S79} (v : Int) (hl : l.length ≤ 1048576) (h : goodE m l = true) (h0 : 0 ≤ v) (h1 : v < m) : Ev (fun k => spec_l10At.f k m l v) (pars m l v m) := by
 have hn := goodE_n h
 unfold spec_l10At.f
 have := specFars_ev (m : Int) l v (by omega) (by omega) (edge3 h) h0 (by omega)
 rw [Int.toNat_natCast] at this
 refine Ev.bind this ?_
 exact specAt_l0 m (by omega) l (by omega) (goodE_edge h) v m 0 (by omega)
theorem implAt_ev {m : Nat} {l : List S79} (v : Int) (hl : l.length ≤ 1048576) (h : goodE m l = true) (h0 : 0 ≤ v) (h1 : v < m) : Ev (fun k => impl_treeAt.f k m l v) (pars m l v m) := by
 have hn := goodE_n h
 unfold impl_treeAt.f
 have := implFars_ev (m : Int) l v (by omega) (by omega) (edge3 h) h0 (by omega)
 rw [Int.toNat_natCast] at this
 refine Ev.bind this ?_
 simp only [Int.toNat_natCast, if_pos (show (0 : Int) ≤ (m : Int) by omega), if_pos (show m ≤ 35184372088832 by omega), Option.bind_some, List.length_replicate]
 exact implAt_l0 m (by omega) l hl h v m 0 (by omega)
def trs (m : Nat) (l : List S79) (c : Nat) : List (List Int) := (own0 c).map fun v => pars m l v m
theorem trs_succ (m : Nat) (l : List S79) (c : Nat) : trs m l (c + 1) = trs m l c ++ [pars m l c m] := by
 unfold trs
 rw [own0_succ, List.map_append]
 rfl
theorem trs_len (m : Nat) (l : List S79) (c : Nat) : (trs m l c).length = c := by unfold trs; rw [List.length_map, own0_len]
theorem specTrs_l {m : Nat} {l : List S79} (hl : l.length ≤ 1048576) (h : goodE m l = true) (z : Int) (hz : z ≤ m) (d : Nat) : ∀ (c : Nat), (c : Int) + d = z →
  Ev (fun k => spec_TreesFor.l0 k m l z (trs m l c) c) (trs m l z.toNat, true) := by
 have hn := goodE_n h
 induction d with
 | zero =>
  intro c hc
  refine Ev.succ ?_
  simp only [spec_TreesFor.l0, if_neg (show ¬ (c : Int) < z by omega)]
  exact Ev.some_ (by rw [show z.toNat = c by omega])
 | succ d ih =>
  intro c hc
  refine Ev.succ ?_
  have hln := trs_len m l c
  simp only [spec_TreesFor.l0, if_pos (show (c : Int) < z by omega), wrap_id (show (-9223372036854775808 : Int) ≤ c + 1 by omega) (show ((c : Int) + 1 ≤ 9223372036854775807) by omega)]
  refine Ev.bind (specAt_ev c hl h (by omega) (by omega)) ?_
  simp only [if_pos (show (trs m l c).length < 5864062014805 by omega), ← trs_succ]
  exact ih (c + 1) (by omega)
theorem implTrs_l {m : Nat} {l : List S79} (hl : l.length ≤ 1048576) (h : goodE m l = true) (z : Int) (hz : z ≤ m) (d : Nat) : ∀ (c : Nat), (c : Int) + d = z →
  Ev (fun k => impl_TreesFor.l0 k m l (trs m l c) z c) (trs m l z.toNat, true) := by
 have hn := goodE_n h
 induction d with
 | zero =>
  intro c hc
  refine Ev.succ ?_
  simp only [impl_TreesFor.l0, if_neg (show ¬ (c : Int) < z by omega)]
  exact Ev.some_ (by rw [show z.toNat = c by omega])
 | succ d ih =>
  intro c hc
  refine Ev.succ ?_
  have hln := trs_len m l c
  simp only [impl_TreesFor.l0, if_pos (show (c : Int) < z by omega), wrap_id (show (-9223372036854775808 : Int) ≤ c + 1 by omega) (show ((c : Int) + 1 ≤ 9223372036854775807) by omega)]
  refine Ev.bind (implAt_ev c hl h (by omega) (by omega)) ?_
  simp only [if_pos (show (trs m l c).length < 5864062014805 by omega), ← trs_succ]
  exact ih (c + 1) (by omega)
def treesFor (n : Int) (l : List S79) (z : Int) : List (List Int) × Bool := if goodE n l = true ∧ 0 ≤ z ∧ z ≤ n then (trs n.toNat l z.toNat, true) else ([], false)
theorem treesFor_len (n : Int) (l : List S79) (z : Int) : (treesFor n l z).1.length ≤ 12 ∧ ∀ x ∈ (treesFor n l z).1, x.length ≤ 12 := by
 unfold treesFor
 split
 ·rename_i h
  have hn := goodE_n h.1
  refine ⟨by show (trs n.toNat l z.toNat).length ≤ 12; rw [trs_len]; omega, fun x hx => ?_⟩
  obtain ⟨v, _, rfl⟩ := List.mem_map.1 hx
  have := pars_len n.toNat l v n.toNat
  omega
 ·simp
theorem specTreesFor_ev (n : Int) (l : List S79) (z : Int) (hl : l.length ≤ 1048576) : Ev (fun k => spec_TreesFor.f k n l z) (treesFor n l z) := by
 unfold spec_TreesFor.f treesFor
 refine Ev.bind (specGoodE_ev n l hl) ?_
 by_cases h : goodE n l = true
 ·have hn := goodE_n h
  obtain ⟨m, rfl⟩ := Int.eq_ofNat_of_zero_le (show 0 ≤ n by omega)
  simp only [h, if_true, specIn, Option.bind_some]
  refine Ev.succ ?_
  by_cases hz : 0 ≤ z ∧ z ≤ (m : Int)
  ·simp only [spec_TreesFor.j0, decide_eq_true hz, Bool.not_true, Bool.false_eq_true, if_false, if_pos (show True ∧ 0 ≤ z ∧ z ≤ (m : Int) from ⟨trivial, hz⟩), Int.toNat_natCast]
   exact specTrs_l hl h z hz.2 z.toNat 0 (by omega)
  ·simp only [spec_TreesFor.j0, decide_eq_false hz, Bool.not_false, if_true, if_neg (show ¬ (True ∧ 0 ≤ z ∧ z ≤ (m : Int)) from fun hc => hz hc.2)]
   exact Ev.now _
 ·simp only [h, Bool.false_eq_true, if_false, false_and]
  refine Ev.succ ?_
  simp only [spec_TreesFor.j0, if_true]
  exact Ev.now _
theorem implTreesFor_ev (n : Int) (l : List S79) (z : Int) (hl : l.length ≤ 1048576) : Ev (fun k => impl_TreesFor.f k n l z) (treesFor n l z) := by
 unfold impl_TreesFor.f treesFor
 refine Ev.bind (implGoodE_ev n l hl) ?_
 by_cases h : goodE n l = true
 ·have hn := goodE_n h
  obtain ⟨m, rfl⟩ := Int.eq_ofNat_of_zero_le (show 0 ≤ n by omega)
  simp only [h, if_true, implIn, Option.bind_some]
  refine Ev.succ ?_
  by_cases hz : 0 ≤ z ∧ z ≤ (m : Int)
  ·simp only [impl_TreesFor.j0, decide_eq_true hz, Bool.not_true, Bool.false_eq_true, if_false, if_pos (show True ∧ 0 ≤ z ∧ z ≤ (m : Int) from ⟨trivial, hz⟩), Int.toNat_natCast]
   exact implTrs_l hl h z hz.2 z.toNat 0 (by omega)
  ·simp only [impl_TreesFor.j0, decide_eq_false hz, Bool.not_false, if_true, if_neg (show ¬ (True ∧ 0 ≤ z ∧ z ≤ (m : Int)) from fun hc => hz hc.2)]
   exact Ev.now _
 ·simp only [h, Bool.false_eq_true, if_false, false_and]
  refine Ev.succ ?_
  simp only [impl_TreesFor.j0, if_true]
  exact Ev.now _
end Go.Proofs.Ytedegfbheihopaa.P

namespace Go.Proofs.Ytedegfbheihopaa.P
open Go.RowKit Go.Proofs.YtedegfbheihopaaW.PrintWords Go.Proofs.YtedegfbheihopaaW.PrintLast
set_option linter.unusedVariables false
set_option linter.unusedSimpArgs false
def marksEdge : Nat → Int → List S79
 | 0, _ => []
 | n + 1, q => ⟨q, q + 1, q + 2⟩ :: marksEdge n (q + 3)
theorem markEdgeS_l (suf : List S79) : ∀ (pre : List S79) (k : Nat) (q : Int), suf.length < k → (pre.length : Int) + suf.length ≤ 1099511627776 → 0 ≤ q → q + 3 * suf.length ≤ 4611686018427387904 →
  laws_markEdgeS.l0 k (pre ++ suf) q (pre.length : Int) = some (q + 3 * suf.length, pre ++ marksEdge suf.length q) := by
 induction suf with
 | nil =>
  intro pre k q hk hb h0 h1
  obtain ⟨k, rfl⟩ : ∃ m, k = m + 1 := ⟨k - 1, by omega⟩
  simp only [laws_markEdgeS.l0]
  rw [if_neg (by simp)]
  simp [marksEdge]
 | cons x suf ih =>
  intro pre k q hk hb h0 h1
  simp only [List.length_cons] at hk hb h1
  obtain ⟨k, rfl⟩ : ∃ m, k = m + 1 := ⟨k - 1, by omega⟩
  have h := ih (pre ++ [⟨q, q + 1, q + 2⟩]) k (q + 3) (by omega) (by simp <;> omega) (by omega) (by omega)
  simp only [laws_markEdgeS.l0]
  rw [if_pos (by simp <;> omega), if_pos (by omega)]
  simp only [Option.bind_some, set_mid, rdEdge_mid]
  rw [wrap_id (x := q + 1) (by omega) (by omega), wrap_id (x := q + 1 + 1) (by omega) (by omega), wrap_id (x := q + 1 + 1 + 1) (by omega) (by omega), wrap_id (x := (pre.length : Int) + 1) (by omega) (by omega)]
  rw [show q + 1 + 1 = q + 2 from by omega, show q + 2 + 1 = q + 3 from by omega]
  rw [show ((pre ++ [(⟨q, q + 1, q + 2⟩ : S79)]).length : Int) = (pre.length : Int) + 1 from by simp] at h
  rw [app_one, h]
  simp only [marksEdge, List.length_cons, List.append_assoc, List.cons_append, List.nil_append, Option.some.injEq, Prod.mk.injEq, and_true]
  omega
theorem markEdgeS_ev (l : List S79) (q : Int) (hl : l.length ≤ 1099511627776) (h0 : 0 ≤ q) (h1 : q ≤ 1099511627776) : Ev (fun k => laws_markEdgeS.f k l q) (q + 3 * l.length, marksEdge l.length q) := by
 refine ⟨l.length + 1, fun k hk => ?_⟩
 show laws_markEdgeS.f k l q = _
 unfold laws_markEdgeS.f
 simpa using markEdgeS_l l [] k q (by omega) (by simp <;> omega) h0 (by omega)
end Go.Proofs.Ytedegfbheihopaa.P

namespace Go.Proofs.Ytedegfbheihopaa.Pure
open Go.RowKit Go.Proofs.Ytedegfbheihopaa.P Go.Proofs.YtedegfbheihopaaW.PrintWords Go.Proofs.YtedegfbheihopaaW.PrintLast
set_option linter.unusedVariables false
set_option linter.unusedSimpArgs false
theorem FnExactTreesFor : laws_FnExactTreesFor.Pure := by
 intro a0 l a2 _ ⟨hm, _⟩ _
 refine Ev.rounds ?_
 unfold laws_FnExactTreesFor.f
 rw [szEdgeS_is l hm 1048576 (by omega) (by omega)]
 simp only [Option.bind_some]
 by_cases h : (1048576 : Int) - l.length < 0
 ·simp only [if_pos h]
  exact Ev.now _
 ·have hl : l.length ≤ 1048576 := by omega
  have hl2 : (l.map cvEdge).length ≤ 1048576 := by simpa using hl
  have hr := treesFor_len a0 (l.map cvEdge) a2
  simp only [if_neg h]
  refine Ev.bind (toEdgeS_ev l hl) ?_
  refine Ev.bind (specTreesFor_ev a0 _ a2 hl2) ?_
  refine Ev.bind (toEdgeS_ev l hl) ?_
  refine Ev.bind (implTreesFor_ev a0 _ a2 hl2) ?_
  have hi := implTreesFor_ev a0 _ a2 hl2
  generalize treesFor a0 (l.map cvEdge) a2 = r at hr hi
  have he : Ev (fun k => laws_eqIntSS.f k r.1 r.1) true := eqSame_ev r.1 (by omega) (fun x hx => by have := hr.2 x hx; omega)
  have h1000 : ∀ x ∈ r.1, x.length ≤ 1000 := fun x hx => by have := hr.2 x hx; omega
  have hge := endSS_ge r.1 1
  refine Ev.bind he ?_
  simp only [if_true, bne_self_eq_false]
  refine Ev.succ ?_
  simp only [laws_FnExactTreesFor.j0, Bool.false_eq_true, if_false]
  refine Ev.bind (toEdgeS_ev l hl) ?_
  refine Ev.bind (eqEdgeS_ev _ _ (by omega)) ?_
  simp only [decide_true, if_true]
  refine Ev.bind (markEdgeS_ev _ 1 (by omega) (by omega) (by omega)) ?_
  simp only [if_neg (show ¬ (1 + 3 * ((l.map cvEdge).length : Int)) < 0 by omega)]
  refine Ev.bind he ?_
  simp only [if_true, bne_self_eq_false]
  refine Ev.succ ?_
  simp only [laws_FnExactTreesFor.j1, Bool.false_eq_true, if_false]
  refine Ev.bind (markIntSS_ev _ 1 (by omega) h1000 (by omega) (by omega)) ?_
  refine Ev.bind (heldIntSS_ev _ 1 (by omega) h1000 (by omega) (by omega)) ?_
  simp only [if_neg (show ¬ (endSS r.1 1 < 0) by omega), if_true]
  refine Ev.bind (toEdgeS_ev l hl) ?_
  refine Ev.bind hi ?_
  refine Ev.bind he ?_
  simp only [if_true, bne_self_eq_false]
  refine Ev.succ ?_
  simp only [laws_FnExactTreesFor.j2, Bool.false_eq_true, if_false]
  refine Ev.bind (heldIntSS_ev _ 1 (by omega) h1000 (by omega) (by omega)) ?_
  simp only [if_neg (show ¬ (endSS r.1 1 < 0) by omega), if_true]
  exact Ev.now _
end Go.Proofs.Ytedegfbheihopaa.Pure
