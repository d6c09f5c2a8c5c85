/- Functions, walks and plain lemmas that the law FnSpread reaches, part 9. -/
import Derived.Test.YtedegfbheihopaaCFnSpread8
import Derived.Below
import Derived.Deep.Draws
import Derived.Deep.AppendLies
import Derived.Maps.AppendAt
import Derived.OwnWalk
import Derived.Laws.BytesArg
import Derived.Laws.MakeOwn
import Derived.Laws.OwnMore
import Derived.Deep.OwnRows
import Derived.Tactics
import Derived.Lib.ConvBytes
import Derived.Laws.Slices
import Derived.WalkKit
import Derived.KernelRfl
import Derived.RowKit3
import Derived.Deep.LoopGhost
import Derived.Deep.QuietTactic
import Derived.BigQuiet
import Derived.WideLaws
import Derived.Deep.DeepCutAuto
import Derived.Deep.CutBlock
import Derived.Deep.RegionHeld3
import Derived.Laws.Rows
import Derived.Lib.AppendStr
import Derived.ArgAppend
import Derived.Laws.IdiomCopy
import Derived.OrdersHeld
import Derived.Laws.BitsLemmas
import Derived.RowKit
import Derived.WalkSpells
import Derived.Lib.SliceRun
import Derived.Shelf.Abstract
import Derived.Maps.OwnSet
import Derived.Maps.OwnOps
import Derived.ProofKit
import Derived.OpenShut
import Derived.ShutString
import Derived.ChangeOld
import Derived.SizedLaws
namespace Go.Proofs.Ytedegfbheihopaa.P
open Go.RowKit Go.Proofs.YtedegfbheihopaaW.PrintWords Go.Proofs.YtedegfbheihopaaW.PrintLast
set_option linter.unusedVariables false
set_option linter.unusedSimpArgs false
def at_ (out : List Int) (v : Nat) : Int := out.getD v 0
def stepG (out : List Int) (e : Nat × Nat) : List Int := (out.set e.1 (min (at_ out e.1) (at_ out e.2))).set e.2 (min (at_ out e.1) (at_ out e.2))
def roundG (E : List (Nat × Nat)) (out : List Int) : List Int := E.foldl stepG out
def iterG (E : List (Nat × Nat)) (out : List Int) : Nat → List Int
 | 0 => out
 | k + 1 => roundG E (iterG E out k)
def InG (n : Nat) (E : List (Nat × Nat)) : Prop := ∀ e ∈ E, e.1 < n ∧ e.2 < n
inductive Conn (E : List (Nat × Nat)) : Nat → Nat → Prop
 | refl (v : Nat) : Conn E v v
 | fwd {v a b : Nat} : Conn E v a → (a, b) ∈ E → Conn E v b
 | bwd {v a b : Nat} : Conn E v b → (a, b) ∈ E → Conn E v a
theorem Conn.trans {E : List (Nat × Nat)} {u v w : Nat} (h : Conn E u v) (k : Conn E v w) : Conn E u w := by
 induction k with
 | refl => exact h
 | fwd _ he ih => exact .fwd ih he
 | bwd _ he ih => exact .bwd ih he
theorem Conn.symm {E : List (Nat × Nat)} {u v : Nat} (h : Conn E u v) : Conn E v u := by
 induction h with
 | refl => exact .refl _
 | fwd _ he ih => exact (Conn.bwd (.refl _) he).trans ih
 | bwd _ he ih => exact (Conn.fwd (.refl _) he).trans ih
theorem Conn.lt {n : Nat} {E : List (Nat × Nat)} (hE : InG n E) {u v : Nat} (h : Conn E u v) (hu : u < n) : v < n := by
 induction h with
 | refl => exact hu
 | fwd _ he _ => exact (hE _ he).2
 | bwd _ he _ => exact (hE _ he).1
theorem stepG_len (out : List Int) (e : Nat × Nat) : (stepG out e).length = out.length := by simp [stepG]
theorem at_set (out : List Int) (a v : Nat) (x : Int) (ha : a < out.length) : at_ (out.set a x) v = if v = a then x else at_ out v := by
 unfold at_
 rw [List.getD_eq_getElem?_getD, List.getD_eq_getElem?_getD]
 by_cases h : v = a
 ·subst h; rw [List.getElem?_set_self ha, if_pos rfl]; rfl
 ·rw [List.getElem?_set_ne (fun e => h e.symm), if_neg h]
theorem stepG_at (out : List Int) (e : Nat × Nat) (h1 : e.1 < out.length) (h2 : e.2 < out.length) (v : Nat) : at_ (stepG out e) v = if v = e.1 ∨ v = e.2 then min (at_ out e.1) (at_ out e.2) else at_ out v := by
 unfold stepG
 rw [at_set _ _ _ _ (by simpa using h2), at_set _ _ _ _ h1]
 by_cases h : v = e.2
 ·simp [h]
 ·by_cases h' : v = e.1 <;> simp [h, h']
theorem stepG_le (out : List Int) (e : Nat × Nat) (h1 : e.1 < out.length) (h2 : e.2 < out.length) (v : Nat) : at_ (stepG out e) v ≤ at_ out v := by
 rw [stepG_at out e h1 h2]
 split
 ·rename_i h
  rcases h with rfl | rfl <;> omega
 ·exact Int.le_refl _
theorem roundG_len : ∀ (E : List (Nat × Nat)) (out : List Int), (roundG E out).length = out.length
 | [], _ => rfl
 | e :: E, out => by
  show (roundG E (stepG out e)).length = _
  rw [roundG_len E, stepG_len]
theorem roundG_le : ∀ (E : List (Nat × Nat)) (out : List Int), InG out.length E → ∀ v, at_ (roundG E out) v ≤ at_ out v
 | [], _, _, v => Int.le_refl _
 | e :: E, out, h, v => by
  have he := h e (by simp)
  have h1 := roundG_le E (stepG out e) (by rw [stepG_len]; exact fun x hx => h x (by simp [hx])) v
  have h2 := stepG_le out e he.1 he.2 v
  show at_ (roundG E (stepG out e)) v ≤ _
  omega
/-- Behind a round both ends of an edge have no more than either had. -/
theorem roundG_edge : ∀ (E : List (Nat × Nat)) (out : List Int), InG out.length E → ∀ a b, (a, b) ∈ E → at_ (roundG E out) a ≤ at_ out b ∧ at_ (roundG E out) b ≤ at_ out a
 | [], _, _, a, b, h => by simp at h
 | e :: E, out, h, a, b, hab => by
  have he := h e (by simp)
  have hE : InG (stepG out e).length E := by rw [stepG_len]; exact fun x hx => h x (by simp [hx])
  show at_ (roundG E (stepG out e)) a ≤ _ ∧ at_ (roundG E (stepG out e)) b ≤ _
  rcases List.mem_cons.1 hab with rfl | hab
  ·have ha := roundG_le E (stepG out (a, b)) hE a
   have hb := roundG_le E (stepG out (a, b)) hE b
   rw [stepG_at out (a, b) he.1 he.2] at ha hb
   simp only [true_or, or_true, if_true] at ha hb
   omega
  ·have h1 := roundG_edge E (stepG out e) hE a b hab
   have h2 := stepG_le out e he.1 he.2 a
   have h3 := stepG_le out e he.1 he.2 b
   omega
theorem iterG_len (E : List (Nat × Nat)) (out : List Int) : ∀ k, (iterG E out k).length = out.length
 | 0 => rfl
 | k + 1 => by simp only [iterG]; rw [roundG_len, iterG_len E out k]
/-- Each label is a spot that is joined. -/
def LabG (E : List (Nat × Nat)) (out : List Int) : Prop := ∀ v, v < out.length → ∃ u : Nat, at_ out v = u ∧ Conn E v u
theorem stepG_lab {E : List (Nat × Nat)} {out : List Int} (e : Nat × Nat) (he : e ∈ E) (h1 : e.1 < out.length) (h2 : e.2 < out.length) (h : LabG E out) : LabG E (stepG out e) := by
 intro v hv
 rw [stepG_len] at hv
 rw [stepG_at out e h1 h2]
 split
 ·rename_i hve
  obtain ⟨x, y⟩ := e
  obtain ⟨u1, e1, c1⟩ := h x h1
  obtain ⟨u2, e2, c2⟩ := h y h2
  have cxy : Conn E x y := .fwd (.refl _) he
  have cv : Conn E v x ∧ Conn E v y := by
   rcases hve with rfl | rfl
   ·exact ⟨.refl _, cxy⟩
   ·exact ⟨cxy.symm, .refl _⟩
  simp only
  rw [e1, e2]
  rcases Int.le_total (u1 : Int) u2 with hle | hle
  ·exact ⟨u1, by omega, cv.1.trans c1⟩
  ·exact ⟨u2, by omega, cv.2.trans c2⟩
 ·exact h v hv
theorem foldl_lab {E : List (Nat × Nat)} : ∀ (D : List (Nat × Nat)) (out : List Int), (∀ e ∈ D, e ∈ E) → InG out.length D → LabG E out → LabG E (D.foldl stepG out)
 | [], _, _, _, h => h
 | e :: D, out, hD, hin, h => by
  have he := hin e (by simp)
  exact foldl_lab D (stepG out e) (fun x hx => hD x (by simp [hx])) (by rw [stepG_len]; exact fun x hx => hin x (by simp [hx])) (stepG_lab e (hD e (by simp)) he.1 he.2 h)
theorem iterG_lab {E : List (Nat × Nat)} {out : List Int} (hin : InG out.length E) (h : LabG E out) : ∀ k, LabG E (iterG E out k)
 | 0 => h
 | k + 1 => foldl_lab E _ (fun _ he => he) (by rw [iterG_len]; exact hin) (iterG_lab hin h k)
/-- How many spots have at most m. -/
def cntG (out : List Int) (m : Int) : Nat := (List.range out.length).countP fun v => decide (at_ out v ≤ m)
theorem countP_mono {α : Type} (p q : α → Bool) (l : List α) (h : ∀ x ∈ l, p x = true → q x = true) : l.countP p ≤ l.countP q := List.countP_mono_left h
theorem countP_lt {α : Type} (p q : α → Bool) : ∀ (l : List α), (∀ x ∈ l, p x = true → q x = true) → (∃ x ∈ l, p x = false ∧ q x = true) → l.countP p < l.countP q
 | [], _, ⟨x, hx, _⟩ => by simp at hx
 | y :: l, h, ⟨x, hx, hp, hq⟩ => by
  have h1 := countP_mono p q l (fun z hz => h z (by simp [hz]))
  rw [List.countP_cons, List.countP_cons]
  rcases List.mem_cons.1 hx with rfl | hx
  ·simp only [hp, hq, if_true, Bool.false_eq_true, if_false]
   omega
  ·have h2 := countP_lt p q l (fun z hz => h z (by simp [hz])) ⟨x, hx, hp, hq⟩
   have h3 := h y (by simp)
   cases hy : p y with
   | false => simp only [Bool.false_eq_true, if_false]; omega
   | true => simp only [h3 hy, if_true]; omega
/-- The spots that have at most m: all that are joined with m, or they grow. -/
theorem spread_one {E : List (Nat × Nat)} {out : List Int} (hin : InG out.length E) (m : Nat) (hm : at_ out m ≤ m) (hmn : m < out.length) :
  (∀ v, Conn E m v → at_ out v ≤ m) ∨ cntG out m < cntG (roundG E out) m := by
 by_cases hc : ∀ a b, (a, b) ∈ E → (at_ out a ≤ m ↔ at_ out b ≤ m)
 ·left
  intro v hv
  induction hv with
  | refl => exact hm
  | fwd _ he ih => exact (hc _ _ he).1 ih
  | bwd _ he ih => exact (hc _ _ he).2 ih
 ·right
  have hc2 : ∃ a b, (a, b) ∈ E ∧ ¬ (at_ out a ≤ m ↔ at_ out b ≤ m) := Classical.byContradiction fun hn => hc fun a b he => Classical.byContradiction fun h => hn ⟨a, b, he, h⟩
  obtain ⟨a, b, he, hne⟩ := hc2
  have hlen := roundG_len E out
  unfold cntG
  rw [hlen]
  have hab := hin _ he
  have hr := roundG_edge E out hin a b he
  refine countP_lt _ _ _ (fun v _ hv => ?_) ?_
  ·simp only [decide_eq_true_eq] at hv ⊢
   have := roundG_le E out hin v
   omega
  ·by_cases ha : at_ out a ≤ m
   ·have hb : ¬ at_ out b ≤ m := fun hb => hne ⟨fun _ => hb, fun _ => ha⟩
    exact ⟨b, List.mem_range.2 hab.2, by simpa using hb, by simp only [decide_eq_true_eq]; omega⟩
   ·have hb : at_ out b ≤ m := Classical.byContradiction fun hb => hne ⟨fun h => absurd h ha, fun h => absurd h hb⟩
    exact ⟨a, List.mem_range.2 hab.1, by simpa using ha, by simp only [decide_eq_true_eq]; omega⟩
theorem iterG_le {E : List (Nat × Nat)} {out : List Int} (hin : InG out.length E) (v : Nat) (k : Nat) : at_ (iterG E out (k + 1)) v ≤ at_ (iterG E out k) v :=
 roundG_le E _ (by rw [iterG_len]; exact hin) v
theorem spread_all {E : List (Nat × Nat)} {out : List Int} (hin : InG out.length E) (m : Nat) (hm : at_ out m ≤ m) (hmn : m < out.length) : ∀ k, at_ (iterG E out k) m ≤ m ∧ ((∀ v, Conn E m v → at_ (iterG E out k) v ≤ m) ∨ k + 1 ≤ cntG (iterG E out k) m)
 | 0 => by
  refine ⟨hm, .inr ?_⟩
  have : 0 < cntG out m := by
   unfold cntG
   rw [List.countP_pos_iff]
   exact ⟨m, List.mem_range.2 hmn, by simpa using hm⟩
  show 0 + 1 ≤ cntG out m
  omega
 | k + 1 => by
  obtain ⟨h1, h2⟩ := spread_all hin m hm hmn k
  have hin2 : InG (iterG E out k).length E := by rw [iterG_len]; exact hin
  refine ⟨Int.le_trans (iterG_le hin m k) h1, ?_⟩
  rcases h2 with h2 | h2
  ·exact .inl fun v hv => Int.le_trans (iterG_le hin v k) (h2 v hv)
  ·rcases spread_one hin2 m h1 (by rw [iterG_len]; exact hmn) with h3 | h3
   ·exact .inl fun v hv => Int.le_trans (iterG_le hin v k) (h3 v hv)
   ·right
    show k + 1 + 1 ≤ cntG (roundG E (iterG E out k)) m
    omega
theorem spread_done {E : List (Nat × Nat)} {out : List Int} (hin : InG out.length E) (m : Nat) (hm : at_ out m ≤ m) (hmn : m < out.length) {k : Nat} (hk : out.length ≤ k + 1) : ∀ v, Conn E m v → at_ (iterG E out k) v ≤ m := by
 rcases (spread_all hin m hm hmn k).2 with h | h
 ·exact h
 ·intro v hv
  refine Classical.byContradiction fun hn => ?_
  have hv2 := hv.lt hin hmn
  have : cntG (iterG E out k) m < (List.range out.length).countP (fun _ => true) := by
   unfold cntG
   rw [iterG_len]
   refine countP_lt _ _ _ (fun _ _ _ => rfl) ⟨v, List.mem_range.2 hv2, by simpa using hn, rfl⟩
  rw [show (List.range out.length).countP (fun _ => true) = out.length by simp] at this
  omega
/-- The spots' own numbers. -/
def own0 (n : Nat) : List Int := (List.range n).map fun (i : Nat) => (i : Int)
theorem own0_len (n : Nat) : (own0 n).length = n := by simp [own0]
theorem own0_at {n v : Nat} (h : v < n) : at_ (own0 n) v = v := by
 unfold at_ own0
 rw [List.getD_eq_getElem?_getD, List.getElem?_map, List.getElem?_range h]
 rfl
/-- The groups: to each spot the least one that edges lead to from it. -/
def grp (n : Nat) (E : List (Nat × Nat)) : List Int := iterG E (own0 n) n
theorem grp_len (n : Nat) (E : List (Nat × Nat)) : (grp n E).length = n := by unfold grp; rw [iterG_len, own0_len]
theorem grp_ok {n : Nat} {E : List (Nat × Nat)} (hE : InG n E) {v : Nat} (hv : v < n) : ∃ u : Nat, at_ (grp n E) v = u ∧ Conn E v u ∧ u < n ∧ ∀ m, Conn E v m → u ≤ m := by
 have hin : InG (own0 n).length E := by rw [own0_len]; exact hE
 have hlab : LabG E (own0 n) := fun v hv => by
  rw [own0_len] at hv
  exact ⟨v, own0_at hv, .refl _⟩
 obtain ⟨u, e, c⟩ := iterG_lab hin hlab n v (by rw [iterG_len, own0_len]; exact hv)
 refine ⟨u, e, c, c.lt hE hv, fun m hm => ?_⟩
 have hmn := hm.lt hE hv
 have := spread_done hin m (by rw [own0_at hmn]; exact Int.le_refl _) (by rw [own0_len]; exact hmn) (k := n) (by rw [own0_len]; omega) v hm.symm
 rw [e] at this
 omega
/-- From as many rounds on as there are spots nothing changes. -/
theorem iterG_fix {n : Nat} {E : List (Nat × Nat)} (hE : InG n E) : roundG E (grp n E) = grp n E := by
 have hin : InG (own0 n).length E := by rw [own0_len]; exact hE
 apply List.ext_getElem?
 intro v
 by_cases hv : v < n
 ·have l1 : v < (roundG E (grp n E)).length := by rw [roundG_len, grp_len]; exact hv
  have l2 : v < (grp n E).length := by rw [grp_len]; exact hv
  obtain ⟨u, e, c, hu, _⟩ := grp_ok hE hv
  have hlab : LabG E (own0 n) := fun v hv => by
   rw [own0_len] at hv
   exact ⟨v, own0_at hv, .refl _⟩
  obtain ⟨u2, e2, c2⟩ := iterG_lab hin hlab (n + 1) v (by rw [iterG_len, own0_len]; exact hv)
  have e2' : at_ (roundG E (grp n E)) v = u2 := e2
  obtain ⟨u3, e3, _, _, h3⟩ := grp_ok hE hv
  have h4 := roundG_le E (grp n E) (by rw [grp_len]; exact hE) v
  have h5 := h3 u2 c2
  have : at_ (roundG E (grp n E)) v = at_ (grp n E) v := by
   rw [e2', e3]
   rw [e2', e3] at h4
   omega
  unfold at_ at this
  rw [List.getD_eq_getElem?_getD, List.getD_eq_getElem?_getD, List.getElem?_eq_getElem l1, List.getElem?_eq_getElem l2] at this
  rw [List.getElem?_eq_getElem l1, List.getElem?_eq_getElem l2]
  exact congrArg some this
 ·rw [List.getElem?_eq_none (by rw [roundG_len, grp_len]; omega), List.getElem?_eq_none (by rw [grp_len]; omega)]
-- sweeps over a list of numbers; the least of two
theorem least_is (a b : Int) : spec_l1Least.f a b = some (min a b) := by
 unfold spec_l1Least.f
 split
 ·rw [Int.min_eq_left (by omega)]
 ·rw [Int.min_eq_right (by omega)]
theorem mn_is (a b : Int) : mn a b = min a b := by
 unfold mn
 split
 ·rw [Int.min_eq_right (by omega)]
 ·rw [Int.min_eq_left (by omega)]
theorem own0_succ (n : Nat) : own0 (n + 1) = own0 n ++ [(n : Int)] := by
 unfold own0
 rw [List.range_succ, List.map_append]
 rfl
theorem mx_is (a b : Int) : mx a b = max a b := by
 unfold mx
 split <;> omega
theorem own0_mem (n : Nat) (x : Int) : x ∈ own0 n ↔ 0 ≤ x ∧ x < n := by
 unfold own0
 rw [List.mem_map]
 constructor
 ·rintro ⟨i, hi, rfl⟩
  have := List.mem_range.1 hi
  omega
 ·intro ⟨h0, h1⟩
  exact ⟨x.toNat, List.mem_range.2 (by omega), by omega⟩
theorem own0_sorted : ∀ (n : Nat), (own0 n).Pairwise (· < ·)
 | 0 => by simp [own0]
 | n + 1 => by
  rw [own0_succ]
  refine List.pairwise_append.2 ⟨own0_sorted n, by simp, fun a ha b hb => ?_⟩
  have := (own0_mem n a).1 ha
  simp only [List.mem_singleton] at hb
  omega
-- the neighbours of a node: the sorted puts and the sweep over costs give one list
def putI : List Int → Int → List Int
 | [], x => [x]
 | y :: r, x => if y < x then y :: putI r x else if y = x then y :: r else x :: y :: r
theorem putI_len : ∀ (l : List Int) (x : Int), (putI l x).length ≤ l.length + 1
 | [], x => by simp [putI]
 | y :: r, x => by
  have := putI_len r x
  unfold putI
  split
  ·simp; omega
  ·split <;> simp
theorem putI_mem : ∀ (l : List Int) (x z : Int), z ∈ putI l x ↔ z = x ∨ z ∈ l
 | [], x, z => by simp [putI]
 | y :: r, x, z => by
  have := putI_mem r x z
  unfold putI
  split
  ·simp only [List.mem_cons, this]
   constructor
   ·rintro (h | h | h) <;> simp [h]
   ·rintro (h | h | h) <;> simp [h]
  ·split
   ·rename_i h
    subst h
    simp
   ·simp
theorem putI_sorted : ∀ (l : List Int) (x : Int), l.Pairwise (· < ·) → (putI l x).Pairwise (· < ·)
 | [], x, _ => by simp [putI]
 | y :: r, x, h => by
  have h1 := List.pairwise_cons.1 h
  have := putI_sorted r x h1.2
  unfold putI
  split
  ·rename_i hyx
   refine List.pairwise_cons.2 ⟨fun z hz => ?_, this⟩
   rcases (putI_mem r x z).1 hz with h2 | h2
   ·omega
   ·exact h1.1 z h2
  ·split
   ·exact h
   ·refine List.pairwise_cons.2 ⟨fun z hz => ?_, h⟩
    rcases List.mem_cons.1 hz with h2 | h2
    ·omega
    ·have := h1.1 z h2
     omega
theorem sorted_ext : ∀ (a b : List Int), a.Pairwise (· < ·) → b.Pairwise (· < ·) → (∀ x, x ∈ a ↔ x ∈ b) → a = b
 | [], [], _, _, _ => rfl
 | [], y :: b, _, _, h => by have := (h y).2 (List.mem_cons_self ..); simp at this
 | x :: a, [], _, _, h => by have := (h x).1 (List.mem_cons_self ..); simp at this
 | x :: a, y :: b, ha, hb, h => by
  have ha1 := List.pairwise_cons.1 ha
  have hb1 := List.pairwise_cons.1 hb
  have hxy : x = y := by
   rcases List.mem_cons.1 ((h x).1 (List.mem_cons_self ..)) with h1 | h1
   ·exact h1
   ·rcases List.mem_cons.1 ((h y).2 (List.mem_cons_self ..)) with h2 | h2
    ·exact h2.symm
    ·have := ha1.1 y h2
     have := hb1.1 x h1
     omega
  subst hxy
  rw [sorted_ext a b ha1.2 hb1.2 fun z => ?_]
  constructor
  ·intro hz
   rcases List.mem_cons.1 ((h z).1 (List.mem_cons_of_mem _ hz)) with h1 | h1
   ·have := ha1.1 z hz
    omega
   ·exact h1
  ·intro hz
   rcases List.mem_cons.1 ((h z).2 (List.mem_cons_of_mem _ hz)) with h1 | h1
   ·have := hb1.1 z hz
    omega
   ·exact h1
theorem put_l (x : Int) (suf : List Int) : ∀ (pre : List Int), ((pre ++ suf).length : Int) ≤ 4398046511104 → Ev (fun k => spec_l1Put.l0 k (pre ++ suf) x pre.length) (pre ++ putI suf x) := by
 induction suf with
 | nil =>
  intro pre h
  refine Ev.succ ?_
  simp only [List.append_nil] at h ⊢
  have h0 : pre.length < 17592186044416 := by omega
  simp only [spec_l1Put.l0, Int.lt_irrefl, if_false, Option.bind_some, if_pos (show (0 : Int) ≤ pre.length by omega), if_pos (Int.le_refl (pre.length : Int)), Int.toNat_natCast, List.take_length, List.drop_length, List.nil_append, List.length_nil, Nat.zero_add, if_pos h0, List.length_append, List.length_cons, Nat.add_zero, List.append_nil, if_pos (show pre.length + (0 + 1) < 17592186044416 by omega), if_pos (show pre.length + 1 < 17592186044416 by omega), putI]
  exact Ev.now _
 | cons y suf ih =>
  intro pre h
  refine Ev.succ ?_
  have hl := len_mid pre y suf
  rw [hl] at h
  simp only [spec_l1Put.l0, hl, rd_mid, if_pos (show ((pre.length : Int) < pre.length + suf.length + 1) by omega), if_pos (show (0 : Int) ≤ pre.length by omega), wrap_id (show (-9223372036854775808 : Int) ≤ pre.length + 1 by omega) (show ((pre.length : Int) + 1 ≤ 9223372036854775807) by omega)]
  by_cases h1 : y < x
  ·have := ih (pre ++ [y]) (by rw [← app_one, hl]; exact h)
   rw [← app_one, len_one] at this
   simp only [if_pos h1, putI]
   rw [app_one] at this
   rw [app_one pre y (putI suf x)]
   rw [← app_one] at this
   exact this
  ·by_cases h2 : y = x
   ·simp only [if_neg h1, if_pos h2, putI]
    exact Ev.now _
   ·have h0 : pre.length < 17592186044416 := by omega
    simp only [if_neg h1, if_neg h2, putI, Option.bind_some, if_pos (show (pre.length : Int) ≤ pre.length + suf.length + 1 by omega), Int.toNat_natCast, List.take_left, List.drop_left, List.nil_append, List.length_nil, Nat.zero_add, if_pos h0, List.length_append, List.length_cons, if_pos (show pre.length + 1 + (suf.length + 1) < 17592186044416 by omega), if_pos (show pre.length + (0 + 1) + (suf.length + 1) < 17592186044416 by omega), List.append_assoc, List.cons_append]
    exact Ev.now _
theorem put_ev (l : List Int) (x : Int) (h : (l.length : Int) ≤ 4398046511104) : Ev (fun k => spec_l1Put.f k l x) (putI l x) := by
 have := put_l x l [] h
 exact this
def nearStep (v : Int) (out : List Int) (e : S79) : List Int := if e.f0 = v then (if e.f1 = v then putI (putI out e.f1) e.f0 else putI out e.f1) else (if e.f1 = v then putI out e.f0 else out)
theorem nearStep_len (v : Int) (out : List Int) (e : S79) : (nearStep v out e).length ≤ out.length + 2 := by
 unfold nearStep
 split
 ·split
  ·have := putI_len (putI out e.f1) e.f0
   have := putI_len out e.f1
   omega
  ·have := putI_len out e.f1
   omega
 ·split
  ·have := putI_len out e.f0
   omega
  ·omega
theorem specNear_l (v : Int) (suf : List S79) : ∀ (pre : List S79) (out : List Int), ((pre ++ suf).length : Int) ≤ 1099511627776 → (out.length : Int) ≤ 2 * pre.length →
  Ev (fun k => spec_l8Near.l0 k v out (pre ++ suf) ((pre ++ suf).length : Int) pre.length) (suf.foldl (nearStep v) out) := by
 induction suf with
 | nil =>
  intro pre out h ho
  refine Ev.succ ?_
  simp only [spec_l8Near.l0, List.append_nil, Int.lt_irrefl, if_false, List.foldl_nil]
  exact Ev.now _
 | cons e suf ih =>
  intro pre out h ho
  refine Ev.succ ?_
  rw [len_mid] at h ⊢
  have hs := nearStep_len v out e
  have := ih (pre ++ [e]) (nearStep v out e) (by rw [← app_one, len_mid]; exact h) (by rw [len_one]; omega)
  rw [← app_one, len_mid, len_one] at this
  simp only [spec_l8Near.l0, List.foldl_cons]
  simp only [if_pos (show ((pre.length : Int) < pre.length + suf.length + 1) by omega), if_pos (show (0 : Int) ≤ pre.length by omega), len_mid, rdEdge_mid, wrap_id (show (-9223372036854775808 : Int) ≤ pre.length + 1 by omega) (show ((pre.length : Int) + 1 ≤ 9223372036854775807) by omega)]
  have hp := putI_len out e.f1
  by_cases h1 : e.f0 = v
  ·by_cases h2 : e.f1 = v
   ·simp only [if_pos h1, if_pos h2]
    refine Ev.bind (put_ev _ _ (by omega)) ?_
    refine Ev.bind (put_ev _ _ (by omega)) ?_
    rw [show nearStep v out e = putI (putI out e.f1) e.f0 by simp [nearStep, h1, h2]] at this
    rw [show nearStep v out e = putI (putI out e.f1) e.f0 by simp [nearStep, h1, h2]]
    exact this
   ·simp only [if_pos h1, if_neg h2]
    refine Ev.bind (put_ev _ _ (by omega)) ?_
    rw [show nearStep v out e = putI out e.f1 by simp only [nearStep, if_pos h1, if_neg h2]] at this
    rw [show nearStep v out e = putI out e.f1 by simp only [nearStep, if_pos h1, if_neg h2]]
    exact this
  ·by_cases h2 : e.f1 = v
   ·simp only [if_neg h1, if_pos h2]
    refine Ev.bind (put_ev _ _ (by omega)) ?_
    rw [show nearStep v out e = putI out e.f0 by simp only [nearStep, if_neg h1, if_pos h2]] at this
    rw [show nearStep v out e = putI out e.f0 by simp only [nearStep, if_neg h1, if_pos h2]]
    exact this
   ·simp only [if_neg h1, if_neg h2]
    rw [show nearStep v out e = out by simp only [nearStep, if_neg h1, if_neg h2]] at this
    rw [show nearStep v out e = out by simp only [nearStep, if_neg h1, if_neg h2]]
    exact this
def nearS (l : List S79) (v : Int) : List Int := l.foldl (nearStep v) []
theorem specNear_ev (l : List S79) (v : Int) (h : (l.length : Int) ≤ 1099511627776) : Ev (fun k => spec_l8Near.f k l v) (nearS l v) := by
 have := specNear_l v l [] [] h (by simp)
 exact this
theorem foldNear (v : Int) : ∀ (l : List S79) (out : List Int), out.Pairwise (· < ·) → (l.foldl (nearStep v) out).Pairwise (· < ·) ∧ ∀ x, x ∈ l.foldl (nearStep v) out ↔ x ∈ out ∨ ∃ e ∈ l, (e.f0 = v ∧ e.f1 = x) ∨ (e.f1 = v ∧ e.f0 = x)
 | [], out, h => by simp [h]
 | e :: l, out, h => by
  have h1 : (nearStep v out e).Pairwise (· < ·) := by
   unfold nearStep
   split
   ·split
    ·exact putI_sorted _ _ (putI_sorted _ _ h)
    ·exact putI_sorted _ _ h
   ·split
    ·exact putI_sorted _ _ h
    ·exact h
  have h2 : ∀ x, x ∈ nearStep v out e ↔ x ∈ out ∨ (e.f0 = v ∧ e.f1 = x) ∨ (e.f1 = v ∧ e.f0 = x) := by
   intro x
   unfold nearStep
   split
   ·rename_i a
    split
    ·rename_i b
     rw [putI_mem, putI_mem]
     constructor
     ·rintro (c | c | c)
      ·exact .inr (.inr ⟨b, c.symm⟩)
      ·exact .inr (.inl ⟨a, c.symm⟩)
      ·exact .inl c
     ·rintro (c | c | c)
      ·exact .inr (.inr c)
      ·exact .inr (.inl c.2.symm)
      ·exact .inl c.2.symm
    ·rename_i b
     rw [putI_mem]
     constructor
     ·rintro (c | c)
      ·exact .inr (.inl ⟨a, c.symm⟩)
      ·exact .inl c
     ·rintro (c | c | c)
      ·exact .inr c
      ·exact .inl c.2.symm
      ·exact absurd c.1 b
   ·rename_i a
    split
    ·rename_i b
     rw [putI_mem]
     constructor
     ·rintro (c | c)
      ·exact .inr (.inr ⟨b, c.symm⟩)
      ·exact .inl c
     ·rintro (c | c | c)
      ·exact .inr c
      ·exact absurd c.1 a
      ·exact .inl c.2.symm
    ·rename_i b
     constructor
     ·exact .inl
     ·rintro (c | c | c)
      ·exact c
      ·exact absurd c.1 a
      ·exact absurd c.1 b
  have h3 := foldNear v l (nearStep v out e) h1
  refine ⟨h3.1, fun x => ?_⟩
  rw [List.foldl_cons, h3.2, h2]
  constructor
  ·rintro ((c | c) | ⟨y, c, d⟩)
   ·exact .inl c
   ·exact .inr ⟨e, List.mem_cons_self .., c⟩
   ·exact .inr ⟨y, List.mem_cons_of_mem _ c, d⟩
  ·rintro (c | ⟨y, c, d⟩)
   ·exact .inl (.inl c)
   ·rcases List.mem_cons.1 c with rfl | c
    ·exact .inl (.inr d)
    ·exact .inr ⟨y, c, d⟩
def isAt (a b : Int) (e : S79) : Bool := decide (e.f0 = min a b ∧ e.f1 = max a b)
def costM (l : List S79) (a b : Int) : Int := match l.find? (isAt a b) with
 | some e => e.f2
 | none => 0
theorem implCost_l (a b : Int) (suf : List S79) : ∀ (pre : List S79), ((pre ++ suf).length : Int) ≤ 1099511627776 →
  Ev (fun k => impl_cost.l0 k a b (pre ++ suf) ((pre ++ suf).length : Int) pre.length) (costM suf a b) := by
 induction suf with
 | nil =>
  intro pre h
  refine Ev.succ ?_
  simp only [impl_cost.l0, List.append_nil, Int.lt_irrefl, if_false]
  exact Ev.now _
 | cons e suf ih =>
  intro pre h
  refine Ev.succ ?_
  rw [len_mid] at h ⊢
  have := ih (pre ++ [e]) (by rw [← app_one, len_mid]; exact h)
  rw [← app_one, len_mid, len_one] at this
  simp only [impl_cost.l0]
  simp only [if_pos (show ((pre.length : Int) < pre.length + suf.length + 1) by omega), if_pos (show (0 : Int) ≤ pre.length by omega), len_mid, rdEdge_mid, wrap_id (show (-9223372036854775808 : Int) ≤ pre.length + 1 by omega) (show ((pre.length : Int) + 1 ≤ 9223372036854775807) by omega), mn_is, mx_is]
  by_cases h1 : e.f0 = min a b
  ·by_cases h2 : e.f1 = max a b
   ·simp only [if_pos h1, if_pos h2]
    rw [show costM (e :: suf) a b = e.f2 by unfold costM; rw [List.find?_cons_of_pos (by simp only [isAt, h1, h2, and_self, decide_true])]]
    exact Ev.now _
   ·simp only [if_pos h1, if_neg h2]
    rw [show costM (e :: suf) a b = costM suf a b by unfold costM; rw [List.find?_cons_of_neg (by simp only [isAt, h2, and_false, decide_false]; simp)]]
    exact this
  ·simp only [if_neg h1]
   rw [show costM (e :: suf) a b = costM suf a b by unfold costM; rw [List.find?_cons_of_neg (by simp only [isAt, h1, false_and, decide_false]; simp)]]
   exact this
theorem implCost_ev (l : List S79) (a b : Int) (h : (l.length : Int) ≤ 1099511627776) : Ev (fun k => impl_cost.f k l a b) (costM l a b) := by
 have := implCost_l a b l [] h
 exact this
def nearM (n : Nat) (l : List S79) (v : Int) : List Int := (own0 n).filter fun u => decide (costM l v u > 0)
theorem nearM_succ (n : Nat) (l : List S79) (v : Int) : nearM (n + 1) l v = if costM l v n > 0 then nearM n l v ++ [(n : Int)] else nearM n l v := by
 unfold nearM
 rw [own0_succ, List.filter_append]
 split
 ·rename_i h
  simp [h]
 ·rename_i h
  simp [h]
theorem nearM_len (n : Nat) (l : List S79) (v : Int) : (nearM n l v).length ≤ n := by
 have := List.length_filter_le (fun u => decide (costM l v u > 0)) (own0 n)
 rw [own0_len] at this
 exact this
theorem implNear_l (l : List S79) (v : Int) (hb : (l.length : Int) ≤ 1099511627776) (d : Nat) : ∀ (c : Nat), c + d ≤ 1000000 →
  Ev (fun k => impl_near.l0 k l v (nearM c l v) ((c + d : Nat) : Int) c) (nearM (c + d) l v) := by
 induction d with
 | zero =>
  intro c h
  refine Ev.succ ?_
  simp only [impl_near.l0, Nat.add_zero, Int.lt_irrefl, if_false]
  exact Ev.now _
 | succ d ih =>
  intro c h
  refine Ev.succ ?_
  have := ih (c + 1) (by omega)
  rw [show c + 1 + d = c + (d + 1) by omega] at this
  have hl := nearM_len c l v
  simp only [impl_near.l0, if_pos (show (c : Int) < ((c + (d + 1) : Nat) : Int) by omega), wrap_id (show (-9223372036854775808 : Int) ≤ c + 1 by omega) (show ((c : Int) + 1 ≤ 9223372036854775807) by omega)]
  refine Ev.bind (implCost_ev l v c hb) ?_
  rw [nearM_succ] at this
  by_cases h1 : costM l v c > 0
  ·simp only [if_pos h1, if_pos (show (nearM c l v).length < 17592186044416 by omega)] at this ⊢
   exact this
  ·simp only [if_neg h1] at this ⊢
   exact this
theorem implNear_ev (n : Int) (l : List S79) (v : Int) (h0 : 0 ≤ n) (hn : n ≤ 1000) (hb : (l.length : Int) ≤ 1099511627776) : Ev (fun k => impl_near.f k n l v) (nearM n.toNat l v) := by
 have := implNear_l l v hb n.toNat 0 (by omega)
 rw [Nat.zero_add, show ((n.toNat : Nat) : Int) = n by omega] at this
 exact this
theorem costM_pos {n : Int} {l : List S79} (hx : ∀ x ∈ l, 0 ≤ x.f0 ∧ x.f0 < x.f1 ∧ x.f1 < n ∧ 1 ≤ x.f2 ∧ x.f2 ≤ 100) (a b : Int) : costM l a b > 0 ↔ ∃ e ∈ l, (e.f0 = a ∧ e.f1 = b) ∨ (e.f1 = a ∧ e.f0 = b) := by
 unfold costM
 cases hf : l.find? (isAt a b) with
 | none =>
  simp only [gt_iff_lt, Int.lt_irrefl, false_iff]
  rintro ⟨e, he, hc⟩
  have := hx e he
  have h1 := List.find?_eq_none.1 hf e he
  simp only [isAt, decide_eq_true_eq] at h1
  omega
 | some e =>
  have he := List.mem_of_find?_eq_some hf
  have := hx e he
  have h1 := List.find?_some hf
  simp only [isAt, decide_eq_true_eq] at h1
  simp only [gt_iff_lt]
  refine ⟨fun _ => ⟨e, he, ?_⟩, fun _ => by omega⟩
  omega
theorem near_same {n : Int} {l : List S79} (hx : ∀ x ∈ l, 0 ≤ x.f0 ∧ x.f0 < x.f1 ∧ x.f1 < n ∧ 1 ≤ x.f2 ∧ x.f2 ≤ 100) (v : Int) : nearS l v = nearM n.toNat l v := by
 have h := foldNear v l [] (by simp)
 refine sorted_ext _ _ h.1 ?_ fun x => ?_
 ·exact (own0_sorted _).filter _
 ·unfold nearM
  rw [List.mem_filter, own0_mem, decide_eq_true_eq, costM_pos hx]
  have h2 := h.2 x
  simp only [List.not_mem_nil, false_or] at h2
  refine h2.trans ⟨fun hc => ⟨?_, hc⟩, fun hc => hc.2⟩
  obtain ⟨e, he, hc⟩ := hc
  have := hx e he
  omega
theorem goodAt_ev (n : Int) (l : List S79) (q : List Int) (hl : l.length ≤ 1048576) (hq : (q.length : Int) ≤ 1099511627776) : Ev (fun k => impl_goodAt.f k n l q) (goodE n l && allIn 0 (wrap64 (n - 1)) q) := by
 unfold impl_goodAt.f
 refine Ev.bind (implGoodE_ev n l hl) ?_
 by_cases h : goodE n l = true
 ·simp only [h, if_true, Bool.true_and]
  exact Ev.bind (implAll_ev _ _ q hq) (Ev.now _)
 ·simp only [h, Bool.false_and, Bool.false_eq_true, if_false]
  exact Ev.now _
-- a tree by its parents: the climb from every node ends
def inr (n x : Int) : Bool := decide (-1 ≤ x ∧ x ≤ wrap64 (n - 1))
def inn (n : Int) : Bool := decide (1 ≤ n ∧ n ≤ 12)
def upOk (l : List Int) : Nat → Int → Bool
 | 0, u => decide (u < 0)
 | d + 1, u => if u ≥ 0 then inr (l.length : Int) (rd l u) && upOk l d (rd l u) else true
def climb (l : List Int) : Nat → Int → Int
 | 0, u => u
 | d + 1, u => if u ≥ 0 then climb l d (rd l u) else climb l d u
def chkS (l : List Int) : List Int → Nat → Bool
 | [], _ => inn (l.length : Int)
 | x :: suf, i => inr (l.length : Int) x && (upOk l l.length i && chkS l suf (i + 1))
def chkI (l : List Int) : Nat → Nat → Bool
 | 0, _ => true
 | d + 1, i => decide (climb l l.length i < 0) && chkI l d (i + 1)
theorem topLen {l : List Int} (hl : l.length ≤ 1048576) : wrap64 ((l.length : Int) - 1) = (l.length : Int) - 1 := wrap_id (by omega) (by omega)
theorem specPar_l1 (l : List Int) (hl : l.length ≤ 1048576) (X : List Int) (m i : Int) (R : Bool) (d : Nat) : ∀ (h : Nat) (u : Int), h + d = l.length → -1 ≤ u → u < l.length →
  (upOk l d u = true → Ev (fun k => spec_GoodParents.l0 k l l.length X m (wrap64 (i + 1))) R) → (upOk l d u = false → R = false) →
  Ev (fun k => spec_GoodParents.l1 k l l.length h u X m i) R := by
 induction d with
 | zero =>
  intro h u hd h0 h1 hT hF
  refine Ev.succ ?_
  by_cases hu : u ≥ 0
  ·simp only [spec_GoodParents.l1, if_pos hu, wrap_id (show (-9223372036854775808 : Int) ≤ h + 1 by omega) (show ((h : Int) + 1 ≤ 9223372036854775807) by omega), if_pos (show (h : Int) + 1 > l.length by omega)]
   exact Ev.some_ (hF (by rw [upOk]; exact decide_eq_false (by omega))).symm
  ·simp only [spec_GoodParents.l1, if_neg hu]
   exact hT (by rw [upOk]; exact decide_eq_true (by omega))
 | succ d ih =>
  intro h u hd h0 h1 hT hF
  refine Ev.succ ?_
  by_cases hu : u ≥ 0
  ·simp only [spec_GoodParents.l1, if_pos hu, wrap_id (show (-9223372036854775808 : Int) ≤ h + 1 by omega) (show ((h : Int) + 1 ≤ 9223372036854775807) by omega), if_neg (show ¬ (h : Int) + 1 > l.length by omega), if_pos (show 0 ≤ u from hu), if_pos h1, specIn, Option.bind_some, decide_eq_true_eq]
   rw [upOk, if_pos hu] at hT hF
   by_cases hr : -1 ≤ rd l u ∧ rd l u ≤ wrap64 ((l.length : Int) - 1)
   ·simp only [if_pos hr]
    rw [inr, decide_eq_true hr, Bool.true_and] at hT hF
    rw [topLen hl] at hr
    have := ih (h + 1) (rd l u) (by omega) hr.1 (by omega) hT hF
    exact this
   ·simp only [if_neg hr]
    rw [inr, decide_eq_false hr, Bool.false_and] at hF
    exact Ev.some_ (hF rfl).symm
  ·simp only [spec_GoodParents.l1, if_neg hu]
   exact hT (by rw [upOk, if_neg hu])
theorem specPar_l0 (l : List Int) (hl : l.length ≤ 1048576) (suf : List Int) : ∀ (pre : List Int), pre ++ suf = l →
  Ev (fun k => spec_GoodParents.l0 k l l.length l l.length pre.length) (chkS l suf pre.length) := by
 induction suf with
 | nil =>
  intro pre h
  refine Ev.succ ?_
  rw [List.append_nil] at h
  subst h
  simp only [spec_GoodParents.l0, Int.lt_irrefl, if_false, specIn, Option.bind_some]
  exact Ev.now _
 | cons x suf ih =>
  intro pre h
  refine Ev.succ ?_
  have hn : (l.length : Int) = pre.length + suf.length + 1 := by rw [← h, len_mid]
  have hx : rd l (pre.length : Int) = x := by rw [← h, rd_mid]
  simp only [spec_GoodParents.l0, if_pos (show (pre.length : Int) < l.length by omega), if_pos (show (0 : Int) ≤ pre.length by omega), hx, specIn, Option.bind_some, decide_eq_true_eq]
  rw [chkS]
  by_cases hr : -1 ≤ x ∧ x ≤ wrap64 ((l.length : Int) - 1)
  ·simp only [if_pos hr]
   rw [inr, decide_eq_true hr, Bool.true_and]
   refine specPar_l1 l hl l l.length pre.length _ l.length 0 pre.length (by omega) (by omega) (by omega) ?_ ?_
   ·intro ho
    rw [ho, Bool.true_and, wrap_id (show (-9223372036854775808 : Int) ≤ pre.length + 1 by omega) (show ((pre.length : Int) + 1 ≤ 9223372036854775807) by omega)]
    have := ih (pre ++ [x]) (by rw [← app_one]; exact h)
    rw [len_one, List.length_append, List.length_singleton] at this
    exact this
   ·intro ho
    rw [ho, Bool.false_and]
  ·simp only [if_neg hr]
   rw [inr, decide_eq_false hr, Bool.false_and]
   exact Ev.now _
theorem implPar_l1 (l : List Int) (hl : l.length ≤ 1048576) (ha : allIn (-1) ((l.length : Int) - 1) l = true) (m i : Int) (R : Bool) (d : Nat) : ∀ (c : Nat) (u : Int), c + d = l.length → -1 ≤ u → u < l.length →
  Ev (fun k => if climb l d u ≥ 0 then some false else impl_GoodParents.l0 k l m (wrap64 (i + 1))) R →
  Ev (fun k => impl_GoodParents.l1 k l u m i l.length c) R := by
 induction d with
 | zero =>
  intro c u hd h0 h1 hR
  refine Ev.succ ?_
  simp only [impl_GoodParents.l1, if_neg (show ¬ (c : Int) < l.length by omega)]
  exact hR
 | succ d ih =>
  intro c u hd h0 h1 hR
  refine Ev.succ ?_
  rw [climb] at hR
  simp only [impl_GoodParents.l1, if_pos (show (c : Int) < l.length by omega), wrap_id (show (-9223372036854775808 : Int) ≤ c + 1 by omega) (show ((c : Int) + 1 ≤ 9223372036854775807) by omega)]
  by_cases hu : u ≥ 0
  ·simp only [if_pos hu, if_pos (show 0 ≤ u from hu), if_pos h1] at hR ⊢
   have hm : rd l u ∈ l := by
    unfold rd
    rw [List.getD_eq_getElem?_getD, List.getElem?_eq_getElem (show u.toNat < l.length by omega)]
    exact List.getElem_mem _
   have := List.all_eq_true.1 ha _ hm
   rw [decide_eq_true_eq] at this
   exact ih (c + 1) _ (by omega) this.1 (by omega) hR
  ·simp only [if_neg hu] at hR ⊢
   exact ih (c + 1) _ (by omega) h0 h1 hR
theorem implPar_l0 (l : List Int) (hl : l.length ≤ 1048576) (ha : allIn (-1) ((l.length : Int) - 1) l = true) (d : Nat) : ∀ (c : Nat), c + d = l.length →
  Ev (fun k => impl_GoodParents.l0 k l l.length c) (chkI l d c) := by
 induction d with
 | zero =>
  intro c h
  refine Ev.succ ?_
  simp only [impl_GoodParents.l0, if_neg (show ¬ (c : Int) < l.length by omega)]
  exact Ev.now _
 | succ d ih =>
  intro c h
  refine Ev.succ ?_
  simp only [impl_GoodParents.l0, if_pos (show (c : Int) < l.length by omega)]
  refine implPar_l1 l hl ha l.length c _ l.length 0 c (by omega) (by omega) (by omega) ?_
  rw [chkI]
  by_cases hc : climb l l.length c ≥ 0
  ·simp only [if_pos hc]
   rw [decide_eq_false (by omega), Bool.false_and]
   exact Ev.now _
  ·simp only [if_neg hc]
   rw [decide_eq_true (by omega), Bool.true_and, wrap_id (show (-9223372036854775808 : Int) ≤ c + 1 by omega) (show ((c : Int) + 1 ≤ 9223372036854775807) by omega)]
   exact ih (c + 1) (by omega)
theorem climb_neg (l : List Int) : ∀ (d : Nat) (u : Int), u < 0 → climb l d u = u
 | 0, _, _ => rfl
 | d + 1, u, h => by rw [climb, if_neg (by omega)]; exact climb_neg l d u h
theorem upOk_climb (l : List Int) (hl : l.length ≤ 1048576) (ha : allIn (-1) ((l.length : Int) - 1) l = true) : ∀ (d : Nat) (u : Int), -1 ≤ u → u < l.length → upOk l d u = decide (climb l d u < 0)
 | 0, _, _, _ => rfl
 | d + 1, u, h0, h1 => by
  rw [upOk, climb]
  by_cases hu : u ≥ 0
  ·have hm : rd l u ∈ l := by
    unfold rd
    rw [List.getD_eq_getElem?_getD, List.getElem?_eq_getElem (show u.toNat < l.length by omega)]
    exact List.getElem_mem _
   have := List.all_eq_true.1 ha _ hm
   rw [decide_eq_true_eq] at this
   rw [if_pos hu, if_pos hu, inr, topLen hl, decide_eq_true this, Bool.true_and]
   exact upOk_climb l hl ha d _ this.1 (by omega)
  ·rw [if_neg hu, if_neg hu, climb_neg l d u (by omega)]
   exact (decide_eq_true (by omega)).symm
theorem chk_same (l : List Int) (hl : l.length ≤ 1048576) (ha : allIn (-1) ((l.length : Int) - 1) l = true) : ∀ (suf : List Int) (c : Nat), (∀ x ∈ suf, x ∈ l) → c + suf.length = l.length → chkS l suf c = (chkI l suf.length c && inn (l.length : Int))
 | [], c, _, _ => by rw [chkS, List.length_nil, chkI, Bool.true_and]
 | x :: suf, c, hm, hc => by
  have hx := List.all_eq_true.1 ha x (hm x (List.mem_cons_self ..))
  rw [decide_eq_true_eq] at hx
  rw [List.length_cons] at hc
  rw [chkS, List.length_cons, chkI, inr, topLen hl, decide_eq_true hx, Bool.true_and, upOk_climb l hl ha l.length c (by omega) (by omega), chk_same l hl ha suf (c + 1) (fun y hy => hm y (List.mem_cons_of_mem _ hy)) (by omega), Bool.and_assoc]
theorem chk_all (l : List Int) (hl : l.length ≤ 1048576) : ∀ (suf : List Int) (c : Nat), chkS l suf c = true → allIn (-1) ((l.length : Int) - 1) suf = true
 | [], _, _ => rfl
 | x :: suf, c, h => by
  rw [chkS, Bool.and_eq_true, Bool.and_eq_true, inr, topLen hl] at h
  rw [allIn, List.all_cons, h.1, Bool.true_and]
  exact chk_all l hl suf (c + 1) h.2.2
def goodP (l : List Int) : Bool := chkS l l 0
theorem specGoodP_ev (l : List Int) (hl : l.length ≤ 1048576) : Ev (fun k => spec_GoodParents.f k l) (goodP l) := by
 have := specPar_l0 l hl l [] rfl
 exact this
theorem implGoodP_ev (l : List Int) (hl : l.length ≤ 1048576) : Ev (fun k => impl_GoodParents.f k l) (goodP l) := by
 unfold impl_GoodParents.f impl_isSpots.f goodP
 simp only [implIn, Option.bind_some, decide_eq_true_eq]
 have bad : Ev (fun k => impl_GoodParents.j0 k l true) false := by
  refine Ev.succ ?_
  simp only [impl_GoodParents.j0, if_true]
  exact Ev.now _
 by_cases hn : 1 ≤ (l.length : Int) ∧ (l.length : Int) ≤ 12
 ·simp only [if_pos hn]
  refine Ev.bind (implAll_ev _ _ l (by omega)) ?_
  rw [topLen hl]
  by_cases ha : allIn (-1) ((l.length : Int) - 1) l = true
  ·rw [ha, chk_same l hl ha l 0 (fun x h => h) (by omega), inn, decide_eq_true hn, Bool.and_true]
   refine Ev.succ ?_
   simp only [impl_GoodParents.j0, Bool.not_true, Bool.false_eq_true, if_false]
   exact implPar_l0 l hl ha l.length 0 (by omega)
  ·rw [show chkS l l 0 = false from Bool.eq_false_iff.2 fun hc => ha (chk_all l hl l 0 hc), Bool.eq_false_iff.2 ha]
   exact bad
 ·simp only [if_neg hn]
  rw [show chkS l l 0 = false from ?_]
  ·exact bad
  ·refine Bool.eq_false_iff.2 fun hc => ?_
   have ha := chk_all l hl l 0 hc
   rw [chk_same l hl ha l 0 (fun x h => h) (by omega), inn, decide_eq_false hn, Bool.and_false] at hc
   exact Bool.false_ne_true hc
theorem erase_len_le {α : Type} [DecidableEq α] {x : α} : ∀ {M : List α}, x ∈ M → (M.erase x).length + 1 = M.length := by
 intro M h
 have := List.length_erase_of_mem h
 have h2 : 0 < M.length := List.length_pos_of_mem h
 omega
theorem nodup_le {α : Type} [DecidableEq α] : ∀ (L M : List α), L.Nodup → (∀ x ∈ L, x ∈ M) → L.length ≤ M.length
 | [], _, _, _ => Nat.zero_le _
 | x :: L, M, hn, hs => by
  have hx : x ∈ M := hs x (by simp)
  rw [List.nodup_cons] at hn
  have h := nodup_le L (M.erase x) hn.2 (fun y hy => by
   have : y ≠ x := fun e => hn.1 (e ▸ hy)
   exact (List.mem_erase_of_ne this).2 (hs y (by simp [hy])))
  have := erase_len_le hx
  simp only [List.length_cons]
  omega
def joinC (l : List Int) (v : Int) (c : Nat) : List Int := (own0 c).filter fun u => decide (rd l u = v ∨ rd l v = u)
theorem joinC_succ (l : List Int) (v : Int) (c : Nat) : joinC l v (c + 1) = if rd l c = v ∨ rd l v = c then joinC l v c ++ [(c : Int)] else joinC l v c := by
 unfold joinC
 rw [own0_succ, List.filter_append]
 split
 ·rename_i h; simp [List.filter_cons, h]
 ·rename_i h; simp [List.filter_cons, h]
theorem joinC_len (l : List Int) (v : Int) (c : Nat) : (joinC l v c).length ≤ c := by
 unfold joinC
 exact Nat.le_trans (List.length_filter_le _ _) (by unfold own0; simp)
theorem joinC_mem (l : List Int) (v : Int) (c : Nat) (x : Int) : x ∈ joinC l v c ↔ (0 ≤ x ∧ x < c) ∧ (rd l x = v ∨ rd l v = x) := by
 unfold joinC
 rw [List.mem_filter, own0_mem, decide_eq_true_eq]
theorem putI_last : ∀ (l : List Int) (x : Int), (∀ y ∈ l, y < x) → putI l x = l ++ [x]
 | [], _, _ => rfl
 | y :: r, x, h => by
  rw [putI, if_pos (h y (by simp)), putI_last r x (fun z hz => h z (by simp [hz]))]
  rfl
theorem putJoin (l : List Int) (v : Int) (c : Nat) : putI (joinC l v c) c = joinC l v c ++ [(c : Int)] := putI_last _ _ (fun y hy => ((joinC_mem l v c y).1 hy).1.2)
theorem implBr_l (l : List Int) (v : Int) (h0 : 0 ≤ v) (h1 : v < l.length) (hl : l.length ≤ 1000) (d : Nat) : ∀ (c : Nat), c + d = l.length →
  Ev (fun k => impl_branches.l0 k l v (joinC l v c) l l.length c) (joinC l v l.length) := by
 induction d with
 | zero =>
  intro c hc
  refine Ev.succ ?_
  simp only [impl_branches.l0, if_neg (show ¬ (c : Int) < (l.length : Int) by omega)]
  exact Ev.some_ (by rw [show c = l.length by omega])
 | succ d ih =>
  intro c hc
  refine Ev.succ ?_
  have hlen := joinC_len l v c
  have hn := ih (c + 1) (by omega)
  rw [joinC_succ] at hn
  simp only [impl_branches.l0, if_pos (show (c : Int) < (l.length : Int) by omega), if_pos (show (0 : Int) ≤ c by omega), if_pos h0, if_pos h1, wrap_id (show (-9223372036854775808 : Int) ≤ c + 1 by omega) (show ((c : Int) + 1 ≤ 9223372036854775807) by omega), if_pos (show (joinC l v c).length < 17592186044416 by omega)]
  by_cases e1 : rd l c = v
  ·rw [if_pos (Or.inl e1)] at hn
   simp only [if_pos e1]
   exact hn
  ·simp only [if_neg e1]
   by_cases e2 : rd l v = c
   ·rw [if_pos (Or.inr e2)] at hn
    simp only [if_pos e2]
    exact hn
   ·rw [if_neg (fun hc => hc.elim e1 e2)] at hn
    simp only [if_neg e2]
    exact hn
theorem implBr_ev (l : List Int) (v : Int) (h0 : 0 ≤ v) (h1 : v < l.length) (hl : l.length ≤ 1000) : Ev (fun k => impl_branches.f k l v) (joinC l v l.length) := implBr_l l v h0 h1 hl l.length 0 (by omega)
theorem specJo_l (l : List Int) (v : Int) (h0 : 0 ≤ v) (h1 : v < l.length) (hl : l.length ≤ 1000) (d : Nat) : ∀ (c : Nat), c + d = l.length →
  Ev (fun k => spec_l10Joined.l0 k l v (joinC l v c) l l.length c) (joinC l v l.length) := by
 induction d with
 | zero =>
  intro c hc
  refine Ev.succ ?_
  simp only [spec_l10Joined.l0, if_neg (show ¬ (c : Int) < (l.length : Int) by omega)]
  exact Ev.some_ (by rw [show c = l.length by omega])
 | succ d ih =>
  intro c hc
  refine Ev.succ ?_
  have hlen := joinC_len l v c
  have hn := ih (c + 1) (by omega)
  have hp := put_ev (joinC l v c) c (by omega)
  rw [putJoin] at hp
  rw [joinC_succ] at hn
  simp only [spec_l10Joined.l0, if_pos (show (c : Int) < (l.length : Int) by omega), if_pos (show (0 : Int) ≤ c by omega), if_pos h0, if_pos h1, wrap_id (show (-9223372036854775808 : Int) ≤ c + 1 by omega) (show ((c : Int) + 1 ≤ 9223372036854775807) by omega)]
  by_cases e1 : rd l c = v
  ·rw [if_pos (Or.inl e1)] at hn
   simp only [if_pos e1]
   exact Ev.bind hp hn
  ·simp only [if_neg e1]
   by_cases e2 : rd l v = c
   ·rw [if_pos (Or.inr e2)] at hn
    simp only [if_pos e2]
    exact Ev.bind hp hn
   ·rw [if_neg (fun hc => hc.elim e1 e2)] at hn
    simp only [if_neg e2]
    exact hn
theorem specJo_ev (l : List Int) (v : Int) (h0 : 0 ≤ v) (h1 : v < l.length) (hl : l.length ≤ 1000) : Ev (fun k => spec_l10Joined.f k l v) (joinC l v l.length) := specJo_l l v h0 h1 hl l.length 0 (by omega)
def kidsM (l : List Int) (f a : Int) (J : List Int) : List Int := J.filter fun u => decide (u ≠ f)
def qS (q : List (Int × Int)) : List S61 := q.map fun x => ⟨x.1, x.2⟩
def qI (q : List (Int × Int)) : List S101 := q.map fun x => ⟨x.2, x.1⟩
def fan (a : Int) (K : List Int) : List (Int × Int) := K.map fun u => (a, u)
theorem qS_app (p q : List (Int × Int)) : qS (p ++ q) = qS p ++ qS q := List.map_append ..
theorem qI_app (p q : List (Int × Int)) : qI (p ++ q) = qI p ++ qI q := List.map_append ..
theorem qS_len (p : List (Int × Int)) : (qS p).length = p.length := List.length_map ..
theorem qI_len (p : List (Int × Int)) : (qI p).length = p.length := List.length_map ..
theorem specSp_l1 (l : List Int) (f a : Int) (R : List S61) (suf : List Int) : ∀ (pre : List Int) (out q : List (Int × Int)), ((pre ++ suf).length : Int) ≤ 1099511627776 → out.length + suf.length ≤ 1000000 → q.length + suf.length ≤ 1000000 →
  Ev (fun k => spec_l10Spread.l0 k l (qS (out ++ fan a (kidsM l f a suf))) (qS (q ++ fan a (kidsM l f a suf)))) R →
  Ev (fun k => spec_l10Spread.l1 k l (qS out) (qS q) (pre ++ suf) ((pre ++ suf).length : Int) pre.length f a) R := by
 induction suf with
 | nil =>
  intro pre out q h _ _ hR
  refine Ev.succ ?_
  simp only [spec_l10Spread.l1, List.append_nil, Int.lt_irrefl, if_false]
  simpa [kidsM, fan] using hR
 | cons x suf ih =>
  intro pre out q h ho hq hR
  refine Ev.succ ?_
  rw [List.length_cons] at ho hq
  have h' := h
  rw [len_mid] at h
  simp only [spec_l10Spread.l1, if_pos (show ((pre.length : Int) < ((pre ++ x :: suf).length : Int)) by rw [len_mid]; omega), if_pos (show (0 : Int) ≤ pre.length by omega), rd_mid, wrap_id (show (-9223372036854775808 : Int) ≤ pre.length + 1 by omega) (show ((pre.length : Int) + 1 ≤ 9223372036854775807) by omega)]
  by_cases e : x = f
  ·simp only [if_pos e]
   have := ih (pre ++ [x]) out q (by rw [← app_one]; exact h') (by omega) (by omega) (by
    rw [kidsM, List.filter_cons, if_neg (by simpa using e)] at hR; exact hR)
   rw [← app_one, len_one] at this
   exact this
  ·simp only [if_neg e, qS_len, if_pos (show out.length < 8796093022208 by omega), if_pos (show q.length < 8796093022208 by omega)]
   have := ih (pre ++ [x]) (out ++ [(a, x)]) (q ++ [(a, x)]) (by rw [← app_one]; exact h') (by simp; omega) (by simp; omega) (by
    rw [kidsM, List.filter_cons, if_pos (by simpa using e)] at hR
    simpa [fan, kidsM] using hR)
   rw [← app_one, len_one, qS_app, qS_app] at this
   exact this
theorem implSp_l1 (l : List Int) (f a : Int) (R : List S61) (suf : List Int) : ∀ (pre : List Int) (out q : List (Int × Int)), ((pre ++ suf).length : Int) ≤ 1099511627776 → out.length + suf.length ≤ 1000000 → q.length + suf.length ≤ 1000000 → 1 ≤ q.length →
  Ev (fun k => impl_spread.l0 k l (qS (out ++ fan a (kidsM l f a suf))) ((qI (q ++ fan a (kidsM l f a suf))).drop 1)) R →
  Ev (fun k => impl_spread.l1 k l (qS out) (qI q) (pre ++ suf) ((pre ++ suf).length : Int) pre.length a f) R := by
 induction suf with
 | nil =>
  intro pre out q h _ _ h1 hR
  refine Ev.succ ?_
  simp only [impl_spread.l1, List.append_nil, Int.lt_irrefl, if_false, qI_len, if_pos (show (1 : Int) ≤ (q.length : Int) by omega)]
  simpa [kidsM, fan] using hR
 | cons x suf ih =>
  intro pre out q h ho hq h1 hR
  refine Ev.succ ?_
  rw [List.length_cons] at ho hq
  have h' := h
  rw [len_mid] at h
  simp only [impl_spread.l1, if_pos (show ((pre.length : Int) < ((pre ++ x :: suf).length : Int)) by rw [len_mid]; omega), if_pos (show (0 : Int) ≤ pre.length by omega), rd_mid, wrap_id (show (-9223372036854775808 : Int) ≤ pre.length + 1 by omega) (show ((pre.length : Int) + 1 ≤ 9223372036854775807) by omega)]
  by_cases e : x = f
  ·simp only [if_pos e]
   have := ih (pre ++ [x]) out q (by rw [← app_one]; exact h') (by omega) (by omega) h1 (by
    rw [kidsM, List.filter_cons, if_neg (by simpa using e)] at hR; exact hR)
   rw [← app_one, len_one] at this
   exact this
  ·simp only [if_neg e, qS_len, qI_len, if_pos (show out.length < 8796093022208 by omega), if_pos (show q.length < 8796093022208 by omega)]
   have := ih (pre ++ [x]) (out ++ [(a, x)]) (q ++ [(a, x)]) (by rw [← app_one]; exact h') (by simp; omega) (by simp; omega) (by simp) (by
    rw [kidsM, List.filter_cons, if_pos (by simpa using e)] at hR
    simpa [fan, kidsM] using hR)
   rw [← app_one, len_one, qS_app, qI_app] at this
   exact this
-- how deep each place lies, where all climbs end
def depF (l : List Int) : Nat → Int → Nat
 | 0, _ => 0
 | d + 1, u => if u ≥ 0 then depF l d (rd l u) + 1 else 0
theorem depF_up (l : List Int) : ∀ (d : Nat) (u : Int), upOk l d u = true → depF l d u = depF l (d + 1) u
 | 0, u, h => by
  rw [upOk, decide_eq_true_eq] at h
  rw [depF, depF, if_neg (by omega)]
 | d + 1, u, h => by
  rw [upOk] at h
  rw [depF, depF]
  split
  ·rename_i hu
   rw [if_pos hu, Bool.and_eq_true] at h
   rw [depF_up l d _ h.2]
  ·rfl
theorem chkS_at (l : List Int) : ∀ (suf : List Int) (c : Nat), chkS l suf c = true → (∀ x ∈ suf, inr (l.length : Int) x = true) ∧ (∀ i : Nat, i < suf.length → upOk l l.length ((c + i : Nat) : Int) = true) ∧ inn (l.length : Int) = true
 | [], c, h => ⟨fun _ hx => by simp at hx, fun i hi => by simp at hi, h⟩
 | x :: suf, c, h => by
  rw [chkS, Bool.and_eq_true, Bool.and_eq_true] at h
  obtain ⟨h1, h2, h3⟩ := chkS_at l suf (c + 1) h.2.2
  refine ⟨fun y hy => ?_, fun i hi => ?_, h3⟩
  ·rcases List.mem_cons.1 hy with rfl | hy
   ·exact h.1
   ·exact h1 y hy
  ·cases i with
   | zero => exact h.2.1
   | succ i =>
    have := h2 i (by simp at hi; omega)
    rw [show c + (i + 1) = c + 1 + i by omega]
    exact this
theorem good_deep {l : List Int} (hg : goodP l = true) : 1 ≤ l.length ∧ l.length ≤ 12 ∧ (∀ u : Int, 0 ≤ u → u < l.length → -1 ≤ rd l u ∧ rd l u < l.length) ∧ ∃ D : Int → Nat, ∀ u : Int, 0 ≤ u → u < l.length → D u = D (rd l u) + 1 := by
 obtain ⟨h1, h2, h3⟩ := chkS_at l l 0 hg
 rw [inn, decide_eq_true_eq] at h3
 have hb : ∀ u : Int, 0 ≤ u → u < l.length → -1 ≤ rd l u ∧ rd l u < l.length := by
  intro u h0 hu
  have hm : rd l u ∈ l := by
   unfold rd
   rw [List.getD_eq_getElem?_getD, List.getElem?_eq_getElem (show u.toNat < l.length by omega)]
   exact List.getElem_mem _
  have := h1 _ hm
  rw [inr, decide_eq_true_eq, wrap_id (by omega) (by omega)] at this
  omega
 refine ⟨by omega, by omega, hb, depF l (l.length + 1), fun u h0 hu => ?_⟩
 rw [depF, if_pos (show u ≥ 0 by omega)]
 congr 1
 by_cases hr : rd l u ≥ 0
 ·have := h2 (rd l u).toNat (by have := hb u h0 hu; omega)
  rw [show ((0 + (rd l u).toNat : Nat) : Int) = rd l u by omega] at this
  exact depF_up l _ _ this
 ·obtain ⟨m, hm⟩ : ∃ m, l.length = m + 1 := ⟨l.length - 1, by omega⟩
  rw [hm, depF, depF, if_neg hr, if_neg hr]
-- whom each place is come to from
def Up (l : List Int) (s : Int) : Nat → Int → Prop
 | 0, v => v = s
 | i + 1, v => ∃ u, Up l s i u ∧ rd l u = v ∧ 0 ≤ v
def Came (l : List Int) (s f v : Int) : Prop := (v = s ∧ f = -1) ∨ (∃ i, Up l s i f ∧ rd l f = v ∧ 0 ≤ v) ∨ ((∀ i, ¬ Up l s i v) ∧ f = rd l v)
theorem Up_dep {l : List Int} {s : Int} {D : Int → Nat} (h0 : 0 ≤ s) (hs : s < l.length) (hb : ∀ u : Int, 0 ≤ u → u < l.length → -1 ≤ rd l u ∧ rd l u < l.length) (hD : ∀ u : Int, 0 ≤ u → u < l.length → D u = D (rd l u) + 1) : ∀ (i : Nat) (v : Int), Up l s i v → (0 ≤ v ∧ v < l.length) ∧ D v + i = D s
 | 0, v, h => by
  have : v = s := h
  subst this
  exact ⟨⟨h0, hs⟩, rfl⟩
 | i + 1, v, h => by
  obtain ⟨u, hu, e, hv⟩ := h
  obtain ⟨⟨a, b⟩, c⟩ := Up_dep h0 hs hb hD i u hu
  have h1 := hb u a b
  have h2 := hD u a b
  rw [e] at h1 h2
  exact ⟨⟨hv, h1.2⟩, by omega⟩
theorem Up_one {l : List Int} {s : Int} : ∀ (i : Nat) (v w : Int), Up l s i v → Up l s i w → v = w
 | 0, _, _, h, g => (show _ = s from h).trans (show _ = s from g).symm
 | i + 1, v, w, h, g => by
  obtain ⟨u, hu, e, _⟩ := h
  obtain ⟨u', hu', e', _⟩ := g
  rw [← e, ← e', Up_one i u u' hu hu']
theorem Came_one {l : List Int} {s : Int} {D : Int → Nat} (h0 : 0 ≤ s) (hs : s < l.length) (hb : ∀ u : Int, 0 ≤ u → u < l.length → -1 ≤ rd l u ∧ rd l u < l.length) (hD : ∀ u : Int, 0 ≤ u → u < l.length → D u = D (rd l u) + 1) {f g v : Int} (hf : Came l s f v) (hg : Came l s g v) : f = g := by
 have no : ∀ i f, Up l s i f → rd l f = v → 0 ≤ v → v ≠ s := by
  intro i f hi e hv es
  have := (Up_dep h0 hs hb hD (i + 1) v ⟨f, hi, e, hv⟩).2
  rw [es] at this
  omega
 rcases hf with ⟨e, rfl⟩ | ⟨i, hi, e, hv⟩ | ⟨hn, rfl⟩
 ·rcases hg with ⟨_, rfl⟩ | ⟨j, hj, e', hv'⟩ | ⟨hn', _⟩
  ·rfl
  ·exact absurd e (no j g hj e' hv')
  ·exact absurd (show Up l s 0 v from e) (hn' 0)
 ·rcases hg with ⟨e', _⟩ | ⟨j, hj, e', hv'⟩ | ⟨hn', _⟩
  ·exact absurd e' (no i f hi e hv)
  ·have a := (Up_dep h0 hs hb hD (i + 1) v ⟨f, hi, e, hv⟩).2
   have b := (Up_dep h0 hs hb hD (j + 1) v ⟨g, hj, e', hv'⟩).2
   obtain rfl : i = j := by omega
   exact Up_one i f g hi hj
  ·exact absurd (show Up l s (i + 1) v from ⟨f, hi, e, hv⟩) (hn' (i + 1))
 ·rcases hg with ⟨e', _⟩ | ⟨j, hj, e', hv'⟩ | ⟨_, rfl⟩
  ·exact absurd (show Up l s 0 v from e') (hn 0)
  ·exact absurd (show Up l s (j + 1) v from ⟨g, hj, e', hv'⟩) (hn (j + 1))
  ·rfl
theorem Came_next {l : List Int} {s : Int} {D : Int → Nat} (h0 : 0 ≤ s) (hs : s < l.length) (hb : ∀ u : Int, 0 ≤ u → u < l.length → -1 ≤ rd l u ∧ rd l u < l.length) (hD : ∀ u : Int, 0 ≤ u → u < l.length → D u = D (rd l u) + 1) {f a u : Int} (hf : Came l s f a) (ha : 0 ≤ a) (hu : 0 ≤ u) (hj : rd l u = a ∨ rd l a = u) (hne : u ≠ f) : Came l s a u := by
 by_cases hx : ∃ i, Up l s i a
 ·obtain ⟨i, hi⟩ := hx
  rcases hj with e | e
  ·by_cases hy : ∃ j, Up l s j u
   ·obtain ⟨j, hj⟩ := hy
    exact absurd (Came_one h0 hs hb hD (Or.inr (Or.inl ⟨j, hj, e, ha⟩)) hf) hne
   ·exact Or.inr (Or.inr ⟨fun j hj => hy ⟨j, hj⟩, e.symm⟩)
  ·exact Or.inr (Or.inl ⟨i, hi, e, hu⟩)
 ·rcases hj with e | e
  ·by_cases hy : ∃ j, Up l s j u
   ·obtain ⟨j, hj⟩ := hy
    exact absurd ⟨j + 1, u, hj, e, ha⟩ hx
   ·exact Or.inr (Or.inr ⟨fun j hj => hy ⟨j, hj⟩, e.symm⟩)
  ·rcases hf with ⟨e', _⟩ | ⟨i, hi, e', hv⟩ | ⟨_, e'⟩
   ·exact absurd ⟨0, e'⟩ hx
   ·exact absurd ⟨i + 1, f, hi, e', hv⟩ hx
   ·exact absurd (e.symm.trans e'.symm) hne
def sprd (l : List Int) : Nat → List (Int × Int) → List (Int × Int) → List (Int × Int)
 | _, out, [] => out
 | 0, out, _ :: _ => out
 | d + 1, out, x :: q => sprd l d (out ++ fan x.2 (kidsM l x.1 x.2 (joinC l x.2 l.length))) (q ++ fan x.2 (kidsM l x.1 x.2 (joinC l x.2 l.length)))
def tos (q : List (Int × Int)) : List Int := q.map fun x => x.2
theorem tos_app (p q : List (Int × Int)) : tos (p ++ q) = tos p ++ tos q := List.map_append ..
theorem tos_fan (a : Int) (K : List Int) : tos (fan a K) = K := by
 rw [tos, fan, List.map_map]
 exact List.map_id _
structure SInv (l : List Int) (s : Int) (P : List Int) (q : List (Int × Int)) : Prop where
 nd : (P ++ tos q).Nodup
 inb : ∀ x ∈ P ++ tos q, 0 ≤ x ∧ x < l.length
 came : ∀ x ∈ q, Came l s x.1 x.2
 from_ : ∀ v ∈ P ++ tos q, v = s ∨ ∃ g ∈ P, Came l s g v
theorem SInv.step {l : List Int} {s : Int} {D : Int → Nat} (h0 : 0 ≤ s) (hs : s < l.length) (hb : ∀ u : Int, 0 ≤ u → u < l.length → -1 ≤ rd l u ∧ rd l u < l.length) (hD : ∀ u : Int, 0 ≤ u → u < l.length → D u = D (rd l u) + 1) {P : List Int} {x : Int × Int} {q : List (Int × Int)} (h : SInv l s P (x :: q)) : SInv l s (P ++ [x.2]) (q ++ fan x.2 (kidsM l x.1 x.2 (joinC l x.2 l.length))) := by
 have hx := h.inb x.2 (by simp [tos])
 have hc := h.came x (by simp)
 have hk : ∀ u, u ∈ kidsM l x.1 x.2 (joinC l x.2 l.length) → (0 ≤ u ∧ u < l.length) ∧ Came l s x.2 u := by
  intro u hu
  rw [kidsM, List.mem_filter, joinC_mem, decide_eq_true_eq] at hu
  exact ⟨hu.1.1, Came_next h0 hs hb hD hc hx.1 hu.1.1.1 hu.1.2 hu.2⟩
 have hnd := h.nd
 rw [show P ++ tos (x :: q) = P ++ [x.2] ++ tos q by simp [tos]] at hnd
 have hxP : x.2 ∉ P := by
  intro hm
  rw [List.append_assoc, List.nodup_append] at hnd
  exact hnd.2.2 _ hm x.2 (by simp) rfl
 have old : ∀ v, v ∈ P ++ [x.2] ++ tos q → v = s ∨ ∃ g ∈ P, Came l s g v := fun v hv => h.from_ v (by simpa [tos] using hv)
 constructor
 ·rw [tos_app, tos_fan, ← List.append_assoc, List.nodup_append]
  refine ⟨hnd, ?_, ?_⟩
  ·unfold kidsM joinC
   exact ((((own0_sorted l.length).imp (fun h => Int.ne_of_lt h)).filter _).filter _ : List.Pairwise (· ≠ ·) _)
  ·intro v hv u hu e
   subst e
   have hcu := (hk v hu).2
   rcases old v hv with rfl | ⟨g, hg, hgv⟩
   ·have := Came_one h0 hs hb hD hcu (Or.inl ⟨rfl, rfl⟩)
    omega
   ·have := Came_one h0 hs hb hD hcu hgv
    exact hxP (this ▸ hg)
 ·intro v hv
  rw [tos_app, tos_fan, ← List.append_assoc, List.mem_append] at hv
  rcases hv with hv | hv
  ·exact h.inb v (by simpa [tos] using hv)
  ·exact (hk v hv).1
 ·intro y hy
  rw [List.mem_append] at hy
  rcases hy with hy | hy
  ·exact h.came y (by simp [hy])
  ·obtain ⟨u, hu, rfl⟩ := List.mem_map.1 hy
   exact (hk u hu).2
 ·intro v hv
  rw [tos_app, tos_fan, ← List.append_assoc, List.mem_append] at hv
  rcases hv with hv | hv
  ·rcases old v hv with e | ⟨g, hg, hgv⟩
   ·exact Or.inl e
   ·exact Or.inr ⟨g, by simp [hg], hgv⟩
  ·exact Or.inr ⟨x.2, by simp, (hk v hv).2⟩
theorem SInv.len {l : List Int} {s : Int} {P : List Int} {q : List (Int × Int)} (h : SInv l s P q) : P.length + q.length ≤ l.length := by
 have := nodup_le (P ++ tos q) (own0 l.length) h.nd (fun x hx => (own0_mem _ _).2 (h.inb x hx))
 rw [List.length_append, show (tos q).length = q.length from List.length_map .., show (own0 l.length).length = l.length by unfold own0; simp] at this
 exact this
theorem spread_go {l : List Int} {s : Int} {D : Int → Nat} (hl : l.length ≤ 12) (h0 : 0 ≤ s) (hs : s < l.length) (hb : ∀ u : Int, 0 ≤ u → u < l.length → -1 ≤ rd l u ∧ rd l u < l.length) (hD : ∀ u : Int, 0 ≤ u → u < l.length → D u = D (rd l u) + 1) : ∀ (d : Nat) (P : List Int) (out q : List (Int × Int)), SInv l s P q → P.length + d = l.length → out.length + 1 = P.length + q.length →
  Ev (fun k => spec_l10Spread.l0 k l (qS out) (qS q)) (qS (sprd l d out q)) ∧ Ev (fun k => impl_spread.l0 k l (qS out) (qI q)) (qS (sprd l d out q)) ∧ (sprd l d out q).length ≤ 12 := by
 intro d
 induction d with
 | zero =>
  intro P out q h hd ho
  have := h.len
  obtain rfl : q = [] := List.eq_nil_of_length_eq_zero (by omega)
  refine ⟨Ev.succ ?_, Ev.succ ?_, ?_⟩
  ·simp only [spec_l10Spread.l0, qS_len, if_neg (show ¬ (([] : List (Int × Int)).length : Int) > 0 by simp)]
   exact Ev.now _
  ·simp only [impl_spread.l0, qI_len, if_neg (show ¬ (([] : List (Int × Int)).length : Int) > 0 by simp)]
   exact Ev.now _
  ·simp only [sprd]
   simp at ho
   omega
 | succ d ih =>
  intro P out q h hd ho
  have hln := h.len
  cases q with
  | nil =>
   refine ⟨Ev.succ ?_, Ev.succ ?_, ?_⟩
   ·simp only [spec_l10Spread.l0, qS_len, if_neg (show ¬ (([] : List (Int × Int)).length : Int) > 0 by simp)]
    exact Ev.now _
   ·simp only [impl_spread.l0, qI_len, if_neg (show ¬ (([] : List (Int × Int)).length : Int) > 0 by simp)]
    exact Ev.now _
   ·simp only [sprd]
    simp at ho
    omega
  | cons x q =>
   have hx := h.inb x.2 (by simp [tos])
   rw [List.length_cons] at ho hln
   have hJ := joinC_len l x.2 l.length
   have hst := h.step h0 hs hb hD
   have hl2 := hst.len
   rw [List.length_append, List.length_append, List.length_singleton, show (fan x.2 (kidsM l x.1 x.2 (joinC l x.2 l.length))).length = (kidsM l x.1 x.2 (joinC l x.2 l.length)).length from List.length_map ..] at hl2
   obtain ⟨g1, g2, g3⟩ := ih (P ++ [x.2]) (out ++ fan x.2 (kidsM l x.1 x.2 (joinC l x.2 l.length))) _ hst (by simp; omega) (by
    simp only [List.length_append, List.length_singleton]
    omega)
   refine ⟨Ev.succ ?_, Ev.succ ?_, g3⟩
   ·have := specSp_l1 l x.1 x.2 (qS (sprd l (d + 1) out (x :: q))) (joinC l x.2 l.length) [] out q (by rw [List.nil_append]; omega) (by omega) (by omega) g1
    simp only [spec_l10Spread.l0, qS_len, List.length_cons, if_pos (show ((q.length + 1 : Nat) : Int) > 0 by omega), if_pos (show (0 : Int) < ((q.length + 1 : Nat) : Int) by omega), if_pos (show (1 : Int) ≤ ((q.length + 1 : Nat) : Int) by omega)]
    exact Ev.bind (specJo_ev l x.2 hx.1 hx.2 (by omega)) this
   ·have := implSp_l1 l x.1 x.2 (qS (sprd l (d + 1) out (x :: q))) (joinC l x.2 l.length) [] out (x :: q) (by rw [List.nil_append]; omega) (by omega) (by simp; omega) (by simp) g2
    simp only [impl_spread.l0, qI_len, List.length_cons, if_pos (show ((q.length + 1 : Nat) : Int) > 0 by omega), if_pos (show (0 : Int) < ((q.length + 1 : Nat) : Int) by omega)]
    exact Ev.bind (implBr_ev l x.2 hx.1 hx.2 (by omega)) this
def spreadM (l : List Int) (s : Int) : List (Int × Int) := sprd l l.length [] [(-1, s)]
theorem spread_ev {l : List Int} {s : Int} (hg : goodP l = true) (h0 : 0 ≤ s) (hs : s < l.length) :
  Ev (fun k => spec_l10Spread.f k l s) (qS (spreadM l s)) ∧ Ev (fun k => impl_spread.f k l s) (qS (spreadM l s)) ∧ (spreadM l s).length ≤ 12 := by
 obtain ⟨_, h12, hb, D, hD⟩ := good_deep hg
 exact spread_go h12 h0 hs hb hD l.length [] [] [(-1, s)] ⟨by simp [tos], by simp [tos]; exact ⟨h0, hs⟩, by simp; exact Or.inl ⟨rfl, rfl⟩, by simp [tos]⟩ (by simp) (by simp)
def spreadOn (l : List Int) (s : Int) : List S61 × Bool := if goodP l = true ∧ 0 ≤ s ∧ s < l.length then (qS (spreadM l s), true) else ([], false)
theorem spreadOn_len (l : List Int) (s : Int) : (spreadOn l s).1.length ≤ 12 := by
 unfold spreadOn
 split
 ·rename_i h
  rw [qS_len]
  exact (spread_ev h.1 h.2.1 h.2.2).2.2
 ·simp
theorem specTwo_ev (l : List Int) (a b : Int) (hl : l.length ≤ 1048576) : Ev (fun k => spec_l10Two.f k l a b) (goodP l && (decide (0 ≤ a ∧ a < l.length) && decide (0 ≤ b ∧ b < l.length))) := by
 unfold spec_l10Two.f
 refine Ev.bind (specGoodP_ev l hl) ?_
 simp only [specIn, Option.bind_some, topLen hl, decide_eq_true_eq]
 cases goodP l
 ·exact Ev.now _
 ·simp only [if_true, Bool.true_and, show (a ≤ (l.length : Int) - 1) = (a < l.length) from propext ⟨fun h => by omega, fun h => by omega⟩, show (b ≤ (l.length : Int) - 1) = (b < l.length) from propext ⟨fun h => by omega, fun h => by omega⟩]
  by_cases ha : 0 ≤ a ∧ a < l.length
  ·simp only [if_pos ha, decide_eq_true ha, Bool.true_and]
   exact Ev.now _
  ·simp only [if_neg ha, decide_eq_false ha, Bool.false_and]
   exact Ev.now _
theorem implTree_ev (l q : List Int) (hl : l.length ≤ 1048576) (hq : (q.length : Int) ≤ 1099511627776) : Ev (fun k => impl_goodTree.f k l q) (goodP l && q.all fun x => decide (0 ≤ x ∧ x < l.length)) := by
 unfold impl_goodTree.f
 refine Ev.bind (implGoodP_ev l hl) ?_
 cases goodP l
 ·exact Ev.now _
 ·simp only [if_true, Bool.true_and]
  refine Ev.bind (implAll_ev _ _ q hq) ?_
  rw [topLen hl, allIn]
  simp only [show ∀ x : Int, (x ≤ (l.length : Int) - 1) = (x < l.length) from fun x => propext ⟨fun h => by omega, fun h => by omega⟩]
  exact Ev.now _
theorem specSpreadOn_ev (l : List Int) (s : Int) (hl : l.length ≤ 1048576) : Ev (fun k => spec_SpreadOn.f k l s) (spreadOn l s) := by
 unfold spec_SpreadOn.f spreadOn
 refine Ev.bind (specTwo_ev l s s hl) ?_
 by_cases h : goodP l = true ∧ 0 ≤ s ∧ s < l.length
 ·rw [if_pos h, h.1, decide_eq_true h.2]
  simp only [Bool.and_self, if_true]
  exact Ev.bind (spread_ev h.1 h.2.1 h.2.2).1 (Ev.now _)
 ·rw [if_neg h]
  simp only [Bool.and_eq_true, decide_eq_true_eq, and_self, if_neg h]
  exact Ev.now _
theorem implSpreadOn_ev (l : List Int) (s : Int) (hl : l.length ≤ 1048576) : Ev (fun k => impl_SpreadOn.f k l s) (spreadOn l s) := by
 unfold impl_SpreadOn.f spreadOn
 refine Ev.bind (implTree_ev l [s] hl (by simp)) ?_
 by_cases h : goodP l = true ∧ 0 ≤ s ∧ s < l.length
 ·rw [if_pos h, h.1]
  simp only [List.all_cons, List.all_nil, decide_eq_true h.2, Bool.and_self, if_true]
  exact Ev.bind (spread_ev h.1 h.2.1 h.2.2).2.1 (Ev.now _)
 ·rw [if_neg h]
  simp only [List.all_cons, List.all_nil, Bool.and_true, Bool.and_eq_true, decide_eq_true_eq, if_neg h]
  exact Ev.now _
-- what a walk over a tree leaves: each place of the group once, with whom it came from
structure FInv (l : List Int) (s : Int) (P : List Int) (out q : List (Int × Int)) : Prop where
 base : SInv l s P q
 eq : P ++ tos q = s :: tos out
 came : ∀ y ∈ out, Came l s y.1 y.2 ∧ y.1 ∈ P
 clo : ∀ a ∈ P, ∀ u : Int, 0 ≤ u → u < l.length → (rd l u = a ∨ rd l a = u) → u ∈ P ++ tos q
theorem FInv.step {l : List Int} {s : Int} {D : Int → Nat} (h0 : 0 ≤ s) (hs : s < l.length) (hb : ∀ u : Int, 0 ≤ u → u < l.length → -1 ≤ rd l u ∧ rd l u < l.length) (hD : ∀ u : Int, 0 ≤ u → u < l.length → D u = D (rd l u) + 1) {P : List Int} {x : Int × Int} {out q : List (Int × Int)} (h : FInv l s P out (x :: q)) :
  FInv l s (P ++ [x.2]) (out ++ fan x.2 (kidsM l x.1 x.2 (joinC l x.2 l.length))) (q ++ fan x.2 (kidsM l x.1 x.2 (joinC l x.2 l.length))) := by
 have hx := h.base.inb x.2 (by simp [tos])
 have hc := h.base.came x (by simp)
 have hmem : ∀ u, u ∈ P ++ tos (x :: q) → u ∈ P ++ [x.2] ++ tos (q ++ fan x.2 (kidsM l x.1 x.2 (joinC l x.2 l.length))) := by
  intro u hu
  rw [tos_app]
  simp only [List.mem_append, tos, List.map_cons, List.mem_cons] at hu ⊢
  rcases hu with hu | hu | hu
  ·exact Or.inl (Or.inl hu)
  ·exact Or.inl (Or.inr (Or.inl hu))
  ·exact Or.inr (Or.inl hu)
 constructor
 ·exact h.base.step h0 hs hb hD
 ·rw [tos_app, tos_app, ← List.append_assoc, show P ++ [x.2] ++ tos q = P ++ tos (x :: q) by simp [tos], h.eq]
  rfl
 ·intro y hy
  rcases List.mem_append.1 hy with hy | hy
  ·have := h.came y hy
   exact ⟨this.1, List.mem_append.2 (Or.inl this.2)⟩
  ·obtain ⟨u, hu, rfl⟩ := List.mem_map.1 hy
   rw [kidsM, List.mem_filter, joinC_mem, decide_eq_true_eq] at hu
   exact ⟨Came_next h0 hs hb hD hc hx.1 hu.1.1.1 hu.1.2 hu.2, by simp⟩
 ·intro a ha u hu0 hu1 hj
  rcases List.mem_append.1 ha with ha | ha
  ·exact hmem u (h.clo a ha u hu0 hu1 hj)
  ·rw [List.mem_singleton] at ha
   subst ha
   by_cases hf : u = x.1
   ·have hfr := h.base.from_ x.2 (by simp [tos])
    rcases hfr with e | ⟨g, hg, hgv⟩
    ·have := Came_one h0 hs hb hD hc (Or.inl ⟨e, rfl⟩)
     omega
    ·have e := Came_one h0 hs hb hD hc hgv
     rw [hf, e]
     exact List.mem_append.2 (Or.inl (List.mem_append.2 (Or.inl hg)))
   ·rw [tos_app, tos_fan]
    refine List.mem_append.2 (Or.inr (List.mem_append.2 (Or.inr ?_)))
    rw [kidsM, List.mem_filter, joinC_mem, decide_eq_true_eq]
    exact ⟨⟨⟨hu0, hu1⟩, hj⟩, hf⟩
theorem spread_inv {l : List Int} {s : Int} {D : Int → Nat} (h0 : 0 ≤ s) (hs : s < l.length) (hb : ∀ u : Int, 0 ≤ u → u < l.length → -1 ≤ rd l u ∧ rd l u < l.length) (hD : ∀ u : Int, 0 ≤ u → u < l.length → D u = D (rd l u) + 1) : ∀ (d : Nat) (P : List Int) (out q : List (Int × Int)), FInv l s P out q → P.length + d = l.length → ∃ P', FInv l s P' (sprd l d out q) [] := by
 intro d
 induction d with
 | zero =>
  intro P out q h hd
  have := h.base.len
  obtain rfl : q = [] := List.eq_nil_of_length_eq_zero (by omega)
  exact ⟨P, h⟩
 | succ d ih =>
  intro P out q h hd
  cases q with
  | nil => exact ⟨P, h⟩
  | cons x q => exact ih _ _ _ (h.step h0 hs hb hD) (by simp; omega)
theorem spread_fin {l : List Int} {s : Int} {D : Int → Nat} (h0 : 0 ≤ s) (hs : s < l.length) (hb : ∀ u : Int, 0 ≤ u → u < l.length → -1 ≤ rd l u ∧ rd l u < l.length) (hD : ∀ u : Int, 0 ≤ u → u < l.length → D u = D (rd l u) + 1) :
  (s :: tos (spreadM l s)).Nodup ∧ (∀ v ∈ s :: tos (spreadM l s), 0 ≤ v ∧ v < l.length) ∧ (∀ y ∈ spreadM l s, Came l s y.1 y.2 ∧ y.1 ∈ s :: tos (spreadM l s)) ∧ (∀ a ∈ s :: tos (spreadM l s), ∀ u : Int, 0 ≤ u → u < l.length → (rd l u = a ∨ rd l a = u) → u ∈ s :: tos (spreadM l s)) := by
 obtain ⟨P, h⟩ := spread_inv h0 hs hb hD l.length [] [] [(-1, s)] ⟨⟨by simp [tos], by simp [tos]; exact ⟨h0, hs⟩, by simp; exact Or.inl ⟨rfl, rfl⟩, by simp [tos]⟩, by simp [tos], by simp, by simp⟩ (by simp)
 have e := h.eq
 rw [show tos ([] : List (Int × Int)) = [] from rfl, List.append_nil] at e
 have a := h.base.nd
 have b := h.base.inb
 have c := h.came
 have d := h.clo
 rw [show tos ([] : List (Int × Int)) = [] from rfl, List.append_nil, e] at a b d
 rw [e] at c
 exact ⟨a, b, c, d⟩
-- the last hop that goes to a place
def hopAt : List (Int × Int) → Int → Int × Bool
 | [], _ => (0, false)
 | y :: r, v => if (hopAt r v).2 = true then hopAt r v else if y.2 = v then (y.1, true) else (0, false)
theorem hopAt_none : ∀ (hs : List (Int × Int)) (v : Int), v ∉ tos hs → hopAt hs v = (0, false)
 | [], _, _ => rfl
 | y :: r, v, h => by
  simp only [tos, List.map_cons, List.mem_cons, not_or] at h
  rw [hopAt, hopAt_none r v h.2, if_neg (by simp), if_neg (fun e => h.1 e.symm)]
theorem hopAt_some : ∀ (hs : List (Int × Int)) (v : Int), v ∈ tos hs → ∃ f, hopAt hs v = (f, true) ∧ (f, v) ∈ hs
 | [], _, h => by simp [tos] at h
 | y :: r, v, h => by
  by_cases hr : v ∈ tos r
  ·obtain ⟨f, e, hm⟩ := hopAt_some r v hr
   exact ⟨f, by rw [hopAt, e, if_pos rfl], List.mem_cons_of_mem _ hm⟩
  ·simp only [tos, List.map_cons, List.mem_cons] at h
   rcases h with e | h
   ·refine ⟨y.1, by rw [hopAt, hopAt_none r v hr, if_neg (by simp), if_pos e.symm], ?_⟩
    rw [e]
    exact List.mem_cons_self ..
   ·exact absurd h hr
-- the way up from a place
def Climb (l : List Int) : Int → List Int → Prop
 | u, [] => u < 0
 | u, x :: r => 0 ≤ u ∧ x = u ∧ Climb l (rd l u) r
theorem Climb_one {l : List Int} : ∀ (A B : List Int) (u : Int), Climb l u A → Climb l u B → A = B
 | [], [], _, _, _ => rfl
 | [], x :: r, u, h, g => by have : u < 0 := h; have := g.1; omega
 | x :: r, [], u, h, g => by have : u < 0 := g; have := h.1; omega
 | x :: r, y :: s, u, h, g => by rw [h.2.1, g.2.1, Climb_one r s _ h.2.2 g.2.2]
theorem Climb_split {l : List Int} {b : Int} : ∀ (B1 : List Int) (y : Int) (r : List Int) (i : Nat) (u : Int), Climb l u (B1 ++ y :: r) → Up l b i u → Up l b (i + B1.length) y
 | [], y, r, i, u, h, hu => by
  have := h.2.1
  rw [this]
  exact hu
 | x :: B1, y, r, i, u, h, hu => by
  have hr : ∃ z s, B1 ++ y :: r = z :: s := by
   cases B1 with
   | nil => exact ⟨_, _, rfl⟩
   | cons z s => exact ⟨_, _, rfl⟩
  obtain ⟨z, s, e⟩ := hr
  have h2 := h.2.2
  have h3 : 0 ≤ rd l u := by
   rw [show B1.append (y :: r) = B1 ++ y :: r from rfl, e] at h2
   exact h2.1
  have := Climb_split B1 y r (i + 1) (rd l u) h2 ⟨u, hu, rfl, h3⟩
  rw [List.length_cons, show i + (B1.length + 1) = i + 1 + B1.length by omega]
  exact this
theorem Climb_next {l : List Int} : ∀ (B1 : List Int) (y v : Int) (r : List Int) (u : Int), Climb l u (B1 ++ y :: v :: r) → rd l y = v ∧ 0 ≤ v
 | [], y, v, r, u, h => by
  have h1 := h.2.1
  have h2 := h.2.2
  rw [h1]
  exact ⟨h2.2.1.symm, h2.2.1 ▸ h2.1⟩
 | x :: B1, y, v, r, u, h => Climb_next B1 y v r _ h.2.2
theorem Climb_up {l : List Int} : ∀ (B : List Int) (u x : Int), Climb l u B → x ∈ B → 0 ≤ rd l x → rd l x ∈ B
 | [], _, _, _, hx, _ => by simp at hx
 | y :: r, u, x, h, hx, h0 => by
  rcases List.mem_cons.1 hx with e | hx
  ·have h2 := h.2.2
   rw [← h.2.1, ← e] at h2
   cases r with
   | nil => have : rd l x < 0 := h2; omega
   | cons z s => rw [h2.2.1]; simp
  ·exact List.mem_cons_of_mem _ (Climb_up r _ x h.2.2 hx h0)
theorem Up_mem {l : List Int} {b : Int} {B : List Int} (hB : Climb l b B) (h0 : 0 ≤ b) : ∀ (i : Nat) (v : Int), Up l b i v → v ∈ B
 | 0, v, h => by
  have e : v = b := h
  cases B with
  | nil => have : b < 0 := hB; omega
  | cons x r => rw [e, ← hB.2.1]; simp
 | i + 1, v, h => by
  obtain ⟨u, hu, e, hv⟩ := h
  rw [← e]
  exact Climb_up B b u hB (Up_mem hB h0 i u hu) (by omega)
theorem group_down {l : List Int} {s : Int} {G : List Int} (hG : ∀ a ∈ G, ∀ u : Int, 0 ≤ u → u < l.length → (rd l u = a ∨ rd l a = u) → u ∈ G) (hb : ∀ u : Int, 0 ≤ u → u < l.length → -1 ≤ rd l u ∧ rd l u < l.length) : ∀ (A : List Int) (v : Int), Climb l v A → v < l.length → (∃ x ∈ A, x ∈ G) → v ∈ G
 | [], _, _, _, h => by obtain ⟨x, hx, _⟩ := h; simp at hx
 | y :: r, v, hA, hv, h => by
  obtain ⟨x, hx, hg⟩ := h
  rcases List.mem_cons.1 hx with e | hx
  ·rw [← hA.2.1, ← e]; exact hg
  ·have := group_down (s := s) hG hb r (rd l v) hA.2.2 (hb v hA.1 hv).2 ⟨x, hx, hg⟩
   exact hG _ this v hA.1 hv (Or.inl rfl)
theorem group_up {l : List Int} {G : List Int} (hG : ∀ a ∈ G, ∀ u : Int, 0 ≤ u → u < l.length → (rd l u = a ∨ rd l a = u) → u ∈ G) (hb : ∀ u : Int, 0 ≤ u → u < l.length → -1 ≤ rd l u ∧ rd l u < l.length) : ∀ (B : List Int) (b : Int), Climb l b B → b < l.length → b ∈ G → ∀ x ∈ B, x ∈ G
 | [], _, _, _, _, x, hx => by simp at hx
 | y :: r, b, hB, hl, hg, x, hx => by
  rcases List.mem_cons.1 hx with e | hx
  ·rw [e, hB.2.1]; exact hg
  ·have h0 : 0 ≤ rd l b := by
    cases r with
    | nil => simp at hx
    | cons z s => exact hB.2.2.1
   have h1 := (hb b hB.1 hl).2
   exact group_up hG hb r (rd l b) hB.2.2 h1 (hG b hg _ h0 h1 (Or.inr rfl)) x hx
theorem group_meets {l : List Int} {b : Int} {B : List Int} {D : Int → Nat} (h0 : 0 ≤ b) (hB : Climb l b B) (hb : ∀ u : Int, 0 ≤ u → u < l.length → -1 ≤ rd l u ∧ rd l u < l.length) (hD : ∀ u : Int, 0 ≤ u → u < l.length → D u = D (rd l u) + 1)
  (hi : ∀ v ∈ b :: tos (spreadM l b), 0 ≤ v ∧ v < l.length) (hc : ∀ y ∈ spreadM l b, Came l b y.1 y.2 ∧ y.1 ∈ b :: tos (spreadM l b)) :
  ∀ (d : Nat) (v : Int), D v ≤ d → v ∈ b :: tos (spreadM l b) → ∀ A, Climb l v A → ∃ x ∈ A, x ∈ B := by
 intro d
 induction d with
 | zero =>
  intro v hd hv A hA
  have h1 := hi v hv
  have := hD v h1.1 h1.2
  omega
 | succ d ih =>
  intro v hd hv A hA
  have h1 := hi v hv
  have hself : v ∈ A := by
   cases A with
   | nil => have : v < 0 := hA; omega
   | cons x r => rw [← hA.2.1]; simp
  by_cases hvB : v ∈ B
  ·exact ⟨v, hself, hvB⟩
  ·rcases List.mem_cons.1 hv with e | hv
   ·exact absurd (Up_mem hB h0 0 v e) hvB
   ·obtain ⟨y, hy, rfl⟩ := List.mem_map.1 hv
    obtain ⟨hcame, hin⟩ := hc y hy
    rcases hcame with ⟨e, _⟩ | ⟨i, hu, e, hp⟩ | ⟨_, e⟩
    ·exact absurd (Up_mem hB h0 0 _ e) hvB
    ·exact absurd (Up_mem hB h0 (i + 1) _ ⟨_, hu, e, hp⟩) hvB
    ·rw [e] at hin
     have h3 := hD y.2 h1.1 h1.2
     cases A with
     | nil => simp at hself
     | cons x r =>
      obtain ⟨x', hx', hxB⟩ := ih (rd l y.2) (by omega) hin r hA.2.2
      exact ⟨x', List.mem_cons_of_mem _ hx', hxB⟩
-- what the hops of the walk tell of each place
structure Tells (l : List Int) (b : Int) (B : List Int) (H : Int → Int × Bool) : Prop where
 down : ∀ (B1 : List Int) (y v : Int) (r : List Int), B = B1 ++ y :: v :: r → H v = (y, true) ∧ v ≠ b
 up : ∀ (v : Int) (A : List Int), 0 ≤ v → v < l.length → v ∉ B → Climb l v A → (∃ x ∈ A, x ∈ B) → H v = (rd l v, true)
 off : ∀ (v : Int) (A : List Int), 0 ≤ v → v < l.length → Climb l v A → (¬ ∃ x ∈ A, x ∈ B) → H v = (0, false)
theorem tells {l : List Int} {b : Int} {B : List Int} {D : Int → Nat} (h0 : 0 ≤ b) (h1 : b < l.length) (hB : Climb l b B) (hb : ∀ u : Int, 0 ≤ u → u < l.length → -1 ≤ rd l u ∧ rd l u < l.length) (hD : ∀ u : Int, 0 ≤ u → u < l.length → D u = D (rd l u) + 1) : Tells l b B (hopAt (spreadM l b)) := by
 obtain ⟨hn, hi, hc, hG⟩ := spread_fin h0 h1 hb hD
 have hbG : b ∈ b :: tos (spreadM l b) := by simp
 have hBG := group_up hG hb B b hB h1 hbG
 constructor
 ·intro B1 y v r e
  have hB' := hB
  rw [e] at hB'
  have hy := Climb_split B1 y (v :: r) 0 b hB' rfl
  have hv := Climb_next B1 y v r b hB'
  have hUp : Up l b (0 + B1.length + 1) v := ⟨y, hy, hv.1, hv.2⟩
  have hdep := Up_dep h0 h1 hb hD _ v hUp
  have hne : v ≠ b := fun e => by rw [e] at hdep; omega
  have hm : v ∈ tos (spreadM l b) := by
   rcases List.mem_cons.1 (hBG v (by rw [e]; simp)) with e | h
   ·exact absurd e hne
   ·exact h
  obtain ⟨f, ef, hf⟩ := hopAt_some _ _ hm
  have efy : f = y := Came_one h0 h1 hb hD (hc _ hf).1 (Or.inr (Or.inl ⟨_, hy, hv.1, hv.2⟩))
  rw [ef, efy]
  exact ⟨rfl, hne⟩
 ·intro v A hv0 hv1 hvB hA hx
  have hG' := group_down (s := b) hG hb A v hA hv1 (by obtain ⟨x, hx, hxB⟩ := hx; exact ⟨x, hx, hBG x hxB⟩)
  have hm : v ∈ tos (spreadM l b) := by
   rcases List.mem_cons.1 hG' with e | h
   ·exact absurd (Up_mem hB h0 0 v e) hvB
   ·exact h
  obtain ⟨f, ef, hf⟩ := hopAt_some _ _ hm
  rw [ef]
  rcases (hc _ hf).1 with ⟨e, _⟩ | ⟨i, hu, e, hp⟩ | ⟨_, e⟩
  ·exact absurd (Up_mem hB h0 0 _ e) hvB
  ·exact absurd (Up_mem hB h0 (i + 1) _ ⟨_, hu, e, hp⟩) hvB
  ·rw [show f = rd l v from e]
 ·intro v A hv0 hv1 hA hx
  refine hopAt_none _ _ fun hm => hx ?_
  exact group_meets h0 hB hb hD hi hc (D v) v (Nat.le_refl _) (List.mem_cons_of_mem _ hm) A hA
-- the way: up to where both climbs meet, then down
def onGo (B : List Int) : List Int → List Int → List Int × Bool
 | _, [] => ([], false)
 | pre, x :: r => if x ∈ B then (pre ++ [x] ++ (B.takeWhile fun y => decide (y ≠ x)).reverse, true) else onGo B (pre ++ [x]) r
theorem take_split {x : Int} : ∀ (B1 r : List Int), x ∉ B1 → (B1 ++ x :: r).takeWhile (fun y => decide (y ≠ x)) = B1
 | [], r, _ => by simp
 | z :: B1, r, h => by
  simp only [List.mem_cons, not_or] at h
  rw [List.cons_append, List.takeWhile_cons, if_pos (by simpa using fun e => h.1 e.symm), take_split B1 r h.2]
theorem split_first {x : Int} : ∀ (B : List Int), x ∈ B → ∃ B1 r, B = B1 ++ x :: r ∧ x ∉ B1
 | [], h => by simp at h
 | z :: B, h => by
  by_cases e : x = z
  ·exact ⟨[], B, by rw [e]; rfl, by simp⟩
  ·rcases List.mem_cons.1 h with h | h
   ·exact absurd h e
   ·obtain ⟨B1, r, e1, h1⟩ := split_first B h
    exact ⟨z :: B1, r, by rw [e1]; rfl, by simp; exact ⟨e, h1⟩⟩
def climbL (l : List Int) : Nat → Int → List Int
 | 0, _ => []
 | d + 1, u => if u < 0 then [] else u :: climbL l d (rd l u)
theorem climbL_is {l : List Int} : ∀ (d : Nat) (u : Int), upOk l d u = true → Climb l u (climbL l d u)
 | 0, u, h => by rw [upOk, decide_eq_true_eq] at h; exact h
 | d + 1, u, h => by
  rw [climbL]
  rw [upOk] at h
  by_cases hu : u < 0
  ·rw [if_pos hu]; exact hu
  ·rw [if_neg hu]
   rw [if_pos (show u ≥ 0 by omega), Bool.and_eq_true] at h
   exact ⟨by omega, rfl, climbL_is d _ h.2⟩
theorem climbL_len (l : List Int) : ∀ (d : Nat) (u : Int), (climbL l d u).length ≤ d
 | 0, _ => by simp [climbL]
 | d + 1, u => by
  rw [climbL]
  split
  ·simp
  ·rw [List.length_cons]; have := climbL_len l d (rd l u); omega
def climbM (l : List Int) (u : Int) : List Int := climbL l l.length u
theorem good_up {l : List Int} (hg : goodP l = true) {u : Int} (h0 : 0 ≤ u) (h1 : u < l.length) : Climb l u (climbM l u) := by
 obtain ⟨_, h2, _⟩ := chkS_at l l 0 hg
 have := h2 u.toNat (by omega)
 rw [show ((0 + u.toNat : Nat) : Int) = u by omega] at this
 exact climbL_is _ _ this
theorem onGo_len (B : List Int) : ∀ (A pre : List Int), (onGo B pre A).1.length ≤ pre.length + A.length + B.length
 | [], pre => by simp [onGo]
 | x :: r, pre => by
  rw [onGo]
  split
  ·have := (List.takeWhile_sublist (fun y => decide (y ≠ x)) (l := B)).length_le
   simp only [List.length_append, List.length_reverse, List.length_cons, List.length_nil]
   omega
  ·have := onGo_len B r (pre ++ [x])
   rw [List.length_append, List.length_singleton] at this
   rw [List.length_cons]
   omega
theorem onGo_last {l : List Int} {a b : Int} {A B : List Int} {D : Int → Nat} (ha0 : 0 ≤ a) (ha1 : a < l.length) (hb0 : 0 ≤ b) (hb1 : b < l.length) (hA : Climb l a A) (hB : Climb l b B) (hne : a ≠ b) (hb : ∀ u : Int, 0 ≤ u → u < l.length → -1 ≤ rd l u ∧ rd l u < l.length) (hD : ∀ u : Int, 0 ≤ u → u < l.length → D u = D (rd l u) + 1) :
  ∀ (A' pre w : List Int), pre ++ A' = A → (∀ y ∈ pre, y ∉ B) → onGo B pre A' = (w, true) → ∃ w' f, w = w' ++ [f, b] ∧ Came l a f b ∧ 0 ≤ f
 | [], pre, w, _, _, h => by rw [onGo] at h; simp at h
 | x :: r, pre, w, hp, hno, h => by
  rw [onGo] at h
  by_cases hx : x ∈ B
  ·rw [if_pos hx] at h
   obtain ⟨B1, r', eB, hxB⟩ := split_first B hx
   rw [eB, take_split B1 r' hxB] at h
   have hw : pre ++ [x] ++ B1.reverse = w := (Prod.mk.inj h).1
   have hA' := hA
   rw [← hp] at hA'
   have ux := Climb_split pre x r 0 a hA' rfl
   cases B1 with
   | nil =>
    have exb : x = b := by
     rw [eB] at hB
     exact hB.2.1
    rcases nil_or_snoc pre with rfl | ⟨p', f, rfl⟩
    ·exact absurd (hA'.2.1.symm.trans exb) hne
    ·rw [List.append_assoc] at hA'
     have hf := Climb_split p' f (x :: r) 0 a hA' rfl
     have hn := Climb_next p' f x r a hA'
     refine ⟨p', f, ?_, Or.inr (Or.inl ⟨_, hf, by rw [← exb]; exact hn.1, hb0⟩), (Up_dep ha0 ha1 hb hD _ _ hf).1.1⟩
     rw [← hw, exb]
     simp
   | cons z B1 =>
    have ezb : z = b := by
     rw [eB] at hB
     exact hB.2.1
    subst ezb
    have hB' := hB
    rw [eB] at hB'
    have uxb := Up_dep hb0 hb1 hb hD _ _ (Climb_split (z :: B1) x r' 0 z hB' rfl)
    have uxa := Up_dep ha0 ha1 hb hD _ _ ux
    have hup : ∀ i, ¬ Up l a i z := by
     intro i hu
     have hm := Up_mem hA ha0 i z hu
     rw [← hp] at hm
     rcases List.mem_append.1 hm with hm | hm
     ·exact hno z hm (by rw [eB]; simp)
     ·rcases List.mem_cons.1 hm with e | hm
      ·exact hxB (by rw [e]; simp)
      ·obtain ⟨r1, r2, e2⟩ := List.append_of_mem hm
       rw [e2, show pre ++ x :: (r1 ++ z :: r2) = (pre ++ x :: r1) ++ z :: r2 by simp] at hA'
       have := Up_dep ha0 ha1 hb hD _ _ (Climb_split _ z r2 0 a hA' rfl)
       rw [List.length_append, List.length_cons] at this
       rw [List.length_cons] at uxb
       omega
    have hnext : ∃ w', pre ++ [x] ++ B1.reverse = w' ++ [rd l z] ∧ 0 ≤ rd l z := by
     cases B1 with
     | nil =>
      have := Climb_next [] z x r' z hB'
      exact ⟨pre, by simp [this.1], by omega⟩
     | cons y B1 =>
      have := Climb_next [] z y (B1 ++ x :: r') z hB'
      exact ⟨pre ++ [x] ++ B1.reverse, by simp [this.1], by omega⟩
    obtain ⟨w', ew, h0⟩ := hnext
    refine ⟨w', rd l z, ?_, Or.inr (Or.inr ⟨hup, rfl⟩), h0⟩
    rw [← hw, List.reverse_cons, ← List.append_assoc, ew]
    simp
  ·rw [if_neg hx] at h
   exact onGo_last ha0 ha1 hb0 hb1 hA hB hne hb hD r (pre ++ [x]) w (by simpa using hp) (fun y hy => by
    rcases List.mem_append.1 hy with hy | hy
    ·exact hno y hy
    ·rw [List.mem_singleton] at hy; rw [hy]; exact hx) h
-- one round of shortening, both sides
def relStep (old out : List Int) (e : S79) : List Int := (out.set e.f0.toNat (min (rd out e.f0) (wrap64 (rd old e.f1 + e.f2)))).set e.f1.toNat (min (rd (out.set e.f0.toNat (min (rd out e.f0) (wrap64 (rd old e.f1 + e.f2)))) e.f1) (wrap64 (rd old e.f0 + e.f2)))
theorem relStep_len (old out : List Int) (e : S79) : (relStep old out e).length = out.length := by simp [relStep]
def relaxM (l : List S79) (old : List Int) : List Int := l.foldl (relStep old) old
theorem relFold_len (old : List Int) : ∀ (l : List S79) (out : List Int), (l.foldl (relStep old) out).length = out.length
 | [], _ => rfl
 | e :: l, out => by rw [List.foldl_cons, relFold_len old l, relStep_len]
theorem relaxM_len (l : List S79) (old : List Int) : (relaxM l old).length = old.length := relFold_len old l old
theorem specRelax_l (old : List Int) (suf : List S79) : ∀ (pre : List S79) (out : List Int), ((pre ++ suf).length : Int) ≤ 1099511627776 → out.length = old.length → (∀ x ∈ suf, 0 ≤ x.f0 ∧ x.f0 < x.f1 ∧ x.f1 < old.length) →
  Ev (fun k => spec_l9Relax.l0 k old out (pre ++ suf) ((pre ++ suf).length : Int) pre.length) (suf.foldl (relStep old) out) := by
 induction suf with
 | nil =>
  intro pre out h ho hx
  refine Ev.succ ?_
  simp only [spec_l9Relax.l0, List.append_nil, Int.lt_irrefl, if_false, List.foldl_nil]
  exact Ev.now _
 | cons e suf ih =>
  intro pre out h ho hx
  refine Ev.succ ?_
  rw [len_mid] at h ⊢
  have hs := relStep_len old out e
  have := ih (pre ++ [e]) (relStep old out e) (by rw [← app_one, len_mid]; exact h) (by omega) (fun x hm => hx x (List.mem_cons_of_mem _ hm))
  rw [← app_one, len_mid, len_one] at this
  have he := hx e (List.mem_cons_self ..)
  simp only [spec_l9Relax.l0, List.foldl_cons]
  simp only [if_pos (show ((pre.length : Int) < pre.length + suf.length + 1) by omega), if_pos (show (0 : Int) ≤ pre.length by omega), len_mid, rdEdge_mid, wrap_id (show (-9223372036854775808 : Int) ≤ pre.length + 1 by omega) (show ((pre.length : Int) + 1 ≤ 9223372036854775807) by omega), if_pos he.1, if_pos (show e.f0 < (out.length : Int) by omega), if_pos (show 0 ≤ e.f1 by omega), if_pos he.2.2, if_pos (show e.f1 < (out.length : Int) by omega), if_pos (show e.f0 < (old.length : Int) by omega), least_is, Option.bind_some]
  exact this
theorem implRelax_l (old : List Int) (suf : List S79) : ∀ (pre : List S79) (out : List Int), ((pre ++ suf).length : Int) ≤ 1099511627776 → out.length = old.length → (∀ x ∈ suf, 0 ≤ x.f0 ∧ x.f0 < x.f1 ∧ x.f1 < old.length) →
  Ev (fun k => impl_relaxed.l0 k old out (pre ++ suf) ((pre ++ suf).length : Int) pre.length) (suf.foldl (relStep old) out) := by
 induction suf with
 | nil =>
  intro pre out h ho hx
  refine Ev.succ ?_
  simp only [impl_relaxed.l0, List.append_nil, Int.lt_irrefl, if_false, List.foldl_nil]
  exact Ev.now _
 | cons e suf ih =>
  intro pre out h ho hx
  refine Ev.succ ?_
  rw [len_mid] at h ⊢
  have hs := relStep_len old out e
  have := ih (pre ++ [e]) (relStep old out e) (by rw [← app_one, len_mid]; exact h) (by omega) (fun x hm => hx x (List.mem_cons_of_mem _ hm))
  rw [← app_one, len_mid, len_one] at this
  have he := hx e (List.mem_cons_self ..)
  simp only [impl_relaxed.l0, List.foldl_cons]
  simp only [if_pos (show ((pre.length : Int) < pre.length + suf.length + 1) by omega), if_pos (show (0 : Int) ≤ pre.length by omega), len_mid, rdEdge_mid, wrap_id (show (-9223372036854775808 : Int) ≤ pre.length + 1 by omega) (show ((pre.length : Int) + 1 ≤ 9223372036854775807) by omega), if_pos he.1, if_pos (show e.f0 < (out.length : Int) by omega), if_pos (show 0 ≤ e.f1 by omega), if_pos he.2.2, if_pos (show e.f1 < (out.length : Int) by omega), if_pos (show e.f0 < (old.length : Int) by omega), mn_is, Option.bind_some]
  exact this
theorem specRelax_ev (l : List S79) (old : List Int) (hb : (l.length : Int) ≤ 1099511627776) (ho : old.length ≤ 1048576) (hx : ∀ x ∈ l, 0 ≤ x.f0 ∧ x.f0 < x.f1 ∧ x.f1 < old.length) : Ev (fun k => spec_l9Relax.f k l old) (relaxM l old) := by
 unfold spec_l9Relax.f
 simp only [Option.bind_some, List.length_nil, Nat.zero_add, List.nil_append, if_pos (show old.length < 17592186044416 by omega)]
 have := specRelax_l old l [] old hb rfl hx
 exact this
theorem implRelax_ev (l : List S79) (old : List Int) (hb : (l.length : Int) ≤ 1099511627776) (ho : old.length ≤ 1048576) (hx : ∀ x ∈ l, 0 ≤ x.f0 ∧ x.f0 < x.f1 ∧ x.f1 < old.length) : Ev (fun k => impl_relaxed.f k l old) (relaxM l old) := by
 unfold impl_relaxed.f
 simp only [Option.bind_some, List.length_nil, Nat.zero_add, List.nil_append, if_pos (show old.length < 17592186044416 by omega)]
 have := implRelax_l old l [] old hb rfl hx
 exact this
-- all the shortest ways from a node, both sides
def farsIt (l : List S79) : Nat → List Int → List Int
 | 0, x => x
 | d + 1, x => farsIt l d (relaxM l x)
theorem farsIt_len (l : List S79) : ∀ (d : Nat) (x : List Int), (farsIt l d x).length = x.length
 | 0, _ => rfl
 | d + 1, x => by rw [farsIt, farsIt_len l d, relaxM_len]
def fars0 (n : Nat) (a : Int) : List Int := (List.replicate n (100000 : Int)).set a.toNat 0
theorem fars0_len (n : Nat) (a : Int) : (fars0 n a).length = n := by simp [fars0]
def farsM (n : Nat) (l : List S79) (a : Int) : List Int := farsIt l n (fars0 n a)
theorem farsM_len (n : Nat) (l : List S79) (a : Int) : (farsM n l a).length = n := by rw [farsM, farsIt_len, fars0_len]
theorem specFars_l1 (n : Nat) (hn : n ≤ 1000) (l : List S79) (hb : (l.length : Int) ≤ 1099511627776) (hx : ∀ x ∈ l, 0 ≤ x.f0 ∧ x.f0 < x.f1 ∧ x.f1 < n) (d : Nat) : ∀ (c : Nat) (x : List Int), c + d = n → x.length = n →
  Ev (fun k => spec_l9Fars.l1 k n l x c) (farsIt l d x) := by
 induction d with
 | zero =>
  intro c x h hl
  refine Ev.succ ?_
  simp only [spec_l9Fars.l1, if_neg (show ¬ (c : Int) < n by omega)]
  exact Ev.now _
 | succ d ih =>
  intro c x h hl
  refine Ev.succ ?_
  have := ih (c + 1) (relaxM l x) (by omega) (by rw [relaxM_len, hl])
  simp only [spec_l9Fars.l1, if_pos (show (c : Int) < n by omega), wrap_id (show (-9223372036854775808 : Int) ≤ c + 1 by omega) (show ((c : Int) + 1 ≤ 9223372036854775807) by omega)]
  refine Ev.bind (specRelax_ev l x hb (by omega) (by rw [hl]; exact hx)) ?_
  exact this
theorem implFars_l1 (n : Nat) (hn : n ≤ 1000) (l : List S79) (hb : (l.length : Int) ≤ 1099511627776) (hx : ∀ x ∈ l, 0 ≤ x.f0 ∧ x.f0 < x.f1 ∧ x.f1 < n) (d : Nat) : ∀ (c : Nat) (x : List Int), c + d = n → x.length = n →
  Ev (fun k => impl_fars.l1 k l x n c) (farsIt l d x) := by
 induction d with
 | zero =>
  intro c x h hl
  refine Ev.succ ?_
  simp only [impl_fars.l1, if_neg (show ¬ (c : Int) < n by omega)]
  exact Ev.now _
 | succ d ih =>
  intro c x h hl
  refine Ev.succ ?_
  have := ih (c + 1) (relaxM l x) (by omega) (by rw [relaxM_len, hl])
  simp only [impl_fars.l1, if_pos (show (c : Int) < n by omega), wrap_id (show (-9223372036854775808 : Int) ≤ c + 1 by omega) (show ((c : Int) + 1 ≤ 9223372036854775807) by omega)]
  refine Ev.bind (implRelax_ev l x hb (by omega) (by rw [hl]; exact hx)) ?_
  exact this
theorem rep_succ (c : Nat) (x : Int) : List.replicate c x ++ [x] = List.replicate (c + 1) x := by
 rw [List.replicate_succ']
theorem specFars_l0 (n : Nat) (hn : n ≤ 1000) (l : List S79) (a : Int) (R : List Int) (ha : 0 ≤ a) (ha1 : a < n) (hR : Ev (fun k => spec_l9Fars.l1 k n l (fars0 n a) 0) R) (d : Nat) : ∀ (c : Nat), c + d = n →
  Ev (fun k => spec_l9Fars.l0 k n l a (List.replicate c 100000) c) R := by
 induction d with
 | zero =>
  intro c h
  refine Ev.succ ?_
  have hc : c = n := by omega
  subst hc
  simp only [spec_l9Fars.l0, Int.lt_irrefl, if_false, if_pos ha, List.length_replicate, if_pos ha1]
  exact hR
 | succ d ih =>
  intro c h
  refine Ev.succ ?_
  have := ih (c + 1) (by omega)
  simp only [spec_l9Fars.l0, if_pos (show (c : Int) < n by omega), List.length_replicate, if_pos (show c < 17592186044416 by omega), wrap_id (show (-9223372036854775808 : Int) ≤ c + 1 by omega) (show ((c : Int) + 1 ≤ 9223372036854775807) by omega)]
  rw [rep_succ]
  exact this
theorem specFars_ev (n : Int) (l : List S79) (a : Int) (hn : n ≤ 1000) (hb : (l.length : Int) ≤ 1099511627776) (hx : ∀ x ∈ l, 0 ≤ x.f0 ∧ x.f0 < x.f1 ∧ x.f1 < n) (ha : 0 ≤ a) (ha1 : a < n) : Ev (fun k => spec_l9Fars.f k n l a) (farsM n.toNat l a) := by
 obtain ⟨m, rfl⟩ := Int.eq_ofNat_of_zero_le (show 0 ≤ n by omega)
 rw [Int.toNat_natCast]
 have := specFars_l0 m (by omega) l a _ ha ha1 (specFars_l1 m (by omega) l hb hx m 0 _ (by omega) (fars0_len m a)) m 0 (by omega)
 exact this
theorem implFars_l0 (n : Nat) (hn : n ≤ 1000) (l : List S79) (a : Int) (R : List Int) (ha : 0 ≤ a) (ha1 : a < n) (hR : Ev (fun k => impl_fars.l1 k l (fars0 n a) n 0) R) (d : Nat) : ∀ (c : Nat), c + d = n →
  Ev (fun k => impl_fars.l0 k n l a (List.replicate c 100000 ++ List.replicate d 0) n c) R := by
 induction d with
 | zero =>
  intro c h
  refine Ev.succ ?_
  have hc : c = n := by omega
  subst hc
  simp only [impl_fars.l0, Int.lt_irrefl, if_false, if_pos ha, List.replicate_zero, List.append_nil, List.length_replicate, if_pos ha1]
  exact hR
 | succ d ih =>
  intro c h
  refine Ev.succ ?_
  have := ih (c + 1) (by omega)
  have hl : ((List.replicate c (100000 : Int) ++ List.replicate (d + 1) (0 : Int)).length : Int) = n := by simp; omega
  simp only [impl_fars.l0, hl, if_pos (show (c : Int) < n by omega), if_pos (show (0 : Int) ≤ c by omega), wrap_id (show (-9223372036854775808 : Int) ≤ c + 1 by omega) (show ((c : Int) + 1 ≤ 9223372036854775807) by omega)]
  have hs := set_mid (List.replicate c (100000 : Int)) 0 100000 (List.replicate d 0)
  rw [List.length_replicate] at hs
  rw [List.replicate_succ, hs, app_one, rep_succ]
  exact this
theorem implFars_ev (n : Int) (l : List S79) (a : Int) (hn : n ≤ 1000) (hb : (l.length : Int) ≤ 1099511627776) (hx : ∀ x ∈ l, 0 ≤ x.f0 ∧ x.f0 < x.f1 ∧ x.f1 < n) (ha : 0 ≤ a) (ha1 : a < n) : Ev (fun k => impl_fars.f k n l a) (farsM n.toNat l a) := by
 obtain ⟨m, rfl⟩ := Int.eq_ofNat_of_zero_le (show 0 ≤ n by omega)
 rw [Int.toNat_natCast]
 unfold impl_fars.f
 simp only [Int.toNat_natCast, if_pos (show (0 : Int) ≤ (m : Int) by omega), if_pos (show m ≤ 35184372088832 by omega), Option.bind_some, List.length_replicate]
 have := implFars_l0 m (by omega) l a _ ha ha1 (implFars_l1 m (by omega) l hb hx m 0 _ (by omega) (fars0_len m a)) m 0 (by omega)
 exact this
theorem allIn1 (a b x : Int) : allIn a b [x] = decide (a ≤ x ∧ x ≤ b) := by rw [allIn, List.all_cons, List.all_nil, Bool.and_true]
theorem edge3 {n : Int} {l : List S79} (h : goodE n l = true) : ∀ x ∈ l, 0 ≤ x.f0 ∧ x.f0 < x.f1 ∧ x.f1 < n := fun x hm => ⟨(goodE_edge h x hm).1, (goodE_edge h x hm).2.1, (goodE_edge h x hm).2.2.1⟩
theorem top_is {n : Int} (h0 : 1 ≤ n) (h1 : n ≤ 12) : wrap64 (n - 1) = n - 1 := wrap_id (by omega) (by omega)
-- the cost of a list of nodes, both sides
theorem specEdge_l (a b : Int) (suf : List S79) : ∀ (pre : List S79), ((pre ++ suf).length : Int) ≤ 1099511627776 → (∀ x ∈ suf, x.f0 < x.f1) →
  Ev (fun k => spec_l9Edge.l0 k a b (pre ++ suf) ((pre ++ suf).length : Int) pre.length) (costM suf a b) := by
 induction suf with
 | nil =>
  intro pre h hx
  refine Ev.succ ?_
  simp only [spec_l9Edge.l0, List.append_nil, Int.lt_irrefl, if_false]
  exact Ev.now _
 | cons e suf ih =>
  intro pre h hx
  refine Ev.succ ?_
  rw [len_mid] at h ⊢
  have := ih (pre ++ [e]) (by rw [← app_one, len_mid]; exact h) (fun x hm => hx x (List.mem_cons_of_mem _ hm))
  rw [← app_one, len_mid, len_one] at this
  have he := hx e (List.mem_cons_self ..)
  simp only [spec_l9Edge.l0]
  simp only [if_pos (show ((pre.length : Int) < pre.length + suf.length + 1) by omega), if_pos (show (0 : Int) ≤ pre.length by omega), len_mid, rdEdge_mid, wrap_id (show (-9223372036854775808 : Int) ≤ pre.length + 1 by omega) (show ((pre.length : Int) + 1 ≤ 9223372036854775807) by omega)]
  by_cases hc : e.f0 = min a b ∧ e.f1 = max a b
  ·rw [show costM (e :: suf) a b = e.f2 by unfold costM; rw [List.find?_cons_of_pos (by simp only [isAt, hc, and_self, decide_true])]]
   by_cases hab : a ≤ b
   ·simp only [if_pos (show e.f0 = a by omega), if_pos (show e.f1 = b by omega)]
    exact Ev.now _
   ·simp only [if_neg (show ¬ e.f0 = a by omega), if_pos (show e.f0 = b by omega), if_pos (show e.f1 = a by omega)]
    exact Ev.now _
  ·rw [show costM (e :: suf) a b = costM suf a b by unfold costM; rw [List.find?_cons_of_neg (by simp only [isAt, hc, decide_false]; simp)]]
   by_cases h1 : e.f0 = a
   ·simp only [if_pos h1, if_neg (show ¬ e.f1 = b by omega)]
    by_cases h2 : e.f0 = b
    ·simp only [if_pos h2, if_neg (show ¬ e.f1 = a by omega)]
     exact this
    ·simp only [if_neg h2]
     exact this
   ·simp only [if_neg h1]
    by_cases h2 : e.f0 = b
    ·simp only [if_pos h2, if_neg (show ¬ e.f1 = a by omega)]
     exact this
    ·simp only [if_neg h2]
     exact this
theorem specEdge_ev {n : Int} (l : List S79) (a b : Int) (h : (l.length : Int) ≤ 1099511627776) (hg : ∀ x ∈ l, 0 ≤ x.f0 ∧ x.f0 < x.f1 ∧ x.f1 < n) : Ev (fun k => spec_l9Edge.f k l a b) (costM l a b) := by
 have := specEdge_l a b l [] h (fun x hm => (hg x hm).2.1)
 exact this
-- the first steps of the shortest ways, one side
def hopsGo (l : List S79) (a : Int) (F : List Int) (q : List Int) : List Int := q.filter fun u => decide (rd F a < 100000 ∧ wrap64 (rd F u + costM l a u) = rd F a)
theorem hopsGo_pos (l : List S79) (a : Int) (F : List Int) (u : Int) (q : List Int) (h : rd F a < 100000 ∧ wrap64 (rd F u + costM l a u) = rd F a) : hopsGo l a F (u :: q) = u :: hopsGo l a F q := by
 unfold hopsGo
 exact List.filter_cons_of_pos (decide_eq_true h)
theorem hopsGo_neg (l : List S79) (a : Int) (F : List Int) (u : Int) (q : List Int) (h : ¬ (rd F a < 100000 ∧ wrap64 (rd F u + costM l a u) = rd F a)) : hopsGo l a F (u :: q) = hopsGo l a F q := by
 unfold hopsGo
 exact List.filter_cons_of_neg (by rw [decide_eq_true_eq]; exact h)
theorem implHops_l (n : Nat) (l : List S79) (hb : (l.length : Int) ≤ 1099511627776) (a : Int) (ha : 0 ≤ a) (ha1 : a < n) (F : List Int) (hF : F.length = n) (suf : List Int) : ∀ (pre out : List Int), ((pre ++ suf).length : Int) ≤ 1000000 → out.length ≤ pre.length → (∀ u ∈ suf, 0 ≤ u ∧ u < n) →
  Ev (fun k => impl_hops.l0 k l a F out (pre ++ suf) ((pre ++ suf).length : Int) pre.length) (out ++ hopsGo l a F suf) := by
 induction suf with
 | nil =>
  intro pre out h ho hu
  refine Ev.succ ?_
  simp only [impl_hops.l0, List.append_nil, Int.lt_irrefl, if_false, hopsGo, List.filter_nil]
  exact Ev.now _
 | cons u suf ih =>
  intro pre out h ho hu
  refine Ev.succ ?_
  rw [len_mid] at h ⊢
  have h0 := hu u (List.mem_cons_self ..)
  have := fun o ho => ih (pre ++ [u]) o (by rw [← app_one, len_mid]; exact h) ho (fun x hm => hu x (List.mem_cons_of_mem _ hm))
  rw [← app_one, len_mid, len_one] at this
  simp only [impl_hops.l0]
  simp only [if_pos (show ((pre.length : Int) < pre.length + suf.length + 1) by omega), if_pos (show (0 : Int) ≤ pre.length by omega), len_mid, rd_mid, wrap_id (show (-9223372036854775808 : Int) ≤ pre.length + 1 by omega) (show ((pre.length : Int) + 1 ≤ 9223372036854775807) by omega), if_pos ha, if_pos (show a < (F.length : Int) by omega), if_pos h0.1, if_pos (show u < (F.length : Int) by omega)]
  by_cases h1 : rd F a < 100000
  ·simp only [if_pos h1]
   refine Ev.bind (implCost_ev l a u hb) ?_
   by_cases h2 : wrap64 (rd F u + costM l a u) = rd F a
   ·simp only [if_pos h2, if_pos (show out.length < 17592186044416 by omega)]
    rw [hopsGo_pos l a F u suf ⟨h1, h2⟩, app_one out u (hopsGo l a F suf)]
    exact this (out ++ [u]) (by simp only [List.length_append, List.length_singleton]; omega)
   ·simp only [if_neg h2]
    rw [hopsGo_neg l a F u suf (fun hc => h2 hc.2)]
    exact this out (by rw [List.length_append]; omega)
  ·simp only [if_neg h1]
   rw [hopsGo_neg l a F u suf (fun hc => h1 hc.1)]
   exact this out (by rw [List.length_append]; omega)
def hopsM (n : Nat) (l : List S79) (a b : Int) : List Int := hopsGo l a (farsM n l b) (nearM n l a)
theorem nearM_in (n : Nat) (l : List S79) (a u : Int) (h : u ∈ nearM n l a) : 0 ≤ u ∧ u < n := (own0_mem n u).1 (List.mem_filter.1 h).1
theorem implHops_ev (n : Int) (l : List S79) (a b : Int) (hl : l.length ≤ 1048576) (h : goodE n l = true) (ha : 0 ≤ a) (ha1 : a < n) : Ev (fun k => impl_hops.f k n l a (farsM n.toNat l b)) (hopsM n.toNat l a b) := by
 have hn := goodE_n h
 unfold impl_hops.f
 refine Ev.bind (implNear_ev n l a (by omega) (by omega) (by omega)) ?_
 have hq := nearM_len n.toNat l a
 have := implHops_l n.toNat l (by omega) a ha (by omega) (farsM n.toNat l b) (farsM_len ..) (nearM n.toNat l a) [] [] (by rw [List.nil_append]; omega) (by simp) (fun u hu => nearM_in _ _ _ _ hu)
 exact this
-- the tree of shortest ways to a node, both sides
theorem costM_symm (l : List S79) (a b : Int) : costM l a b = costM l b a := by
 unfold costM
 rw [show isAt a b = isAt b a from funext fun e => by unfold isAt; rw [Int.min_comm, Int.max_comm]]
def parM (n : Nat) (l : List S79) (a v : Int) : Int := if v = a then -1 else (hopsM n l v a).headD (-1)
theorem specAt_l1 (n : Nat) (l : List S79) (hb : (l.length : Int) ≤ 1099511627776) (hg : ∀ x ∈ l, 0 ≤ x.f0 ∧ x.f0 < x.f1 ∧ x.f1 < n) (a v : Int) (hv : 0 ≤ v) (hv1 : v < n) (F out : List Int) (hF : F.length = n) (ho : out.length ≤ 1000) (R : List Int) (suf : List Int) : ∀ (pre : List Int) (b : Int), ((pre ++ suf).length : Int) ≤ 1000000 → (∀ u ∈ suf, 0 ≤ u ∧ u < n) →
  Ev (fun k => spec_l10At.l0 k n l a F (out ++ [if b < 0 then (if v = a then b else (hopsGo l v F suf).headD b) else b]) (wrap64 (v + 1))) R →
  Ev (fun k => spec_l10At.l1 k n l a F out v b (pre ++ suf) ((pre ++ suf).length : Int) pre.length) R := by
 induction suf with
 | nil =>
  intro pre b h hu hR
  refine Ev.succ ?_
  rw [show (hopsGo l v F []).headD b = b from rfl] at hR
  simp only [ite_self] at hR
  simp only [spec_l10At.l1, List.append_nil, Int.lt_irrefl, if_false, if_pos (show out.length < 17592186044416 by omega)]
  exact hR
 | cons u suf ih =>
  intro pre b h hu hR
  refine Ev.succ ?_
  rw [len_mid] at h ⊢
  have h0 := hu u (List.mem_cons_self ..)
  have := fun b => ih (pre ++ [u]) b (by rw [← app_one, len_mid]; exact h) (fun x hm => hu x (List.mem_cons_of_mem _ hm))
  rw [← app_one, len_mid, len_one] at this
  simp only [spec_l10At.l1]
  simp only [if_pos (show ((pre.length : Int) < pre.length + suf.length + 1) by omega), if_pos (show (0 : Int) ≤ pre.length by omega), len_mid, rd_mid, wrap_id (show (-9223372036854775808 : Int) ≤ pre.length + 1 by omega) (show ((pre.length : Int) + 1 ≤ 9223372036854775807) by omega)]
  by_cases hb0 : b < 0
  ·simp only [if_pos hb0] at hR ⊢
   by_cases hva : v = a
   ·simp only [if_pos hva] at hR ⊢
    refine this b ?_
    simp only [if_pos hb0, if_pos hva]
    exact hR
   ·simp only [if_neg hva, if_pos hv, if_pos (show v < (F.length : Int) by omega), if_pos h0.1, if_pos (show u < (F.length : Int) by omega)] at hR ⊢
    by_cases h1 : rd F v < 100000
    ·simp only [if_pos h1]
     refine Ev.bind (specEdge_ev l u v hb hg) ?_
     rw [costM_symm l u v]
     by_cases h2 : wrap64 (rd F u + costM l v u) = rd F v
     ·simp only [if_pos h2]
      rw [hopsGo_pos l v F u suf ⟨h1, h2⟩, List.headD_cons] at hR
      refine this u ?_
      simp only [if_neg (show ¬ u < 0 by omega)]
      exact hR
     ·simp only [if_neg h2]
      rw [hopsGo_neg l v F u suf (fun hc => h2 hc.2)] at hR
      refine this b ?_
      simp only [if_pos hb0, if_neg hva]
      exact hR
    ·simp only [if_neg h1]
     rw [hopsGo_neg l v F u suf (fun hc => h1 hc.1)] at hR
     refine this b ?_
     simp only [if_pos hb0, if_neg hva]
     exact hR
  ·simp only [if_neg hb0] at hR ⊢
   refine this b ?_
   simp only [if_neg hb0]
   exact hR
def pars (n : Nat) (l : List S79) (a : Int) (c : Nat) : List Int := (own0 c).map (parM n l a)
theorem pars_len (n : Nat) (l : List S79) (a : Int) (c : Nat) : (pars n l a c).length = c := by unfold pars; rw [List.length_map, own0_len]
theorem pars_succ (n : Nat) (l : List S79) (a : Int) (c : Nat) : pars n l a (c + 1) = pars n l a c ++ [parM n l a c] := by
 unfold pars
 rw [own0_succ, List.map_append]
 rfl
theorem specAt_l0 (n : Nat) (hn : n ≤ 1000) (l : List S79) (hb : (l.length : Int) ≤ 1099511627776) (hx : ∀ x ∈ l, 0 ≤ x.f0 ∧ x.f0 < x.f1 ∧ x.f1 < n ∧ 1 ≤ x.f2 ∧ x.f2 ≤ 100) (a : Int) (d : Nat) : ∀ (c : Nat), c + d = n →
  Ev (fun k => spec_l10At.l0 k n l a (farsM n l a) (pars n l a c) c) (pars n l a n) := by
 induction d with
 | zero =>
  intro c h
  refine Ev.succ ?_
  have hc : c = n := by omega
  subst hc
  simp only [spec_l10At.l0, Int.lt_irrefl, if_false]
  exact Ev.now _
 | succ d ih =>
  intro c h
  refine Ev.succ ?_
  have hi := ih (c + 1) (by omega)
  have hp := pars_len n l a c
  simp only [spec_l10At.l0, if_pos (show (c : Int) < n by omega)]
  refine Ev.bind (specNear_ev l c hb) ?_
  rw [near_same hx, Int.toNat_natCast]
  have hq := nearM_len n l c
  have := specAt_l1 n l hb (fun x hm => ⟨(hx x hm).1, (hx x hm).2.1, (hx x hm).2.2.1⟩) a c (by omega) (by omega) (farsM n l a) (pars n l a c) (farsM_len ..) (by omega) (pars n l a n) (nearM n l c) [] (-1) (by rw [List.nil_append]; omega) (fun u hu => nearM_in _ _ _ _ hu)
  refine this ?_
  simp only [if_pos (show (-1 : Int) < 0 by omega), wrap_id (show (-9223372036854775808 : Int) ≤ c + 1 by omega) (show ((c : Int) + 1 ≤ 9223372036854775807) by omega)]
  rw [pars_succ] at hi
  exact hi
theorem implAt_l0 (n : Nat) (hn : n ≤ 1000) (l : List S79) (hl : l.length ≤ 1048576) (hgood : goodE n l = true) (a : Int) (d : Nat) : ∀ (c : Nat), c + d = n →
  Ev (fun k => impl_treeAt.l0 k n l a (farsM n l a) (pars n l a c ++ List.replicate d 0) n c) (pars n l a n) := by
 induction d with
 | zero =>
  intro c h
  refine Ev.succ ?_
  have hc : c = n := by omega
  subst hc
  simp only [impl_treeAt.l0, Int.lt_irrefl, if_false, List.replicate_zero, List.append_nil]
  exact Ev.now _
 | succ d ih =>
  intro c h
  refine Ev.succ ?_
  have hi := ih (c + 1) (by omega)
  have hp := pars_len n l a c
  have hlen : ((pars n l a c ++ List.replicate (d + 1) (0 : Int)).length : Int) = n := by simp [hp]; omega
  simp only [impl_treeAt.l0, hlen, if_pos (show (c : Int) < n by omega), if_pos (show (0 : Int) ≤ c by omega), Option.bind_some, wrap_id (show (-9223372036854775808 : Int) ≤ c + 1 by omega) (show ((c : Int) + 1 ≤ 9223372036854775807) by omega)]
  have hh := implHops_ev (n : Int) l c a hl hgood (by omega) (by omega)
  rw [Int.toNat_natCast] at hh
  refine Ev.bind hh ?_
  have hs := fun y => set_mid (pars n l a c) (0 : Int) y (List.replicate d 0)
  have hs2 := fun x y => set_mid (pars n l a c) (x : Int) y (List.replicate d 0)
  rw [hp] at hs hs2
  rw [List.replicate_succ, hs]
  rw [pars_succ] at hi
  by_cases h1 : (c : Int) = a
  ·simp only [if_pos h1]
   rw [parM, if_pos h1, ← app_one] at hi
   exact hi
  ·simp only [if_neg h1]
   rw [parM, if_neg h1, ← app_one] at hi
   by_cases h2 : ((hopsM n l c a).length : Int) > 0
   ·simp only [if_pos h2, if_pos (show (0 : Int) < ((hopsM n l c a).length : Int) from h2)]
    rw [hs2]
    rw [show rd (hopsM n l c a) 0 = (hopsM n l c a).headD (-1) from ?_]
    ·exact hi
    ·cases hm : hopsM n l c a with
     | nil => rw [hm] at h2; simp at h2
     | cons x r => rfl
   ·simp only [if_neg h2]
    rw [show (hopsM n l c a).headD (-1) = -1 from ?_] at hi
    ·exact hi
    ·cases hm : hopsM n l c a with
     | nil => rfl
     | cons x r => rw [hm] at h2; simp at h2
def treeAt (n : Int) (l : List S79) (v : Int) : List Int × Bool := if goodE n l = true then (if 0 ≤ v ∧ v ≤ wrap64 (n - 1) then (pars n.toNat l v n.toNat, true) else ([], false)) else ([], false)
theorem treeAt_len (n : Int) (l : List S79) (v : Int) : (treeAt n l v).1.length ≤ 12 := by
 unfold treeAt
 split
 ·rename_i h
  have := goodE_n h
  have := pars_len n.toNat l v n.toNat
  split
  ·show (pars n.toNat l v n.toNat).length ≤ 12
   omega
  ·simp
 ·simp
theorem specTreeAt_ev (n : Int) (l : List S79) (v : Int) (hl : l.length ≤ 1048576) : Ev (fun k => spec_TreeAt.f k n l v) (treeAt n l v) := by
 unfold spec_TreeAt.f treeAt
 refine Ev.bind (specGoodE_ev n l hl) ?_
 by_cases h : goodE n l = true
 ·have hn := goodE_n h
  simp only [if_pos h, specIn, Option.bind_some]
  by_cases hv : 0 ≤ v ∧ v ≤ wrap64 (n - 1)
  ·simp only [if_pos hv, decide_eq_true_eq]
   rw [top_is hn.1 hn.2.1] at hv
   have hg := goodE_edge h
   obtain ⟨m, rfl⟩ := Int.eq_ofNat_of_zero_le (show 0 ≤ n by omega)
   rw [Int.toNat_natCast]
   have h1 : Ev (fun k => spec_l10At.f k m l v) (pars m l v m) := by
    unfold spec_l10At.f
    have := specFars_ev (m : Int) l v (by omega) (by omega) (edge3 h) hv.1 (by omega)
    rw [Int.toNat_natCast] at this
    refine Ev.bind this ?_
    exact specAt_l0 m (by omega) l (by omega) hg v m 0 (by omega)
   refine Ev.bind h1 ?_
   exact Ev.now _
  ·simp only [if_neg hv, decide_eq_true_eq]
   exact Ev.now _
 ·simp only [if_neg h]
  exact Ev.now _
theorem implTreeAt_ev (n : Int) (l : List S79) (v : Int) (hl : l.length ≤ 1048576) : Ev (fun k => impl_TreeAt.f k n l v) (treeAt n l v) := by
 unfold impl_TreeAt.f treeAt
 have hga := goodAt_ev n l [v] hl (by simp)
 rw [allIn1] at hga
 by_cases h : goodE n l = true
 ·have hn := goodE_n h
  by_cases hv : 0 ≤ v ∧ v ≤ wrap64 (n - 1)
  ·rw [h, decide_eq_true hv, Bool.true_and] at hga
   refine Ev.bind hga ?_
   simp only [if_true]
   rw [if_pos h, if_pos hv]
   rw [top_is hn.1 hn.2.1] at hv
   obtain ⟨m, rfl⟩ := Int.eq_ofNat_of_zero_le (show 0 ≤ n by omega)
   rw [Int.toNat_natCast]
   have h1 : Ev (fun k => impl_treeAt.f k m l v) (pars m l v m) := by
    unfold impl_treeAt.f
    have := implFars_ev (m : Int) l v (by omega) (by omega) (edge3 h) hv.1 (by omega)
    rw [Int.toNat_natCast] at this
    refine Ev.bind this ?_
    simp only [Int.toNat_natCast, if_pos (show (0 : Int) ≤ (m : Int) by omega), if_pos (show m ≤ 35184372088832 by omega), Option.bind_some, List.length_replicate]
    exact implAt_l0 m (by omega) l hl h v m 0 (by omega)
   refine Ev.bind h1 ?_
   exact Ev.now _
  ·rw [h, decide_eq_false hv, Bool.true_and] at hga
   refine Ev.bind hga ?_
   simp only [Bool.false_eq_true, if_false]
   rw [if_pos h, if_neg hv]
   exact Ev.now _
 ·rw [Bool.eq_false_iff.2 h, Bool.false_and] at hga
  refine Ev.bind hga ?_
  simp only [Bool.false_eq_true, if_false]
  rw [if_neg h]
  exact Ev.now _
-- what one round of shortening does to one node
def sane (x : List Int) : Prop := ∀ v : Int, 0 ≤ rd x v ∧ rd x v ≤ 100000
def offer (old : List Int) (v m : Int) (e : S79) : Int := if e.f0 = v then min m (rd old e.f1 + e.f2) else if e.f1 = v then min m (rd old e.f0 + e.f2) else m
theorem rd_setI {x : List Int} {i v : Int} (hi : 0 ≤ i) (h1 : i < x.length) (hv : 0 ≤ v) (y : Int) : rd (x.set i.toNat y) v = if v = i then y else rd x v := by
 unfold rd
 rw [List.getD_eq_getElem?_getD, List.getD_eq_getElem?_getD, List.getElem?_set]
 by_cases h : v = i
 ·subst h
  rw [if_pos rfl, if_pos rfl, if_pos (by omega)]
  rfl
 ·rw [if_neg (by omega), if_neg h]
theorem relStep_at {old out : List Int} {e : S79} (hs : sane old) (he : 0 ≤ e.f0 ∧ e.f0 < e.f1 ∧ e.f1 < out.length ∧ 1 ≤ e.f2 ∧ e.f2 ≤ 100) (v : Int) (hv : 0 ≤ v) : rd (relStep old out e) v = offer old v (rd out v) e := by
 have a := hs e.f0
 have b := hs e.f1
 unfold relStep offer
 rw [rd_setI (by omega) (by rw [List.length_set]; omega) hv, rd_setI (by omega) (by omega) (by omega), rd_setI (by omega) (by omega) hv, wrap_id (by omega) (by omega), if_neg (show ¬ e.f1 = e.f0 by omega)]
 by_cases h0 : e.f0 = v
 ·rw [if_pos h0, if_neg (by omega), if_pos h0.symm, h0]
 ·rw [if_neg h0]
  by_cases h1 : e.f1 = v
  ·rw [if_pos h1, if_pos h1.symm, wrap_id (by omega) (by omega), h1]
  ·rw [if_neg h1, if_neg (fun c => h1 (Eq.symm c)), if_neg (fun c => h0 (Eq.symm c))]
theorem relFold_at {old : List Int} (hs : sane old) (v : Int) (hv : 0 ≤ v) : ∀ (l : List S79) (out : List Int), (∀ e ∈ l, 0 ≤ e.f0 ∧ e.f0 < e.f1 ∧ e.f1 < out.length ∧ 1 ≤ e.f2 ∧ e.f2 ≤ 100) → rd (l.foldl (relStep old) out) v = l.foldl (offer old v) (rd out v)
 | [], _, _ => rfl
 | e :: l, out, h => by
  rw [List.foldl_cons, List.foldl_cons, relFold_at hs v hv l (relStep old out e) (fun x hx => by rw [relStep_len]; exact h x (List.mem_cons_of_mem _ hx)), relStep_at hs (h e (List.mem_cons_self ..)) v hv]
theorem offer_le (old : List Int) (v m : Int) (e : S79) : offer old v m e ≤ m := by
 unfold offer
 split
 ·omega
 ·split <;> omega
theorem offers_le (old : List Int) (v : Int) : ∀ (l : List S79) (m : Int), l.foldl (offer old v) m ≤ m
 | [], m => Int.le_refl m
 | e :: l, m => by
  rw [List.foldl_cons]
  have := offers_le old v l (offer old v m e)
  have := offer_le old v m e
  omega
/-- the value is what stood there, or what an edge offers -/
theorem offers_is (old : List Int) (v : Int) : ∀ (l : List S79) (m : Int), l.foldl (offer old v) m = m ∨ ∃ e ∈ l, (e.f0 = v ∧ l.foldl (offer old v) m = rd old e.f1 + e.f2) ∨ (e.f1 = v ∧ l.foldl (offer old v) m = rd old e.f0 + e.f2)
 | [], m => .inl rfl
 | e :: l, m => by
  rw [List.foldl_cons]
  rcases offers_is old v l (offer old v m e) with h | ⟨x, hx, h⟩
  ·by_cases h0 : e.f0 = v
   ·rw [show offer old v m e = min m (rd old e.f1 + e.f2) by unfold offer; rw [if_pos h0]] at h ⊢
    by_cases c : m ≤ rd old e.f1 + e.f2
    ·exact .inl (by rw [h, Int.min_eq_left c])
    ·exact .inr ⟨e, List.mem_cons_self .., .inl ⟨h0, by rw [h, Int.min_eq_right (by omega)]⟩⟩
   ·by_cases h1 : e.f1 = v
    ·rw [show offer old v m e = min m (rd old e.f0 + e.f2) by unfold offer; rw [if_neg h0, if_pos h1]] at h ⊢
     by_cases c : m ≤ rd old e.f0 + e.f2
     ·exact .inl (by rw [h, Int.min_eq_left c])
     ·exact .inr ⟨e, List.mem_cons_self .., .inr ⟨h1, by rw [h, Int.min_eq_right (by omega)]⟩⟩
    ·rw [show offer old v m e = m by unfold offer; rw [if_neg h0, if_neg h1]] at h ⊢
     exact .inl h
  ·exact .inr ⟨x, List.mem_cons_of_mem _ hx, h⟩
/-- no edge offers less -/
theorem offers_min (old : List Int) (v : Int) : ∀ (l : List S79) (m : Int), (∀ x ∈ l, x.f0 < x.f1) → ∀ e ∈ l, (e.f0 = v → l.foldl (offer old v) m ≤ rd old e.f1 + e.f2) ∧ (e.f1 = v → l.foldl (offer old v) m ≤ rd old e.f0 + e.f2)
 | [], _, _, e, he => by simp at he
 | x :: l, m, hx, e, he => by
  rw [List.foldl_cons]
  rcases List.mem_cons.1 he with rfl | he
  ·have h := offers_le old v l (offer old v m e)
   have hlt := hx e (List.mem_cons_self ..)
   constructor
   ·intro h0
    have : offer old v m e = min m (rd old e.f1 + e.f2) := by unfold offer; rw [if_pos h0]
    omega
   ·intro h1
    have : offer old v m e = min m (rd old e.f0 + e.f2) := by unfold offer; rw [if_neg (by omega), if_pos h1]
    omega
  ·exact offers_min old v l _ (fun y hy => hx y (List.mem_cons_of_mem _ hy)) e he
-- as many rounds as there are nodes are enough
def fr (n : Nat) (l : List S79) (a : Int) (k : Nat) : List Int := farsIt l k (fars0 n a)
theorem farsIt_succ (l : List S79) : ∀ (k : Nat) (x : List Int), farsIt l (k + 1) x = relaxM l (farsIt l k x)
 | 0, _ => rfl
 | k + 1, x => by rw [farsIt, farsIt_succ l k (relaxM l x), farsIt]
theorem fr_succ (n : Nat) (l : List S79) (a : Int) (k : Nat) : fr n l a (k + 1) = relaxM l (fr n l a k) := farsIt_succ l k _
theorem fr_len (n : Nat) (l : List S79) (a : Int) (k : Nat) : (fr n l a k).length = n := by unfold fr; rw [farsIt_len, fars0_len]
def okE (n : Nat) (l : List S79) : Prop := ∀ e ∈ l, 0 ≤ e.f0 ∧ e.f0 < e.f1 ∧ e.f1 < n ∧ 1 ≤ e.f2 ∧ e.f2 ≤ 100
theorem rd_out {x : List Int} {v : Int} (h : (x.length : Int) ≤ v) : rd x v = 0 := by
 unfold rd
 rw [List.getD_eq_getElem?_getD, List.getElem?_eq_none (by omega)]
 rfl
theorem fars0_at (n : Nat) (a v : Int) (ha : 0 ≤ a) (ha1 : a < n) (hv : 0 ≤ v) (hv1 : v < n) : rd (fars0 n a) v = if v = a then 0 else 100000 := by
 unfold fars0
 rw [rd_setI ha (by rw [List.length_replicate]; exact ha1) hv]
 by_cases h : v = a
 ·rw [if_pos h, if_pos h]
 ·rw [if_neg h, if_neg h]
  unfold rd
  rw [List.getD_eq_getElem?_getD, List.getElem?_replicate, if_pos (by omega)]
  rfl
theorem sane_of {x : List Int} (h : ∀ v : Int, 0 ≤ v → v < x.length → 0 ≤ rd x v ∧ rd x v ≤ 100000) : sane x := by
 intro v
 by_cases hv : 0 ≤ v
 ·by_cases h1 : v < x.length
  ·exact h v hv h1
  ·rw [rd_out (by omega)]
   omega
 ·have e : rd x v = rd x 0 := by
   unfold rd
   rw [show v.toNat = (0 : Int).toNat by omega]
  rw [e]
  by_cases h1 : (0 : Int) < x.length
  ·exact h 0 (by omega) h1
  ·rw [rd_out (by omega)]
   omega
theorem fr_at (n : Nat) (l : List S79) (a : Int) (hl : okE n l) (k : Nat) (hs : sane (fr n l a k)) (v : Int) (hv : 0 ≤ v) : rd (fr n l a (k + 1)) v = l.foldl (offer (fr n l a k) v) (rd (fr n l a k) v) := by
 rw [fr_succ, relaxM, relFold_at hs v hv l _ (fun e he => by rw [fr_len]; exact hl e he)]
theorem fr_sane (n : Nat) (l : List S79) (a : Int) (hl : okE n l) (ha : 0 ≤ a) (ha1 : a < n) : ∀ k, sane (fr n l a k)
 | 0 => sane_of fun v hv hv1 => by
  rw [fr_len] at hv1
  show 0 ≤ rd (fars0 n a) v ∧ rd (fars0 n a) v ≤ 100000
  rw [fars0_at n a v ha ha1 hv hv1]
  split <;> omega
 | k + 1 => sane_of fun v hv hv1 => by
  have hs := fr_sane n l a hl ha ha1 k
  rw [fr_at n l a hl k hs v hv]
  have h1 := offers_le (fr n l a k) v l (rd (fr n l a k) v)
  have h2 := hs v
  refine ⟨?_, by omega⟩
  rcases offers_is (fr n l a k) v l (rd (fr n l a k) v) with h | ⟨e, he, h⟩
  ·omega
  ·have := hl e he
   have := hs e.f0
   have := hs e.f1
   omega
/-- an edge between two nodes, with its cost -/
def adj (l : List S79) (v u c : Int) : Prop := ∃ e ∈ l, ((e.f0 = v ∧ e.f1 = u) ∨ (e.f1 = v ∧ e.f0 = u)) ∧ e.f2 = c
theorem adj_in {n : Nat} {l : List S79} (hl : okE n l) {v u c : Int} (h : adj l v u c) : 0 ≤ v ∧ v < n ∧ 0 ≤ u ∧ u < n ∧ v ≠ u ∧ 1 ≤ c ∧ c ≤ 100 := by
 obtain ⟨e, he, h, rfl⟩ := h
 have := hl e he
 omega
theorem fr_mono (n : Nat) (l : List S79) (a : Int) (hl : okE n l) (ha : 0 ≤ a) (ha1 : a < n) (k : Nat) (v : Int) (hv : 0 ≤ v) : rd (fr n l a (k + 1)) v ≤ rd (fr n l a k) v := by
 rw [fr_at n l a hl k (fr_sane n l a hl ha ha1 k) v hv]
 exact offers_le ..
theorem fr_mono2 (n : Nat) (l : List S79) (a : Int) (hl : okE n l) (ha : 0 ≤ a) (ha1 : a < n) (v : Int) (hv : 0 ≤ v) (j : Nat) : ∀ d, rd (fr n l a (j + d)) v ≤ rd (fr n l a j) v
 | 0 => Int.le_refl _
 | d + 1 => Int.le_trans (fr_mono n l a hl ha ha1 (j + d) v hv) (fr_mono2 n l a hl ha ha1 v hv j d)
theorem fr_min (n : Nat) (l : List S79) (a : Int) (hl : okE n l) (ha : 0 ≤ a) (ha1 : a < n) (k : Nat) {v u c : Int} (h : adj l v u c) : rd (fr n l a (k + 1)) v ≤ rd (fr n l a k) u + c := by
 have hin := adj_in hl h
 rw [fr_at n l a hl k (fr_sane n l a hl ha ha1 k) v hin.1]
 obtain ⟨e, he, h, rfl⟩ := h
 have := offers_min (fr n l a k) v l (rd (fr n l a k) v) (fun x hx => (hl x hx).2.1) e he
 rcases h with ⟨h0, rfl⟩ | ⟨h0, rfl⟩
 ·exact this.1 h0
 ·exact this.2 h0
theorem fr_is (n : Nat) (l : List S79) (a : Int) (hl : okE n l) (ha : 0 ≤ a) (ha1 : a < n) (k : Nat) (v : Int) (hv : 0 ≤ v) : rd (fr n l a (k + 1)) v = rd (fr n l a k) v ∨ ∃ u c, adj l v u c ∧ rd (fr n l a (k + 1)) v = rd (fr n l a k) u + c := by
 rw [fr_at n l a hl k (fr_sane n l a hl ha ha1 k) v hv]
 rcases offers_is (fr n l a k) v l (rd (fr n l a k) v) with h | ⟨e, he, h | h⟩
 ·exact .inl h
 ·exact .inr ⟨e.f1, e.f2, ⟨e, he, .inl ⟨h.1, rfl⟩, rfl⟩, h.2⟩
 ·exact .inr ⟨e.f0, e.f2, ⟨e, he, .inr ⟨h.1, rfl⟩, rfl⟩, h.2⟩
/-- a label that still falls has a chain of falling labels behind it -/
theorem chain (n : Nat) (l : List S79) (a : Int) (hl : okE n l) (ha : 0 ≤ a) (ha1 : a < n) : ∀ (k : Nat) (v : Int), 0 ≤ v → v < n → rd (fr n l a (k + 1)) v < rd (fr n l a k) v →
  ∃ L : List Int, (v :: L).Nodup ∧ L.length = k + 1 ∧ (∀ w ∈ L, 0 ≤ w ∧ w < n) ∧ ∀ w ∈ L, ∃ j, j ≤ k ∧ rd (fr n l a j) w < rd (fr n l a (k + 1)) v := by
 intro k
 have key : ∀ (k : Nat) (v u c : Int), adj l v u c → rd (fr n l a (k + 1)) v = rd (fr n l a k) u + c → rd (fr n l a (k + 1)) v < rd (fr n l a k) v → ∀ (L : List Int), (u :: L).Nodup → L.length = k → (∀ w ∈ L, 0 ≤ w ∧ w < n) → (∀ w ∈ L, ∃ j, j ≤ k ∧ rd (fr n l a j) w < rd (fr n l a k) u) →
   ∃ L : List Int, (v :: L).Nodup ∧ L.length = k + 1 ∧ (∀ w ∈ L, 0 ≤ w ∧ w < n) ∧ ∀ w ∈ L, ∃ j, j ≤ k ∧ rd (fr n l a j) w < rd (fr n l a (k + 1)) v := by
  intro k v u c hadj he hlt L hn hlen hin hw
  have ha' := adj_in hl hadj
  have all : ∀ w ∈ u :: L, ∃ j, j ≤ k ∧ rd (fr n l a j) w < rd (fr n l a (k + 1)) v := by
   intro w hm
   rcases List.mem_cons.1 hm with rfl | hm
   ·exact ⟨k, Nat.le_refl k, by omega⟩
   ·obtain ⟨j, hj, h⟩ := hw w hm
    exact ⟨j, hj, by omega⟩
  refine ⟨u :: L, List.nodup_cons.2 ⟨fun hv => ?_, hn⟩, by rw [List.length_cons, hlen], fun w hm => ?_, all⟩
  ·obtain ⟨j, hj, h⟩ := all v hv
   have := fr_mono2 n l a hl ha ha1 v ha'.1 j (k + 1 - j)
   rw [show j + (k + 1 - j) = k + 1 by omega] at this
   omega
  ·rcases List.mem_cons.1 hm with rfl | hm
   ·exact ⟨ha'.2.2.1, ha'.2.2.2.1⟩
   ·exact hin w hm
 induction k with
 | zero =>
  intro v hv hv1 hlt
  rcases fr_is n l a hl ha ha1 0 v hv with h | ⟨u, c, hadj, he⟩
  ·omega
  ·exact key 0 v u c hadj he hlt [] (by simp) rfl (fun w hw => by simp at hw) (fun w hw => by simp at hw)
 | succ k ih =>
  intro v hv hv1 hlt
  rcases fr_is n l a hl ha ha1 (k + 1) v hv with h | ⟨u, c, hadj, he⟩
  ·omega
  ·have ha' := adj_in hl hadj
   have hu : rd (fr n l a (k + 1)) u < rd (fr n l a k) u := by
    have := fr_min n l a hl ha ha1 k hadj
    omega
   obtain ⟨L, h1, h2, h3, h4⟩ := ih u ha'.2.2.1 ha'.2.2.2.1 hu
   exact key (k + 1) v u c hadj he hlt L h1 h2 h3 (fun w hm => by obtain ⟨j, hj, h⟩ := h4 w hm; exact ⟨j, by omega, h⟩)
theorem fr_still (n : Nat) (l : List S79) (a : Int) (hl : okE n l) (ha : 0 ≤ a) (ha1 : a < n) (k : Nat) (hk : n ≤ k + 1) (v : Int) (hv : 0 ≤ v) (hv1 : v < n) : rd (fr n l a (k + 1)) v = rd (fr n l a k) v := by
 have h1 := fr_mono n l a hl ha ha1 k v hv
 by_cases h : rd (fr n l a (k + 1)) v < rd (fr n l a k) v
 ·obtain ⟨L, hn, hlen, hin, _⟩ := chain n l a hl ha ha1 k v hv hv1 h
  have := nodup_le (v :: L) (own0 n) hn (fun x hx => by
   rw [own0_mem]
   rcases List.mem_cons.1 hx with rfl | hx
   ·exact ⟨hv, hv1⟩
   ·exact hin x hx)
  rw [own0_len, List.length_cons, hlen] at this
  omega
 ·omega
theorem farsM_fr (n : Nat) (l : List S79) (a : Int) : farsM n l a = fr n l a n := rfl
/-- no edge shortens what is settled -/
theorem fars_min {n : Nat} {l : List S79} {a : Int} (hl : okE n l) (ha : 0 ≤ a) (ha1 : a < n) {v u c : Int} (h : adj l v u c) : rd (farsM n l a) v ≤ rd (farsM n l a) u + c := by
 have hin := adj_in hl h
 rw [farsM_fr, ← fr_still n l a hl ha ha1 n (by omega) v hin.1 hin.2.1]
 exact fr_min n l a hl ha ha1 n h
theorem fars_self {n : Nat} {l : List S79} {a : Int} (hl : okE n l) (ha : 0 ≤ a) (ha1 : a < n) : rd (farsM n l a) a = 0 := by
 have h := fr_mono2 n l a hl ha ha1 a ha 0 n
 rw [Nat.zero_add] at h
 have h0 : rd (fr n l a 0) a = 0 := by
  show rd (fars0 n a) a = 0
  rw [fars0_at n a a ha ha1 ha ha1, if_pos rfl]
 have := (fr_sane n l a hl ha ha1 n a).1
 rw [farsM_fr]
 omega
/-- a node that is reached has a next hop -/
theorem fars_hop {n : Nat} {l : List S79} {a : Int} (hl : okE n l) (ha : 0 ≤ a) (ha1 : a < n) {v : Int} (hv : 0 ≤ v) (hv1 : v < n) (hne : v ≠ a) (hlt : rd (farsM n l a) v < 100000) : ∃ u c, adj l v u c ∧ rd (farsM n l a) v = rd (farsM n l a) u + c := by
 have gen : ∀ k, k ≤ n → rd (fr n l a k) v = rd (farsM n l a) v → ∃ u c, adj l v u c ∧ rd (farsM n l a) v = rd (farsM n l a) u + c := by
  intro k
  induction k with
  | zero =>
   intro _ he
   have : rd (fr n l a 0) v = 100000 := by
    show rd (fars0 n a) v = 100000
    rw [fars0_at n a v ha ha1 hv hv1, if_neg hne]
   omega
  | succ k ih =>
   intro hk he
   rcases fr_is n l a hl ha ha1 k v hv with h | ⟨u, c, hadj, h⟩
   ·exact ih (by omega) (by rw [← h]; exact he)
   ·refine ⟨u, c, hadj, ?_⟩
    have h1 := fars_min hl ha ha1 hadj
    have h2 := fr_mono2 n l a hl ha ha1 u (adj_in hl hadj).2.2.1 k (n - k)
    rw [show k + (n - k) = n by omega, ← farsM_fr] at h2
    omega
 exact gen n (Nat.le_refl n) rfl
-- the ways of least cost: what the settled labels say of them
theorem okE_of {n : Int} {l : List S79} (h : goodE n l = true) : okE n.toNat l := fun e he => by
 have := goodE_edge h e he
 have := goodE_n h
 omega
theorem pair_uniq {α β : Type} {R : α → α → Prop} (k : α → β) (hk : ∀ x y, R x y → k x ≠ k y) : ∀ (l : List α), l.Pairwise R → ∀ x ∈ l, ∀ y ∈ l, k x = k y → x = y
 | [], _, x, hx, _, _, _ => by simp at hx
 | a :: l, h, x, hx, y, hy, e => by
  obtain ⟨h1, h2⟩ := List.pairwise_cons.1 h
  rcases List.mem_cons.1 hx with e1 | hx2
  ·rcases List.mem_cons.1 hy with e2 | hy2
   ·rw [e1, e2]
   ·subst e1
    exact absurd e (hk _ _ (h1 y hy2))
  ·rcases List.mem_cons.1 hy with e2 | hy2
   ·subst e2
    exact absurd e.symm (hk _ _ (h1 x hx2))
   ·exact pair_uniq k hk l h2 x hx2 y hy2 e
theorem adj_cost {n : Int} {l : List S79} (h : goodE n l = true) {v u c : Int} (ha : adj l v u c) : costM l v u = c := by
 obtain ⟨e, he, hv, rfl⟩ := ha
 have h1 := goodE_edge h e he
 have hat : isAt v u e = true := by
  unfold isAt
  rw [decide_eq_true_eq]
  omega
 unfold costM
 cases hf : l.find? (isAt v u) with
 | none =>
  have := List.find?_eq_none.1 hf e he
  exact absurd hat this
 | some x =>
  have hx := List.mem_of_find?_eq_some hf
  have h2 := List.find?_some hf
  unfold isAt at h2 hat
  rw [decide_eq_true_eq] at h2 hat
  have := pair_uniq (fun x : S79 => (x.f0, x.f1)) (fun x y hR he => by
   simp only [Prod.mk.injEq] at he
   omega) l (goodE_pair h) x hx e he (by simp only [Prod.mk.injEq]; omega)
  rw [this]
theorem cost_adj {n : Int} {l : List S79} (h : goodE n l = true) {v u : Int} (hc : costM l v u > 0) : adj l v u (costM l v u) := by
 unfold costM at hc ⊢
 cases hf : l.find? (isAt v u) with
 | none => rw [hf] at hc; exact absurd hc (by simp)
 | some x =>
  have hx := List.mem_of_find?_eq_some hf
  have h2 := List.find?_some hf
  unfold isAt at h2
  rw [decide_eq_true_eq] at h2
  exact ⟨x, hx, by omega, rfl⟩
theorem hops_mem {n : Int} {l : List S79} (h : goodE n l = true) {a : Int} (ha : 0 ≤ a) (ha1 : a < n) {v u : Int} (hm : u ∈ hopsGo l v (farsM n.toNat l a) (nearM n.toNat l v)) :
  0 ≤ u ∧ u < n ∧ adj l v u (costM l v u) ∧ rd (farsM n.toNat l a) v < 100000 ∧ rd (farsM n.toNat l a) v = rd (farsM n.toNat l a) u + costM l v u := by
 unfold hopsGo at hm
 obtain ⟨h1, h2⟩ := List.mem_filter.1 hm
 rw [decide_eq_true_eq] at h2
 have hin := nearM_in _ _ _ _ h1
 unfold nearM at h1
 have hc := (List.mem_filter.1 h1).2
 rw [decide_eq_true_eq] at hc
 have had := cost_adj h hc
 have h3 := adj_in (okE_of h) had
 have hs := fr_sane n.toNat l a (okE_of h) ha (by omega) n.toNat u
 rw [← farsM_fr] at hs
 rw [wrap_id (by omega) (by omega)] at h2
 exact ⟨hin.1, by omega, had, h2.1, h2.2.symm⟩
theorem hops_some {n : Int} {l : List S79} (h : goodE n l = true) {a : Int} (ha : 0 ≤ a) (ha1 : a < n) {v : Int} (hv : 0 ≤ v) (hv1 : v < n) (hne : v ≠ a) (hlt : rd (farsM n.toNat l a) v < 100000) :
  ∃ u t, hopsGo l v (farsM n.toNat l a) (nearM n.toNat l v) = u :: t := by
 obtain ⟨u, c, had, he⟩ := fars_hop (okE_of h) ha (by omega) hv (by omega) hne hlt
 have h3 := adj_in (okE_of h) had
 have hc := adj_cost h had
 have hs := fr_sane n.toNat l a (okE_of h) ha (by omega) n.toNat u
 rw [← farsM_fr] at hs
 have hm : u ∈ hopsGo l v (farsM n.toNat l a) (nearM n.toNat l v) := by
  unfold hopsGo
  refine List.mem_filter.2 ⟨?_, ?_⟩
  ·unfold nearM
   refine List.mem_filter.2 ⟨(own0_mem _ _).2 ⟨h3.2.2.1, h3.2.2.2.1⟩, ?_⟩
   rw [decide_eq_true_eq, hc]
   omega
  ·rw [decide_eq_true_eq, hc, wrap_id (by omega) (by omega)]
   exact ⟨hlt, he.symm⟩
 cases hl : hopsGo l v (farsM n.toNat l a) (nearM n.toNat l v) with
 | nil => rw [hl] at hm; simp at hm
 | cons u t => exact ⟨u, t, rfl⟩
/-- the way on from a node, with a bound on its steps -/
def wayGo (n : Nat) (l : List S79) (F : List Int) (b : Int) : Nat → Int → List Int
 | 0, _ => []
 | d + 1, v => if v = b then [] else rd (hopsGo l v F (nearM n l v)) 0 :: wayGo n l F b d (rd (hopsGo l v F (nearM n l v)) 0)
theorem way_step {n : Int} {l : List S79} (h : goodE n l = true) {b : Int} (hb : 0 ≤ b) (hb1 : b < n) {v : Int} (hv : 0 ≤ v) (hv1 : v < n) (hne : v ≠ b) (hlt : rd (farsM n.toNat l b) v < 100000) :
  ∃ u t, hopsGo l v (farsM n.toNat l b) (nearM n.toNat l v) = u :: t ∧ 0 ≤ u ∧ u < n ∧ rd (farsM n.toNat l b) u < rd (farsM n.toNat l b) v ∧ adj l v u (costM l v u) ∧ rd (farsM n.toNat l b) v = rd (farsM n.toNat l b) u + costM l v u ∧ 0 ≤ rd (farsM n.toNat l b) u := by
 obtain ⟨u, t, e⟩ := hops_some h hb hb1 hv hv1 hne hlt
 have hm : u ∈ hopsGo l v (farsM n.toNat l b) (nearM n.toNat l v) := by rw [e]; exact List.mem_cons_self ..
 obtain ⟨h0, h1, h2, h3, h4⟩ := hops_mem h hb hb1 hm
 have h5 := adj_in (okE_of h) h2
 have hs := fr_sane n.toNat l b (okE_of h) hb (by omega) n.toNat u
 rw [← farsM_fr] at hs
 exact ⟨u, t, e, h0, h1, by omega, h2, h4, hs.1⟩
/-- a walk over edges, with its cost -/
inductive Walk (l : List S79) : Int → Int → Int → Prop
 | nil (v : Int) : Walk l v v 0
 | cons {v u b c d : Int} : adj l v u c → Walk l u b d → Walk l v b (c + d)
theorem adj_symm {l : List S79} {v u c : Int} (h : adj l v u c) : adj l u v c := by
 obtain ⟨e, he, h, rfl⟩ := h
 exact ⟨e, he, h.elim (fun x => .inr ⟨x.2, x.1⟩) (fun x => .inl ⟨x.2, x.1⟩), rfl⟩
theorem walk_of {n : Int} {l : List S79} (h : goodE n l = true) {b : Int} (hb : 0 ≤ b) (hb1 : b < n) : ∀ (d : Nat) (v : Int), 0 ≤ v → v < n → rd (farsM n.toNat l b) v < 100000 → rd (farsM n.toNat l b) v ≤ d → Walk l v b (rd (farsM n.toNat l b) v)
 | 0, v, hv, hv1, hlt, hd => by
  by_cases hne : v = b
  ·subst hne
   rw [fars_self (okE_of h) hv (by omega)]
   exact .nil v
  ·obtain ⟨u, t, _, _, _, h5, _, _, h6⟩ := way_step h hb hb1 hv hv1 hne hlt
   omega
 | d + 1, v, hv, hv1, hlt, hd => by
  by_cases hne : v = b
  ·subst hne
   rw [fars_self (okE_of h) hv (by omega)]
   exact .nil v
  ·obtain ⟨u, t, _, h0, h1, h5, h6, h7, _⟩ := way_step h hb hb1 hv hv1 hne hlt
   rw [show rd (farsM n.toNat l b) v = costM l v u + rd (farsM n.toNat l b) u by omega]
   exact .cons h6 (walk_of h hb hb1 d u h0 h1 (by omega) (by omega))
theorem fars_sane {n : Int} {l : List S79} (h : goodE n l = true) {b : Int} (hb : 0 ≤ b) (hb1 : b < n) (v : Int) : 0 ≤ rd (farsM n.toNat l b) v ∧ rd (farsM n.toNat l b) v ≤ 100000 := by
 have hs := fr_sane n.toNat l b (okE_of h) hb (by omega) n.toNat v
 rw [← farsM_fr] at hs
 exact hs
-- the way that the first hops make
def wayCost (l : List S79) : Int → List Int → Int
 | _, [] => 0
 | v, u :: r => costM l v u + wayCost l u r
def wayPos (l : List S79) : Int → List Int → Prop
 | _, [] => True
 | v, u :: r => costM l v u > 0 ∧ wayPos l u r
theorem rd_head (u : Int) (t : List Int) : rd (u :: t) 0 = u := rfl
theorem wayGo_at {n : Nat} {l : List S79} {F : List Int} {b : Int} (d : Nat) : wayGo n l F b (d + 1) b = [] := by rw [wayGo, if_pos rfl]
theorem wayGo_cons {n : Nat} {l : List S79} {F : List Int} {b v u : Int} {t : List Int} (d : Nat) (hne : v ≠ b) (e : hopsGo l v F (nearM n l v) = u :: t) : wayGo n l F b (d + 1) v = u :: wayGo n l F b d u := by
 rw [wayGo, if_neg hne, e, rd_head]
structure WayOk (n : Int) (l : List S79) (F : List Int) (b v : Int) (W : List Int) : Prop where
 low : ∀ w ∈ W, 0 ≤ w ∧ w < n ∧ rd F w < rd F v
 nodup : (v :: W).Nodup
 last : (v :: W).getLast? = some b
 cost : wayCost l v W = rd F v
 pos : wayPos l v W
theorem wayGo_ok {n : Int} {l : List S79} (h : goodE n l = true) {b : Int} (hb : 0 ≤ b) (hb1 : b < n) : ∀ (d : Nat) (v : Int), 0 ≤ v → v < n → rd (farsM n.toNat l b) v < 100000 → rd (farsM n.toNat l b) v ≤ d → WayOk n l (farsM n.toNat l b) b v (wayGo n.toNat l (farsM n.toNat l b) b (d + 1) v) := by
 intro d
 induction d with
 | zero =>
  intro v hv hv1 hlt hd
  by_cases hne : v = b
  ·subst hne
   rw [wayGo_at]
   exact ⟨fun w hw => by simp at hw, by simp, rfl, (fars_self (okE_of h) hv (by omega)).symm, trivial⟩
  ·obtain ⟨u, t, _, _, _, h5, _, _, h6⟩ := way_step h hb hb1 hv hv1 hne hlt
   omega
 | succ d ih =>
  intro v hv hv1 hlt hd
  by_cases hne : v = b
  ·subst hne
   rw [wayGo_at]
   exact ⟨fun w hw => by simp at hw, by simp, rfl, (fars_self (okE_of h) hv (by omega)).symm, trivial⟩
  ·obtain ⟨u, t, e, h0, h1, h5, h6, h7, _⟩ := way_step h hb hb1 hv hv1 hne hlt
   rw [wayGo_cons (d + 1) hne e]
   have r := ih u h0 h1 (by omega) (by omega)
   generalize wayGo n.toNat l (farsM n.toNat l b) b (d + 1) u = W at r
   have hlow : ∀ w ∈ u :: W, 0 ≤ w ∧ w < n ∧ rd (farsM n.toNat l b) w < rd (farsM n.toNat l b) v := by
    intro w hw
    rcases List.mem_cons.1 hw with rfl | hw
    ·exact ⟨h0, h1, h5⟩
    ·have := r.low w hw
     exact ⟨this.1, this.2.1, by omega⟩
   refine ⟨hlow, List.nodup_cons.2 ⟨fun hm => ?_, r.nodup⟩, ?_, ?_, ?_, r.pos⟩
   ·have := hlow v hm
    omega
   ·rw [List.getLast?_cons_cons]
    exact r.last
   ·rw [wayCost, r.cost, h7, Int.add_comm]
   ·have := adj_in (okE_of h) h6
    show costM l v u > 0
    omega
theorem way_len {n : Int} {l : List S79} {F : List Int} {b v : Int} {W : List Int} (hv : 0 ≤ v) (hv1 : v < n) (h : WayOk n l F b v W) : W.length + 1 ≤ n.toNat := by
 have := nodup_le (v :: W) (own0 n.toNat) h.nodup (fun x hx => by
  rw [own0_mem]
  rcases List.mem_cons.1 hx with rfl | hx
  ·omega
  ·have := h.low x hx
   omega)
 rw [own0_len, List.length_cons] at this
 exact this
theorem wayCost_le {n : Int} {l : List S79} (h : goodE n l = true) : ∀ (W : List Int) (v : Int), wayCost l v W ≤ 100 * W.length
 | [], _ => by simp [wayCost]
 | u :: W, v => by
  have := wayCost_le h W u
  have hc : costM l v u ≤ 100 := by
   by_cases hp : costM l v u > 0
   ·have := adj_in (okE_of h) (cost_adj h hp)
    omega
   ·omega
  rw [wayCost, List.length_cons]
  omega
theorem fars_small {n : Int} {l : List S79} (h : goodE n l = true) {b : Int} (hb : 0 ≤ b) (hb1 : b < n) {v : Int} (hv : 0 ≤ v) (hv1 : v < n) (hlt : rd (farsM n.toNat l b) v < 100000) : rd (farsM n.toNat l b) v ≤ 1200 := by
 have hs := fars_sane h hb hb1 v
 have r := wayGo_ok h hb hb1 (rd (farsM n.toNat l b) v).toNat v hv hv1 hlt (by omega)
 have h1 := way_len hv hv1 r
 have h2 := wayCost_le h (wayGo n.toNat l (farsM n.toNat l b) b ((rd (farsM n.toNat l b) v).toNat + 1) v) v
 rw [r.cost] at h2
 have := goodE_n h
 omega
/-- far is what cannot be reached -/
theorem fars_adj {n : Int} {l : List S79} (h : goodE n l = true) {b : Int} (hb : 0 ≤ b) (hb1 : b < n) {v u c : Int} (ha : adj l v u c) (hlt : rd (farsM n.toNat l b) u < 100000) : rd (farsM n.toNat l b) v < 100000 := by
 have h1 := adj_in (okE_of h) ha
 have := fars_small h hb hb1 h1.2.2.1 (by omega) hlt
 have := fars_min (okE_of h) hb (by omega) ha
 omega
-- the groups of the program
def prs (l : List S79) : List (Nat × Nat) := l.map fun e => (e.f0.toNat, e.f1.toNat)
theorem prs_in {n : Int} {l : List S79} (h : ∀ x ∈ l, 0 ≤ x.f0 ∧ x.f0 < x.f1 ∧ x.f1 < n) : InG n.toNat (prs l) := by
 intro e he
 unfold prs at he
 obtain ⟨x, hx, rfl⟩ := List.mem_map.1 he
 have := h x hx
 constructor
 ·show x.f0.toNat < n.toNat
  omega
 ·show x.f1.toNat < n.toNat
  omega
def groupsM (n : Int) (l : List S79) : List Int := grp n.toNat (prs l)
theorem stepG_ne {out : List Int} {e : Nat × Nat} (h1 : e.1 < out.length) (h2 : e.2 < out.length) : stepG out e = out ↔ (at_ out e.1 = min (at_ out e.1) (at_ out e.2) ∧ at_ out e.2 = min (at_ out e.1) (at_ out e.2)) := by
 constructor
 ·intro h
  have a1 := stepG_at out e h1 h2 e.1
  have a2 := stepG_at out e h1 h2 e.2
  rw [h] at a1 a2
  simp only [true_or, or_true, if_true] at a1 a2
  exact ⟨a1, a2⟩
 ·intro h
  apply List.ext_getElem?
  intro v
  by_cases hv : v < out.length
  ·have l1 : v < (stepG out e).length := by rw [stepG_len]; exact hv
   have a := stepG_at out e h1 h2 v
   have : at_ (stepG out e) v = at_ out v := by
    rw [a]
    split
    ·rename_i hve
     rcases hve with rfl | rfl
     ·exact h.1.symm
     ·exact h.2.symm
    ·rfl
   unfold at_ at this
   rw [List.getD_eq_getElem?_getD, List.getD_eq_getElem?_getD, List.getElem?_eq_getElem l1, List.getElem?_eq_getElem hv] at this
   rw [List.getElem?_eq_getElem l1, List.getElem?_eq_getElem hv]
   exact congrArg some this
  ·rw [List.getElem?_eq_none (by rw [stepG_len]; omega), List.getElem?_eq_none (by omega)]
theorem round_moved {out : List Int} {e : Nat × Nat} {E : List (Nat × Nat)} (h1 : e.1 < out.length) (h2 : e.2 < out.length) (hE : InG out.length E) (h : stepG out e ≠ out) : roundG E (stepG out e) ≠ out := by
 intro hc
 refine h ((stepG_ne h1 h2).2 ?_)
 have key : ∀ v, at_ out v ≤ at_ (stepG out e) v := fun v => by
  have := roundG_le E (stepG out e) (by rw [stepG_len]; exact hE) v
  rw [hc] at this
  exact this
 have a1 := stepG_at out e h1 h2 e.1
 have a2 := stepG_at out e h1 h2 e.2
 simp only [true_or, or_true, if_true] at a1 a2
 have k1 := key e.1
 have k2 := key e.2
 omega
def pairs (l : List S79) : List (List Int) := l.map fun e => [e.f0, e.f1]
theorem rdLL_mid (pre : List (List Int)) (x : List Int) (suf : List (List Int)) : rd_L6 (pre ++ x :: suf) (pre.length : Int) = x := getD_mid _ pre x suf
theorem implGroups_l2 (P : List (List Int)) (R : List Int) (suf : List S79) : ∀ (pre : List S79) (out : List Int) (b : Bool), pairs (pre ++ suf) = P → (P.length : Int) ≤ 1099511627776 → (∀ x ∈ suf, 0 ≤ x.f0 ∧ x.f0 < x.f1 ∧ x.f1 < out.length) →
  Ev (fun k => impl_groups.l1 k P (roundG (prs suf) out) (b || !decide (roundG (prs suf) out = out))) R →
  Ev (fun k => impl_groups.l2 k P out b P (P.length : Int) (pre.length : Int)) R := by
 induction suf with
 | nil =>
  intro pre out b he hb hx h
  refine Ev.succ ?_
  simp only [impl_groups.l2]
  have c1 : ¬ (pre.length : Int) < (P.length : Int) := by rw [← he]; simp [pairs]
  simp only [if_neg c1]
  have e : roundG (prs []) out = out := rfl
  rw [e] at h
  simpa using h
 | cons x suf ih =>
  intro pre out b he hb hx h
  have hl : P.length = pre.length + suf.length + 1 := by rw [← he]; simp [pairs] <;> omega
  have c1 : (pre.length : Int) < (P.length : Int) := by omega
  have c0 : (0 : Int) ≤ (pre.length : Int) := by omega
  have hr : rd_L6 P (pre.length : Int) = [x.f0, x.f1] := by
   rw [← he]
   have := rdLL_mid (pairs pre) [x.f0, x.f1] (pairs suf)
   unfold pairs at this ⊢
   rw [List.length_map] at this
   simpa using this
  have hxx := hx x (by simp)
  have i1 : x.f0.toNat < out.length := by omega
  have i2 : x.f1.toNat < out.length := by omega
  have hE : InG out.length (prs suf) := by
   have := prs_in (n := (out.length : Int)) (l := suf) (fun y hy => hx y (by simp [hy]))
   simpa using this
  refine Ev.succ ?_
  simp only [impl_groups.l2]
  have r0 : rd [x.f0, x.f1] 0 = x.f0 := rfl
  have r1 : rd [x.f0, x.f1] 1 = x.f1 := rfl
  have q1 : (0 : Int) < (([x.f0, x.f1] : List Int).length : Int) := by simp
  have q2 : (1 : Int) < (([x.f0, x.f1] : List Int).length : Int) := by simp
  simp only [if_pos c1, if_pos c0, hr, if_pos q1, if_pos q2, r0, r1, if_pos (show 0 ≤ x.f0 by omega), if_pos (show x.f0 < (out.length : Int) by omega), if_pos (show 0 ≤ x.f1 by omega), if_pos (show x.f1 < (out.length : Int) by omega), mn_is, wrap_id (x := (pre.length : Int) + 1) (by omega) (by omega)]
  have go : ∀ b2 : Bool, b2 = (b || !decide (stepG out (x.f0.toNat, x.f1.toNat) = out)) →
    Ev (fun k => impl_groups.l2 k P (stepG out (x.f0.toNat, x.f1.toNat)) b2 P (P.length : Int) ((pre.length : Int) + 1)) R := by
   intro b2 hb2
   have h2 := ih (pre ++ [x]) (stepG out (x.f0.toNat, x.f1.toNat)) b2 (by rw [← he]; simp) hb (by rw [stepG_len]; exact fun y hy => hx y (by simp [hy])) (by
    have e : (b2 || !decide (roundG (prs suf) (stepG out (x.f0.toNat, x.f1.toNat)) = stepG out (x.f0.toNat, x.f1.toNat))) = (b || !decide (roundG (prs (x :: suf)) out = out)) := by
     rw [hb2]
     have er : roundG (prs (x :: suf)) out = roundG (prs suf) (stepG out (x.f0.toNat, x.f1.toNat)) := rfl
     rw [er]
     by_cases hs : stepG out (x.f0.toNat, x.f1.toNat) = out
     ·simp only [hs, decide_true, Bool.not_true, Bool.or_false]
     ·have hm := round_moved i1 i2 hE hs
      simp [hs, hm]
    rw [e]
    exact h)
   rw [len_one] at h2
   exact h2
  have hs := stepG_ne (out := out) (e := (x.f0.toNat, x.f1.toNat)) i1 i2
  have es : (out.set x.f0.toNat (min (rd out x.f0) (rd out x.f1))).set x.f1.toNat (min (rd out x.f0) (rd out x.f1)) = stepG out (x.f0.toNat, x.f1.toNat) := rfl
  have e1 : rd out x.f0 = at_ out x.f0.toNat := rfl
  have e2 : rd out x.f1 = at_ out x.f1.toNat := rfl
  rw [es]
  cases b with
  | true =>
   simp only [if_true]
   exact go true (by simp)
  | false =>
   simp only [Bool.false_eq_true, if_false]
   by_cases g1 : rd out x.f0 = min (rd out x.f0) (rd out x.f1)
   ·simp only [if_pos g1]
    refine go _ ?_
    rw [Bool.false_or]
    by_cases g2 : rd out x.f1 = min (rd out x.f0) (rd out x.f1)
    ·have : stepG out (x.f0.toNat, x.f1.toNat) = out := hs.2 ⟨g1, g2⟩
     rw [← g2]
     simp [this]
    ·have : stepG out (x.f0.toNat, x.f1.toNat) ≠ out := fun h => g2 (hs.1 h).2
     simp only [this, decide_false, Bool.not_false]
     rw [bne_iff_ne]
     exact g2
   ·simp only [if_neg g1]
    refine go true ?_
    have : stepG out (x.f0.toNat, x.f1.toNat) ≠ out := fun h => g1 (hs.1 h).1
    simp [this]
theorem implGroups_l1 (l : List S79) (n : Nat) (hb : (l.length : Int) ≤ 1048576) (hx : ∀ x ∈ l, 0 ≤ x.f0 ∧ x.f0 < x.f1 ∧ x.f1 < n) (d : Nat) : ∀ (c : Nat), c + d = n + 1 →
  Ev (fun k => impl_groups.l1 k (pairs l) (iterG (prs l) (own0 n) c) true) (grp n (prs l)) := by
 have hE : InG n (prs l) := by
  have := prs_in (n := (n : Int)) (l := l) hx
  simpa using this
 have stay : ∀ j, iterG (prs l) (own0 n) (n + j) = grp n (prs l) := by
  intro j
  induction j with
  | zero => rfl
  | succ j ihj =>
   show roundG (prs l) (iterG (prs l) (own0 n) (n + j)) = _
   rw [ihj]
   exact iterG_fix hE
 have fixed : ∀ c, c ≤ n → roundG (prs l) (iterG (prs l) (own0 n) c) = iterG (prs l) (own0 n) c → iterG (prs l) (own0 n) c = grp n (prs l) := by
  intro c hc hf
  have : ∀ j, iterG (prs l) (own0 n) (c + j) = iterG (prs l) (own0 n) c := by
   intro j
   induction j with
   | zero => rfl
   | succ j ihj =>
    show roundG (prs l) (iterG (prs l) (own0 n) (c + j)) = _
    rw [ihj]
    exact hf
  have h := this (n - c)
  rw [show c + (n - c) = n by omega] at h
  exact h.symm
 induction d with
 | zero =>
  intro c hc
  have hc : c = n + 1 := by omega
  subst hc
  refine Ev.succ ?_
  simp only [impl_groups.l1, if_true]
  refine implGroups_l2 (pairs l) _ l [] _ false rfl (by simp [pairs]; omega) (by rw [iterG_len, own0_len]; exact hx) ?_
  have e1 : iterG (prs l) (own0 n) (n + 1) = grp n (prs l) := stay 1
  rw [e1, iterG_fix hE]
  simp only [decide_true, Bool.not_true, Bool.or_false]
  refine Ev.succ ?_
  simp only [impl_groups.l1, Bool.false_eq_true, if_false]
  exact Ev.now _
 | succ d ih =>
  intro c hc
  refine Ev.succ ?_
  simp only [impl_groups.l1, if_true]
  refine implGroups_l2 (pairs l) _ l [] _ false rfl (by simp [pairs]; omega) (by rw [iterG_len, own0_len]; exact hx) ?_
  by_cases hf : roundG (prs l) (iterG (prs l) (own0 n) c) = iterG (prs l) (own0 n) c
  ·rw [hf]
   simp only [decide_true, Bool.not_true, Bool.or_false]
   refine Ev.succ ?_
   simp only [impl_groups.l1, Bool.false_eq_true, if_false]
   exact Ev.some_ (fixed c (by omega) hf)
  ·simp only [hf, decide_false, Bool.not_false, Bool.or_true]
   exact ih (c + 1) (by omega)
theorem implGroups_l0 (n : Nat) (hn : n ≤ 1000) (l : List S79) (hb : (l.length : Int) ≤ 1048576) (hx : ∀ x ∈ l, 0 ≤ x.f0 ∧ x.f0 < x.f1 ∧ x.f1 < n) (d : Nat) : ∀ (c : Nat), c + d = n →
  Ev (fun k => impl_groups.l0 k (pairs l) (own0 c ++ List.replicate d 0) (n : Int) (c : Int)) (grp n (prs l)) := by
 induction d with
 | zero =>
  intro c hc
  have hc : c = n := by omega
  subst hc
  refine Ev.succ ?_
  simp only [impl_groups.l0]
  simp only [if_neg (show ¬ (c : Int) < (c : Int) by omega), List.replicate_zero, List.append_nil]
  exact implGroups_l1 l c hb hx (c + 1) 0 (by omega)
 | succ d ih =>
  intro c hc
  refine Ev.succ ?_
  simp only [impl_groups.l0]
  have hl : (own0 c ++ List.replicate (d + 1) (0 : Int)).length = n := by simp [own0_len]; omega
  simp only [if_pos (show (c : Int) < (n : Int) by omega), if_pos (show (0 : Int) ≤ (c : Int) by omega), if_pos (show (c : Int) < ((own0 c ++ List.replicate (d + 1) (0 : Int)).length : Int) by omega), wrap_id (x := (c : Int) + 1) (by omega) (by omega)]
  have h := ih (c + 1) (by omega)
  have e : (own0 c ++ List.replicate (d + 1) (0 : Int)).set ((c : Int)).toNat (c : Int) = own0 (c + 1) ++ List.replicate d 0 := by
   rw [own0_succ, List.replicate_succ]
   have := set_mid (own0 c) (0 : Int) (c : Int) (List.replicate d 0)
   rw [own0_len] at this
   rw [this]
   simp
  rw [e, show ((c : Int)) + 1 = ((c + 1 : Nat) : Int) by omega]
  exact h
theorem implGroups_ev (n : Int) (l : List S79) (h0 : 0 ≤ n) (hn : n ≤ 1000) (hb : (l.length : Int) ≤ 1048576) (hx : ∀ x ∈ l, 0 ≤ x.f0 ∧ x.f0 < x.f1 ∧ x.f1 < n) : Ev (fun k => impl_groups.f k n (pairs l)) (groupsM n l) := by
 obtain ⟨m, rfl⟩ := Int.eq_ofNat_of_zero_le h0
 unfold impl_groups.f groupsM
 simp only [if_pos h0, Int.toNat_natCast, if_pos (show m ≤ 35184372088832 by omega), Option.bind_some, List.length_replicate]
 have h := implGroups_l0 m (by omega) l hb hx m 0 (by omega)
 exact h
theorem implGroupsOf_l0 (n : Int) (R : List Int) (suf : List S79) : ∀ (pre : List S79), ((pre ++ suf).length : Int) ≤ 1048576 → Ev (fun k => impl_groups.f k n (pairs (pre ++ suf))) R →
  Ev (fun k => impl_groupsOf.l0 k n (pairs pre) (pre ++ suf) ((pre ++ suf).length : Int) (pre.length : Int)) R := by
 induction suf with
 | nil =>
  intro pre hb h
  refine Ev.succ ?_
  simp only [impl_groupsOf.l0]
  simp only [if_neg (show ¬ (pre.length : Int) < ((pre ++ ([] : List S79)).length : Int) by simp)]
  rw [List.append_nil] at h
  exact Ev.bind h (Ev.now _)
 | cons x suf ih =>
  intro pre hb h
  have c1 : (pre.length : Int) < ((pre ++ x :: suf).length : Int) := by simp <;> omega
  have c0 : (0 : Int) ≤ (pre.length : Int) := by omega
  have hp : (pairs pre).length < 5864062014805 := by simp [pairs]; omega
  refine Ev.succ ?_
  simp only [impl_groupsOf.l0]
  simp only [if_pos c1, if_pos c0, rdEdge_mid, if_pos hp, wrap_id (x := (pre.length : Int) + 1) (by omega) (by omega)]
  have h2 := ih (pre ++ [x]) (by rw [← app_one]; exact hb) (by rw [← app_one]; exact h)
  rw [← app_one, len_one] at h2
  have e : pairs (pre ++ [x]) = pairs pre ++ [[x.f0, x.f1]] := by simp [pairs]
  rw [e] at h2
  exact h2
theorem implGroupsOf_ev (n : Int) (l : List S79) (h0 : 0 ≤ n) (hn : n ≤ 1000) (hb : (l.length : Int) ≤ 1048576) (hx : ∀ x ∈ l, 0 ≤ x.f0 ∧ x.f0 < x.f1 ∧ x.f1 < n) : Ev (fun k => impl_groupsOf.f k n l) (groupsM n l) := by
 unfold impl_groupsOf.f
 exact implGroupsOf_l0 n _ l [] (by simpa using hb) (implGroups_ev n l h0 hn hb hx)
def groupsOf (n : Int) (l : List S79) : List Int × Bool := if goodE n l = true then (groupsM n l, true) else ([], false)
theorem implGroupsOfTop_ev (n : Int) (l : List S79) (hl : l.length ≤ 1048576) : Ev (fun k => impl_GroupsOf.f k n l) (groupsOf n l) := by
 unfold impl_GroupsOf.f
 refine Ev.bind (implGoodE_ev n l hl) ?_
 unfold groupsOf
 cases hg : goodE n l with
 | false => simp only [Bool.false_eq_true, if_false]; exact Ev.now _
 | true =>
  have hn := goodE_n hg
  simp only [if_true]
  exact Ev.bind (implGroupsOf_ev n l (by omega) (by omega) (by omega) (fun x hx => by have := goodE_edge hg x hx; omega)) (Ev.now _)
-- each edge that joins two groups takes one group away
def lab (n : Nat) (E : List (Nat × Nat)) (v : Nat) : Nat := (at_ (grp n E) v).toNat
theorem lab_ok {n : Nat} {E : List (Nat × Nat)} (hE : InG n E) {v : Nat} (hv : v < n) : at_ (grp n E) v = (lab n E v : Int) ∧ Conn E v (lab n E v) ∧ lab n E v < n ∧ ∀ m, Conn E v m → lab n E v ≤ m := by
 obtain ⟨u, e, c, h, hm⟩ := grp_ok hE hv
 have : lab n E v = u := by unfold lab; rw [e]; rfl
 rw [this]
 exact ⟨e, c, h, hm⟩
theorem lab_same {n : Nat} {E : List (Nat × Nat)} (hE : InG n E) {v w : Nat} (hv : v < n) (h : Conn E v w) : lab n E v = lab n E w := by
 have hw := h.lt hE hv
 have a := lab_ok hE hv
 have b := lab_ok hE hw
 have h1 := a.2.2.2 _ (h.trans b.2.1)
 have h2 := b.2.2.2 _ (h.symm.trans a.2.1)
 omega
theorem conn_iff {n : Nat} {E : List (Nat × Nat)} (hE : InG n E) {v w : Nat} (hv : v < n) (hw : w < n) : Conn E v w ↔ lab n E v = lab n E w := by
 refine ⟨lab_same hE hv, fun h => ?_⟩
 have a := (lab_ok hE hv).2.1
 have b := (lab_ok hE hw).2.1
 rw [← h] at b
 exact a.trans b.symm
-- the labels of good edges
theorem groupsM_at {n : Int} {l : List S79} (h : goodE n l = true) (v : Int) (h0 : 0 ≤ v) (h1 : v < n) : rd (groupsM n l) v = (lab n.toNat (prs l) v.toNat : Int) := by
 have hi := prs_in (fun x hm => ⟨(goodE_edge h x hm).1, (goodE_edge h x hm).2.1, (goodE_edge h x hm).2.2.1⟩)
 exact (lab_ok hi (show v.toNat < n.toNat by omega)).1
theorem conn_far {n : Int} {l : List S79} (h : goodE n l = true) {b : Int} (hb : 0 ≤ b) (hb1 : b < n) {x y : Nat} (hc : Conn (prs l) x y) (hx : rd (farsM n.toNat l b) (x : Int) < 100000) : rd (farsM n.toNat l b) (y : Int) < 100000 := by
 have key : ∀ {p q : Nat}, (p, q) ∈ prs l → ∃ c, adj l (p : Int) (q : Int) c := by
  intro p q hm
  unfold prs at hm
  obtain ⟨e, he, e2⟩ := List.mem_map.1 hm
  simp only [Prod.mk.injEq] at e2
  have := goodE_edge h e he
  exact ⟨e.f2, e, he, .inl ⟨by omega, by omega⟩, rfl⟩
 induction hc with
 | refl => exact hx
 | fwd _ he ih =>
  obtain ⟨c, ha⟩ := key he
  exact fars_adj h hb hb1 (adj_symm ha) ih
 | bwd _ he ih =>
  obtain ⟨c, ha⟩ := key he
  exact fars_adj h hb hb1 ha ih
theorem walk_conn {n : Int} {l : List S79} (h : goodE n l = true) {v b d : Int} (hw : Walk l v b d) : Conn (prs l) v.toNat b.toNat := by
 induction hw with
 | nil v => exact .refl _
 | cons ha _ ih =>
  obtain ⟨e, he, hc, rfl⟩ := ha
  have hm : (e.f0.toNat, e.f1.toNat) ∈ prs l := List.mem_map.2 ⟨e, he, rfl⟩
  refine Conn.trans ?_ ih
  rcases hc with ⟨rfl, rfl⟩ | ⟨rfl, rfl⟩
  ·exact .fwd (.refl _) hm
  ·exact .bwd (.refl _) hm
theorem far_iff {n : Int} {l : List S79} (h : goodE n l = true) {v b : Int} (hv : 0 ≤ v) (hv1 : v < n) (hb : 0 ≤ b) (hb1 : b < n) : rd (farsM n.toNat l b) v = 100000 ↔ rd (groupsM n l) v ≠ rd (groupsM n l) b := by
 have hs := fars_sane h hb hb1 v
 rw [groupsM_at h v hv hv1, groupsM_at h b hb hb1]
 have hin := prs_in (edge3 h)
 have hci := conn_iff hin (show v.toNat < n.toNat by omega) (show b.toNat < n.toNat by omega)
 constructor
 ·intro e hl
  have hl' : lab n.toNat (prs l) v.toNat = lab n.toNat (prs l) b.toNat := by omega
  have hc := hci.2 hl'
  have := conn_far h hb hb1 (hc.symm) (by rw [show ((b.toNat : Nat) : Int) = b by omega, fars_self (okE_of h) hb (by omega)]; omega)
  rw [show ((v.toNat : Nat) : Int) = v by omega] at this
  omega
 ·intro hl
  by_cases hlt : rd (farsM n.toNat l b) v < 100000
  ·have hw := walk_of h hb hb1 (rd (farsM n.toNat l b) v).toNat v hv hv1 hlt (by omega)
   have := hci.1 (walk_conn h hw)
   exact absurd (by omega) hl
  ·omega
-- CostOf, both sides
def costGo (l : List S79) : Int → List Int → Int → Int × Bool
 | _, [], s => (s, true)
 | p, x :: r, s => if costM l p x = 0 then (0, false) else costGo l x r (wrap64 (s + costM l p x))
theorem implCost2_l (l : List S79) (hb : (l.length : Int) ≤ 1099511627776) (suf : List Int) : ∀ (pre : List Int) (p s : Int), ((pre ++ p :: suf).length : Int) ≤ 1099511627776 →
  Ev (fun k => impl_CostOf.l0 k l (pre ++ p :: suf) s (pre.length + 1)) (costGo l p suf s) := by
 induction suf with
 | nil =>
  intro pre p s h
  refine Ev.succ ?_
  simp only [impl_CostOf.l0, len_mid, List.length_nil, if_neg (show ¬ ((pre.length : Int) + 1 < pre.length + ((0 : Nat) : Int) + 1) by omega)]
  exact Ev.now _
 | cons x suf ih =>
  intro pre p s h
  refine Ev.succ ?_
  have := fun s => ih (pre ++ [p]) x s (by rw [← app_one]; exact h)
  rw [len_mid, List.length_cons] at h
  rw [← app_one, len_one] at this
  have h1 : rd (pre ++ p :: x :: suf) ((pre.length : Int) + 1) = x := by
   have := rd_mid (pre ++ [p]) x suf
   rw [len_one, ← app_one] at this
   exact this
  simp only [impl_CostOf.l0, len_mid, List.length_cons]
  simp only [wrap_id (show (-9223372036854775808 : Int) ≤ (pre.length : Int) by omega) (show ((pre.length : Int) ≤ 9223372036854775807) by omega), wrap_id (show (-9223372036854775808 : Int) ≤ (pre.length : Int) + 1 + 1 by omega) (show ((pre.length : Int) + 1 + 1 ≤ 9223372036854775807) by omega), if_pos (show (pre.length : Int) + 1 < pre.length + ((suf.length + 1 : Nat) : Int) + 1 by omega), if_pos (show (0 : Int) ≤ (pre.length : Int) by omega), if_pos (show (pre.length : Int) < pre.length + ((suf.length + 1 : Nat) : Int) + 1 by omega), if_pos (show (0 : Int) ≤ (pre.length : Int) + 1 by omega), h1, show (pre.length : Int) + 1 - 1 = pre.length by omega, rd_mid]
  refine Ev.bind (implCost_ev l p x hb) ?_
  rw [costGo]
  by_cases hc : costM l p x = 0
  ·simp only [if_pos hc]
   exact Ev.now _
  ·simp only [if_neg hc]
   exact this _
def costOf (n : Int) (l : List S79) (q : List Int) : Int × Bool := if goodE n l = true ∧ (1 ≤ (q.length : Int) ∧ (q.length : Int) ≤ 12) ∧ allIn 0 (wrap64 (n - 1)) q = true then costGo l (q.headD 0) q.tail 0 else (0, false)
theorem implCostOf_ev (n : Int) (l : List S79) (q : List Int) (hl : l.length ≤ 1048576) (hq : q.length ≤ 1048576) : Ev (fun k => impl_CostOf.f k n l q) (costOf n l q) := by
 unfold impl_CostOf.f costOf
 have bad : Ev (fun k => impl_CostOf.j0 k l q true) ((0 : Int), false) := by
  refine Ev.succ ?_
  simp only [impl_CostOf.j0, if_true]
  exact Ev.now _
 simp only [implIn, Option.bind_some, decide_eq_true_eq]
 by_cases h1 : 1 ≤ (q.length : Int) ∧ (q.length : Int) ≤ 12
 ·simp only [if_pos h1]
  have hga := goodAt_ev n l q hl (by omega)
  refine Ev.bind hga ?_
  by_cases h : goodE n l = true ∧ allIn 0 (wrap64 (n - 1)) q = true
  ·rw [if_pos ⟨h.1, h1, h.2⟩, h.1, h.2]
   refine Ev.succ ?_
   simp only [impl_CostOf.j0, Bool.and_true, Bool.not_true, Bool.false_eq_true, if_false]
   match q, h1 with
   | p :: q, h1 => exact implCost2_l l (by omega) q [] p 0 (by simp only [List.nil_append]; omega)
  ·rw [if_neg (fun hc => h ⟨hc.1, hc.2.2⟩), show (goodE n l && allIn 0 (wrap64 (n - 1)) q) = false by rw [Bool.eq_false_iff]; intro hc; rw [Bool.and_eq_true] at hc; exact h hc]
   exact bad
 ·simp only [if_neg h1]
  rw [if_neg (fun hc => h1 hc.2.1)]
  exact bad
theorem pars_at (n : Nat) (l : List S79) (a v : Int) (h0 : 0 ≤ v) (h1 : v < n) : rd (pars n l a n) v = parM n l a v := by
 unfold pars rd own0
 rw [List.map_map, List.getD_eq_getElem?_getD, List.getElem?_eq_getElem (show v.toNat < _ by rw [List.length_map, List.length_range]; omega)]
 simp only [List.getElem_map, List.getElem_range, Option.getD_some, Function.comp]
 rw [show ((v.toNat : Nat) : Int) = v by omega]
theorem par_root (n : Nat) (l : List S79) (a : Int) : parM n l a a = -1 := by rw [parM, if_pos rfl]
theorem par_step {n : Int} {l : List S79} (h : goodE n l = true) {a : Int} (ha : 0 ≤ a) (ha1 : a < n) {v : Int} (hv : 0 ≤ v) (hv1 : v < n) (hne : v ≠ a) (hlt : rd (farsM n.toNat l a) v < 100000) :
  0 ≤ parM n.toNat l a v ∧ parM n.toNat l a v < n ∧ rd (farsM n.toNat l a) (parM n.toNat l a v) < rd (farsM n.toNat l a) v ∧ costM l v (parM n.toNat l a v) > 0 ∧ rd (farsM n.toNat l a) v = rd (farsM n.toNat l a) (parM n.toNat l a v) + costM l v (parM n.toNat l a v) ∧
  ∀ d, wayGo n.toNat l (farsM n.toNat l a) a (d + 1) v = parM n.toNat l a v :: wayGo n.toNat l (farsM n.toNat l a) a d (parM n.toNat l a v) := by
 obtain ⟨u, t, e, h0, h1, h5, h6, h7, _⟩ := way_step h ha ha1 hv hv1 hne hlt
 have hp : parM n.toNat l a v = u := by
  rw [parM, if_neg hne, show hopsM n.toNat l v a = u :: t from e]
  rfl
 rw [hp]
 exact ⟨h0, h1, h5, (adj_in (okE_of h) h6).2.2.2.2.2.1, h7, fun d => wayGo_cons d hne e⟩
theorem par_far {n : Int} {l : List S79} {a v : Int} (hf : ¬ rd (farsM n.toNat l a) v < 100000) : parM n.toNat l a v = -1 := by
 rw [parM]
 split
 ·rfl
 ·rw [show hopsM n.toNat l v a = [] from ?_]
  ·rfl
  ·unfold hopsM hopsGo
   rw [List.filter_eq_nil_iff]
   intro u _
   rw [decide_eq_true_eq]
   exact fun hc => hf hc.1
theorem par_in {n : Int} {l : List S79} (h : goodE n l = true) {a : Int} (ha : 0 ≤ a) (ha1 : a < n) (v : Int) (hv : 0 ≤ v) (hv1 : v < n) : -1 ≤ parM n.toNat l a v ∧ parM n.toNat l a v < n := by
 by_cases hlt : rd (farsM n.toNat l a) v < 100000
 ·by_cases hne : v = a
  ·rw [hne, par_root]; omega
  ·have := par_step h ha ha1 hv hv1 hne hlt
   omega
 ·rw [par_far hlt]; omega
theorem far_climb {n : Int} {l : List S79} (h : goodE n l = true) {a : Int} (ha : 0 ≤ a) (ha1 : a < n) : ∀ (d : Nat) (v : Int), 0 ≤ v → v < n → rd (farsM n.toNat l a) v < 100000 → rd (farsM n.toNat l a) v ≤ d → Climb (pars n.toNat l a n.toNat) v (v :: wayGo n.toNat l (farsM n.toNat l a) a (d + 1) v) := by
 intro d
 induction d with
 | zero =>
  intro v hv hv1 hlt hd
  by_cases hne : v = a
  ·subst hne
   rw [wayGo_at]
   exact ⟨hv, rfl, show _ < 0 by rw [pars_at _ _ _ _ hv (by omega), par_root]; omega⟩
  ·have := par_step h ha ha1 hv hv1 hne hlt
   have := fars_sane h ha ha1 (parM n.toNat l a v)
   omega
 | succ d ih =>
  intro v hv hv1 hlt hd
  by_cases hne : v = a
  ·subst hne
   rw [wayGo_at]
   exact ⟨hv, rfl, show _ < 0 by rw [pars_at _ _ _ _ hv (by omega), par_root]; omega⟩
  ·obtain ⟨h0, h1, h2, _, _, h3⟩ := par_step h ha ha1 hv hv1 hne hlt
   rw [h3]
   refine ⟨hv, rfl, ?_⟩
   rw [pars_at _ _ _ _ hv (by omega)]
   exact ih _ h0 h1 (by omega) (by omega)
theorem upOk_of {l : List Int} (hin : ∀ u : Int, 0 ≤ u → u < l.length → inr (l.length : Int) (rd l u) = true) (hb : ∀ u : Int, 0 ≤ u → u < l.length → rd l u < l.length) : ∀ (A : List Int) (d : Nat) (u : Int), Climb l u A → A.length ≤ d → u < l.length → upOk l d u = true
 | [], d, u, hA, _, _ => by
  have hu : u < 0 := hA
  cases d with
  | zero => rw [upOk]; exact decide_eq_true hu
  | succ d => rw [upOk, if_neg (by omega)]
 | x :: r, d, u, hA, hd, hu => by
  cases d with
  | zero => simp at hd
  | succ d =>
   rw [upOk, if_pos (show u ≥ 0 from hA.1), hin u hA.1 hu, Bool.true_and]
   exact upOk_of hin hb r d _ hA.2.2 (by rw [List.length_cons] at hd; omega) (hb u hA.1 hu)
theorem chkS_of (l : List Int) (hn : inn (l.length : Int) = true) : ∀ (suf : List Int) (c : Nat), (∀ x ∈ suf, inr (l.length : Int) x = true) → (∀ i : Nat, i < suf.length → upOk l l.length ((c + i : Nat) : Int) = true) → chkS l suf c = true
 | [], _, _, _ => by rw [chkS]; exact hn
 | x :: suf, c, h1, h2 => by
  rw [chkS, h1 x (List.mem_cons_self ..), show upOk l l.length (c : Int) = true from h2 0 (by simp), Bool.true_and, Bool.true_and]
  refine chkS_of l hn suf (c + 1) (fun y hy => h1 y (List.mem_cons_of_mem _ hy)) fun i hi => ?_
  have := h2 (i + 1) (by rw [List.length_cons]; omega)
  rw [show c + 1 + i = c + (i + 1) by omega]
  exact this
theorem climb_short {n : Int} {l : List S79} (h : goodE n l = true) {a : Int} (ha : 0 ≤ a) (ha1 : a < n) {v : Int} (hv : 0 ≤ v) (hv1 : v < n) : ∃ A, Climb (pars n.toNat l a n.toNat) v A ∧ A.length ≤ n.toNat ∧
  (rd (farsM n.toNat l a) v < 100000 → a ∈ A ∧ ∀ x ∈ A, 0 ≤ x ∧ x < n ∧ rd (farsM n.toNat l a) x < 100000) ∧ (¬ rd (farsM n.toNat l a) v < 100000 → A = [v]) := by
 by_cases hlt : rd (farsM n.toNat l a) v < 100000
 ·have hs := fars_sane h ha ha1 v
  have hc := far_climb h ha ha1 (rd (farsM n.toNat l a) v).toNat v hv hv1 hlt (by omega)
  have hw := wayGo_ok h ha ha1 (rd (farsM n.toNat l a) v).toNat v hv hv1 hlt (by omega)
  have hl := way_len hv hv1 hw
  refine ⟨_, hc, by rw [List.length_cons]; exact hl, fun _ => ⟨List.mem_of_getLast? hw.last, fun x hx => ?_⟩, fun hc => absurd hlt hc⟩
  rcases List.mem_cons.1 hx with rfl | hx
  ·exact ⟨hv, hv1, hlt⟩
  ·have := hw.low x hx
   exact ⟨this.1, this.2.1, by omega⟩
 ·refine ⟨[v], ⟨hv, rfl, show _ < 0 by rw [pars_at _ _ _ _ hv (by omega), par_far hlt]; omega⟩, by simp; omega, fun hc => absurd hc hlt, fun _ => rfl⟩
theorem pars_good {n : Int} {l : List S79} (h : goodE n l = true) {a : Int} (ha : 0 ≤ a) (ha1 : a < n) : goodP (pars n.toNat l a n.toNat) = true := by
 have hn := goodE_n h
 have hl : (pars n.toNat l a n.toNat).length = n.toNat := pars_len _ _ _ _
 have hin : ∀ u : Int, 0 ≤ u → u < n → inr n (rd (pars n.toNat l a n.toNat) u) = true := by
  intro u h0 h1
  have := par_in h ha ha1 u h0 h1
  rw [pars_at _ _ _ _ h0 (by omega), inr, decide_eq_true_eq, wrap_id (by omega) (by omega)]
  omega
 unfold goodP
 refine chkS_of _ ?_ _ _ ?_ ?_
 ·rw [hl, inn, decide_eq_true_eq]; omega
 ·intro x hx
  obtain ⟨i, hi, rfl⟩ := List.getElem_of_mem hx
  have := hin (i : Int) (by omega) (by omega)
  rw [hl, show ((n.toNat : Nat) : Int) = n by omega]
  unfold rd at this
  rw [List.getD_eq_getElem?_getD, Int.toNat_natCast, List.getElem?_eq_getElem hi] at this
  exact this
 ·intro i hi
  rw [hl] at hi
  obtain ⟨A, hA, hAl, _⟩ := climb_short h ha ha1 (v := ((0 + i : Nat) : Int)) (by omega) (by omega)
  refine upOk_of ?_ ?_ A _ _ hA (by rw [hl]; exact hAl) (by rw [hl]; omega)
  ·intro u h0 h1
   rw [hl] at h1
   rw [hl, show ((n.toNat : Nat) : Int) = n by omega]
   exact hin u h0 (by omega)
  ·intro u h0 h1
   rw [hl] at h1
   have := par_in h ha ha1 u h0 (by omega)
   rw [hl, pars_at _ _ _ _ h0 (by omega)]
   omega
-- what costs the way down from the root
theorem costGo_snoc {n : Int} {l : List S79} (h : goodE n l = true) {u v : Int} (hc : costM l u v > 0) : ∀ (X : List Int) (p s t : Int), costGo l p X s = (t, true) → (p :: X).getLast? = some u → 0 ≤ t → t ≤ 1000000 → costGo l p (X ++ [v]) s = (t + costM l u v, true)
 | [], p, s, t, e, hl, h0, h1 => by
  rw [costGo] at e
  obtain ⟨rfl, _⟩ := Prod.mk.inj e
  have hpu : p = u := by simpa using hl
  subst hpu
  have hb := adj_in (okE_of h) (cost_adj h hc)
  rw [List.nil_append, costGo, if_neg (by omega), costGo, wrap_id (by omega) (by omega)]
 | x :: X, p, s, t, e, hl, h0, h1 => by
  rw [costGo] at e
  rw [List.cons_append, costGo]
  by_cases hz : costM l p x = 0
  ·rw [if_pos hz] at e; simp at e
  ·rw [if_neg hz] at e ⊢
   exact costGo_snoc h hc X x _ t e (by rw [List.getLast?_cons_cons] at hl; exact hl) h0 h1
theorem cost_down {n : Int} {l : List S79} (h : goodE n l = true) {a : Int} (ha : 0 ≤ a) (ha1 : a < n) : ∀ (B1 : List Int) (v : Int), Climb (pars n.toNat l a n.toNat) v (B1 ++ [a]) → v < n → rd (farsM n.toNat l a) v < 100000 → costGo l a B1.reverse 0 = (rd (farsM n.toNat l a) v, true) ∧ (a :: B1.reverse).getLast? = some v
 | [], v, hB, hv1, hlt => by
  have e : a = v := hB.2.1
  subst e
  rw [List.reverse_nil, costGo, fars_self (okE_of h) ha (by omega)]
  exact ⟨rfl, rfl⟩
 | x :: B1, v, hB, hv1, hlt => by
  have hv := hB.1
  have e : x = v := hB.2.1
  subst e
  have hp := hB.2.2
  rw [pars_at _ _ _ _ hv (by omega)] at hp
  have hpn : 0 ≤ parM n.toNat l a x := by
   cases B1 with
   | nil => exact hp.1
   | cons z s => exact hp.1
  have hne : x ≠ a := fun e => by rw [e, par_root] at hpn; omega
  obtain ⟨_, h1, h2, h3, h4, _⟩ := par_step h ha ha1 hv hv1 hne hlt
  obtain ⟨r1, r2⟩ := cost_down h ha ha1 B1 _ hp h1 (by omega)
  rw [List.reverse_cons]
  have hs := fars_small h ha ha1 hv hv1 hlt
  have hs2 := fars_sane h ha ha1 (parM n.toNat l a x)
  refine ⟨?_, by rw [← List.cons_append, List.getLast?_append]; rfl⟩
  rw [costGo_snoc h (u := parM n.toNat l a x) (by rw [costM_symm]; exact h3) _ _ _ _ r1 r2 (by omega) (by omega), costM_symm, h4]
theorem specUp_l (l : List Int) (hl : l.length ≤ 1000) (hb : ∀ u : Int, 0 ≤ u → u < l.length → rd l u < l.length) : ∀ (A : List Int) (u : Int) (out : List Int), Climb l u A → u < l.length → out.length + A.length ≤ 1000000 → Ev (fun k => spec_l10Up.l0 k l u out) (out ++ A)
 | [], u, out, h, _, _ => by
  refine Ev.succ ?_
  simp only [spec_l10Up.l0, if_neg (show ¬ u ≥ 0 from by have : u < 0 := h; omega), List.append_nil]
  exact Ev.now _
 | x :: A, u, out, h, hu, ho => by
  rw [List.length_cons] at ho
  have hx := h.2.1
  subst hx
  have := specUp_l l hl hb A (rd l x) (out ++ [x]) h.2.2 (hb x h.1 hu) (by simp; omega)
  rw [app_one out x A]
  refine Ev.succ ?_
  simp only [spec_l10Up.l0, if_pos (show x ≥ 0 from h.1), if_pos (show out.length < 17592186044416 by omega), if_pos (show 0 ≤ x from h.1), if_pos hu]
  exact this
theorem specOn_l2 : ∀ (n : Nat) (B1 rest out : List Int), B1.length = n → (B1 ++ rest).length ≤ 1000 → out.length + n ≤ 1000000 → Ev (fun k => spec_l10On.l2 k (B1 ++ rest) out ((n : Int) - 1)) (out ++ B1.reverse, true) := by
 intro n
 induction n with
 | zero =>
  intro B1 rest out h _ _
  obtain rfl : B1 = [] := List.eq_nil_of_length_eq_zero h
  refine Ev.succ ?_
  simp only [spec_l10On.l2, if_neg (show ¬ ((0 : Nat) : Int) - 1 ≥ 0 by omega), List.reverse_nil, List.append_nil]
  exact Ev.now _
 | succ n ih =>
  intro B1 rest out h hB ho
  rcases nil_or_snoc B1 with rfl | ⟨p, y, rfl⟩
  ·simp at h
  ·have hp : p.length = n := by simpa using h
   have e : p ++ [y] ++ rest = p ++ y :: rest := by simp
   rw [e] at hB ⊢
   have hln := len_mid p y rest
   have hr := rd_mid p y rest
   rw [hp] at hr
   have := ih p (y :: rest) (out ++ [y]) hp hB (by simp; omega)
   refine Ev.succ ?_
   simp only [spec_l10On.l2, show ((n + 1 : Nat) : Int) - 1 = n by omega, if_pos (show (n : Int) ≥ 0 by omega), if_pos (show 0 ≤ (n : Int) by omega), if_pos (show (n : Int) < ((p ++ y :: rest).length : Int) by omega), if_pos (show out.length < 17592186044416 by omega), hr, wrap_id (show (-9223372036854775808 : Int) ≤ (n : Int) - 1 by omega) (show (n : Int) - 1 ≤ 9223372036854775807 by omega)]
   rw [List.reverse_append, List.reverse_singleton, List.singleton_append, show out ++ y :: p.reverse = out ++ [y] ++ p.reverse by simp]
   exact this
theorem specOn_l1 (A B : List Int) (x i : Int) (R : List Int × Bool) (hA : A.length ≤ 1000) (hB : B.length ≤ 1000) (hi : 0 ≤ i) (hi1 : i < A.length) (hR : x ∉ B → Ev (fun k => spec_l10On.l0 k A B A A.length (wrap64 (i + 1))) R) (hH : x ∈ B → R = (A.take (i + 1).toNat ++ (B.takeWhile fun y => decide (y ≠ x)).reverse, true)) :
  ∀ (suf pre : List Int), pre ++ suf = B → x ∉ pre → Ev (fun k => spec_l10On.l1 k A B i x A A.length i B B.length pre.length) R
 | [], pre, e, hn => by
  rw [List.append_nil] at e
  subst e
  refine Ev.succ ?_
  simp only [spec_l10On.l1, if_neg (show ¬ (pre.length : Int) < pre.length by omega)]
  exact hR hn
 | y :: suf, pre, e, hn => by
  have hln := len_mid pre y suf
  rw [e] at hln
  have hr : rd B (pre.length : Int) = y := by rw [← e, rd_mid]
  refine Ev.succ ?_
  simp only [spec_l10On.l1, if_pos (show (pre.length : Int) < B.length by omega), if_pos (show 0 ≤ (pre.length : Int) by omega), hr, Option.bind_some]
  by_cases hxy : x = y
  ·subst hxy
   have h1 := specOn_l2 pre.length pre (x :: suf) (A.take (i + 1).toNat) rfl (by rw [e]; exact hB) (by rw [List.length_take]; omega)
   rw [e] at h1
   have hR' := hH (by rw [← e]; simp)
   rw [← e, take_split pre suf hn] at hR'
   simp only [if_true, wrap_id (show (-9223372036854775808 : Int) ≤ i + 1 by omega) (show i + 1 ≤ 9223372036854775807 by omega), if_pos (show 0 ≤ i + 1 by omega), if_pos (show i + 1 ≤ (A.length : Int) by omega), List.nil_append, List.length_nil, Nat.zero_add, if_pos (show (A.take (i + 1).toNat).length < 17592186044416 by rw [List.length_take]; omega), wrap_id (show (-9223372036854775808 : Int) ≤ (pre.length : Int) - 1 by omega) (show (pre.length : Int) - 1 ≤ 9223372036854775807 by omega)]
   rw [hR']
   exact h1
  ·simp only [if_neg hxy, wrap_id (show (-9223372036854775808 : Int) ≤ (pre.length : Int) + 1 by omega) (show (pre.length : Int) + 1 ≤ 9223372036854775807 by omega)]
   have := specOn_l1 A B x i R hA hB hi hi1 hR hH suf (pre ++ [y]) (by rw [← app_one]; exact e) (by
    rw [List.mem_append, List.mem_singleton]
    exact fun hc => hc.elim hn hxy)
   rw [len_one] at this
   exact this
theorem specOn_l0 (A B : List Int) (hA : A.length ≤ 1000) (hB : B.length ≤ 1000) : ∀ (suf pre : List Int), pre ++ suf = A → Ev (fun k => spec_l10On.l0 k A B A A.length pre.length) (onGo B pre suf)
 | [], pre, e => by
  rw [List.append_nil] at e
  subst e
  refine Ev.succ ?_
  simp only [spec_l10On.l0, if_neg (show ¬ (pre.length : Int) < pre.length by omega), onGo]
  exact Ev.now _
 | x :: suf, pre, e => by
  have hln := len_mid pre x suf
  rw [e] at hln
  have hr : rd A (pre.length : Int) = x := by rw [← e, rd_mid]
  refine Ev.succ ?_
  simp only [spec_l10On.l0, if_pos (show (pre.length : Int) < A.length by omega), if_pos (show 0 ≤ (pre.length : Int) by omega), hr]
  refine specOn_l1 A B x pre.length _ hA hB (by omega) (by omega) ?_ ?_ B [] rfl (by simp)
  ·intro hx
   have := specOn_l0 A B hA hB suf (pre ++ [x]) (by rw [← app_one]; exact e)
   rw [len_one] at this
   rw [onGo, if_neg hx, wrap_id (by omega) (by omega)]
   exact this
  ·intro hx
   rw [onGo, if_pos hx, ← e, app_one pre x suf, show ((pre.length : Int) + 1).toNat = (pre ++ [x]).length by rw [List.length_append, List.length_singleton]; omega, List.take_left]
def onTreeM (l : List Int) (a b : Int) : List Int × Bool := onGo (climbM l b) [] (climbM l a)
theorem onTreeM_len {l : List Int} (a b : Int) : (onTreeM l a b).1.length ≤ 2 * l.length := by
 have := onGo_len (climbM l b) (climbM l a) []
 have h1 := climbL_len l l.length a
 have h2 := climbL_len l l.length b
 unfold onTreeM climbM at *
 simp only [List.length_nil] at this
 omega
theorem specOn_ev {l : List Int} (hg : goodP l = true) {a b : Int} (ha : 0 ≤ a) (ha1 : a < l.length) (hb : 0 ≤ b) (hb1 : b < l.length) : Ev (fun k => spec_l10On.f k l a b) (onTreeM l a b) := by
 obtain ⟨_, h12, hbd, _⟩ := good_deep hg
 have hup : ∀ u : Int, 0 ≤ u → u < l.length → Ev (fun k => spec_l10Up.f k l u) (climbM l u) := fun u h0 h1 => by
  have := specUp_l l (by omega) (fun v h0 h1 => (hbd v h0 h1).2) (climbM l u) u [] (good_up hg h0 h1) h1 (by have := climbL_len l l.length u; unfold climbM; simp; omega)
  exact this
 have h1 := climbL_len l l.length a
 have h2 := climbL_len l l.length b
 unfold spec_l10On.f
 refine Ev.bind (hup a ha ha1) (Ev.bind (hup b hb hb1) ?_)
 have := specOn_l0 (climbM l a) (climbM l b) (by unfold climbM; omega) (by unfold climbM; omega) (climbM l a) [] rfl
 exact this
-- the program's side
theorem hopD_qS : ∀ (h : List (Int × Int)) (v : Int), hopD (qS h) v = hopAt h v
 | [], _ => rfl
 | y :: r, v => by
  show (if (hopD (qS r) v).2 = true then hopD (qS r) v else if y.2 = v then (y.1, true) else (0, false)) = _
  rw [hopD_qS r v, hopAt]
theorem okI_of {x : Int} (h0 : 0 ≤ x) (h1 : x ≤ 1000000) : okI x = true := by
 unfold okI
 rw [decide_eq_true_eq]
 omega
theorem implOn_down {l : List Int} {b : Int} {B : List Int} {hs : List S61} (ht : Tells l b B (hopD hs)) (hB : Climb l b B) (hBo : ∀ y ∈ B, okI y = true) : ∀ (n : Nat) (B1 : List Int) (x : Int) (r out : List Int), B1.length = n → B = B1 ++ x :: r → out.length + n ≤ 1000000 → Ev (fun k => impl_onTree.l1 k hs b out x) (out ++ B1.reverse, true) := by
 intro n
 induction n with
 | zero =>
  intro B1 x r out h e _
  obtain rfl : B1 = [] := List.eq_nil_of_length_eq_zero h
  rw [e] at hB
  have hx : x = b := hB.2.1
  refine Ev.succ ?_
  simp only [impl_onTree.l1, if_pos hx, List.reverse_nil, List.append_nil]
  exact Ev.now _
 | succ n ih =>
  intro B1 x r out h e ho
  rcases nil_or_snoc B1 with rfl | ⟨p, y, rfl⟩
  ·simp at h
  ·have hp : p.length = n := by simpa using h
   have e' : B = p ++ y :: x :: r := by rw [e]; simp
   obtain ⟨h1, h2⟩ := ht.down p y x r e'
   have hox := hBo x (by rw [e]; simp)
   have := ih p y (x :: r) (out ++ [y]) hp e' (by simp; omega)
   refine Ev.succ ?_
   simp only [impl_onTree.l1, if_neg h2, if_pos hox, h1, if_true, if_pos (show out.length < 17592186044416 by omega)]
   rw [List.reverse_append, List.reverse_singleton, List.singleton_append, show out ++ y :: p.reverse = out ++ [y] ++ p.reverse by simp]
   exact this
theorem implOn_up {l : List Int} {b : Int} {B : List Int} {hs : List S61} (hl : l.length ≤ 1000) (ht : Tells l b B (hopD hs)) (h0 : 0 ≤ b) (hB : Climb l b B) (hBo : ∀ y ∈ B, okI y = true) (hBl : B.length ≤ 1000) (hbd : ∀ u : Int, 0 ≤ u → u < l.length → rd l u < l.length) : ∀ (A pre : List Int) (u : Int), Climb l u A → u < l.length → (∃ x ∈ A, x ∈ B) → pre.length + A.length ≤ 1000 → Ev (fun k => impl_onTree.l1 k hs b (pre ++ [u]) u) (onGo B pre A)
 | [], pre, u, _, _, hm, _ => by obtain ⟨x, hx, _⟩ := hm; simp at hx
 | x :: A, pre, u, hA, hu, hm, hpl => by
  have hx := hA.2.1
  subst hx
  rw [List.length_cons] at hpl
  rw [onGo]
  by_cases hxB : x ∈ B
  ·rw [if_pos hxB]
   obtain ⟨B1, r, e, hn⟩ := split_first B hxB
   have hBl' := hBl
   rw [e, List.length_append] at hBl'
   have := implOn_down ht hB hBo B1.length B1 x r (pre ++ [x]) rfl e (by simp; omega)
   rw [e, take_split B1 r hn]
   exact this
  ·rw [if_neg hxB]
   have hxb : x ≠ b := fun e => hxB (Up_mem hB h0 0 x e)
   have hH := ht.up x _ hA.1 hu hxB hA hm
   have hm' : ∃ y ∈ A, y ∈ B := by
    obtain ⟨y, hy, hyB⟩ := hm
    rcases List.mem_cons.1 hy with e | hy
    ·rw [e] at hyB; exact absurd hyB hxB
    ·exact ⟨y, hy, hyB⟩
   have hr0 : 0 ≤ rd l x := by
    obtain ⟨y, hy, _⟩ := hm'
    cases A with
    | nil => simp at hy
    | cons z s => exact hA.2.2.1
   have hox : okI x = true := okI_of hA.1 (by omega)
   have := implOn_up hl ht h0 hB hBo hBl hbd A (pre ++ [x]) (rd l x) hA.2.2 (hbd x hA.1 hu) hm' (by simp; omega)
   refine Ev.succ ?_
   simp only [impl_onTree.l1, if_neg hxb, if_pos hox, hH, if_true, if_pos (show (pre ++ [x]).length < 17592186044416 by simp; omega)]
   exact this
theorem onGo_none (B : List Int) : ∀ (A pre : List Int), (¬ ∃ x ∈ A, x ∈ B) → onGo B pre A = ([], false)
 | [], _, _ => rfl
 | x :: A, pre, h => by
  rw [onGo, if_neg (fun hx => h ⟨x, by simp, hx⟩)]
  exact onGo_none B A _ (fun ⟨y, hy, hyB⟩ => h ⟨y, by simp [hy], hyB⟩)
theorem climb_lt {l : List Int} (hbd : ∀ u : Int, 0 ≤ u → u < l.length → rd l u < l.length) : ∀ (A : List Int) (u : Int), Climb l u A → u < l.length → ∀ x ∈ A, 0 ≤ x ∧ x < l.length
 | [], _, _, _, x, hx => by simp at hx
 | y :: r, u, h, hu, x, hx => by
  rcases List.mem_cons.1 hx with e | hx
  ·rw [e, h.2.1]; exact ⟨h.1, hu⟩
  ·exact climb_lt hbd r _ h.2.2 (hbd u h.1 hu) x hx
theorem implOn_ev {l : List Int} (hg : goodP l = true) {a b : Int} (ha : 0 ≤ a) (ha1 : a < l.length) (hb : 0 ≤ b) (hb1 : b < l.length) : Ev (fun k => impl_onTree.f k l a b) (onTreeM l a b) := by
 obtain ⟨_, h12, hbd, D, hD⟩ := good_deep hg
 have hA := good_up hg ha ha1
 have hB := good_up hg hb hb1
 have ht := tells hb hb1 hB hbd hD
 have hAl : (climbM l a).length ≤ 12 := Nat.le_trans (climbL_len l l.length a) h12
 have hBl : (climbM l b).length ≤ 12 := Nat.le_trans (climbL_len l l.length b) h12
 have hbd' : ∀ u : Int, 0 ≤ u → u < l.length → rd l u < l.length := fun u h0 h1 => (hbd u h0 h1).2
 have hsp := spread_ev hg hb hb1
 obtain ⟨_, hi, hc, _⟩ := spread_fin hb hb1 hbd hD
 have ht' : Tells l b (climbM l b) (hopD (qS (spreadM l b))) := by rw [show hopD (qS (spreadM l b)) = hopAt (spreadM l b) from funext (hopD_qS _)]; exact ht
 have hok : okHops (qS (spreadM l b)) = true := by
  unfold okHops
  rw [Bool.and_eq_true, decide_eq_true_eq, qS_len, List.all_eq_true]
  refine ⟨by omega, fun y hy => ?_⟩
  obtain ⟨z, hz, rfl⟩ := List.mem_map.1 hy
  have h1 := hi z.2 (List.mem_cons_of_mem _ (List.mem_map.2 ⟨z, hz, rfl⟩))
  have h2 := hi z.1 (hc z hz).2
  rw [Bool.and_eq_true]
  show okI z.1 = true ∧ okI z.2 = true
  exact ⟨okI_of h2.1 (by omega), okI_of h1.1 (by omega)⟩
 unfold impl_onTree.f
 refine Ev.bind hsp.2.1 ?_
 simp only [if_pos hok]
 unfold onTreeM
 by_cases hm : ∃ x ∈ climbM l a, x ∈ climbM l b
 ·have := implOn_up (by omega) ht' hb hB (fun y hy => by have := climb_lt hbd' _ b hB hb1 y hy; exact okI_of this.1 (by omega)) (by omega) hbd' (climbM l a) [] a hA ha1 hm (by simp; omega)
  exact this
 ·rw [onGo_none _ _ _ hm]
  have hH := ht'.off a _ ha ha1 hA hm
  have hne : a ≠ b := fun e => hm ⟨a, Up_mem hA ha 0 a rfl, by rw [e]; exact Up_mem hB hb 0 b rfl⟩
  refine Ev.succ ?_
  simp only [impl_onTree.l1, if_neg hne, if_pos (okI_of ha (by omega)), hH, Bool.false_eq_true, if_false]
  exact Ev.now _
def onTree (l : List Int) (a b : Int) : List Int × Bool := if goodP l = true ∧ (0 ≤ a ∧ a < l.length) ∧ (0 ≤ b ∧ b < l.length) then onTreeM l a b else ([], false)
theorem onTree_len (l : List Int) (a b : Int) : (onTree l a b).1.length ≤ 24 := by
 unfold onTree
 split
 ·rename_i h
  have := onTreeM_len (l := l) a b
  have := (good_deep h.1).2.1
  omega
 ·simp
theorem twoB (l : List Int) (a b : Int) : (goodP l && (decide (0 ≤ a ∧ a < l.length) && decide (0 ≤ b ∧ b < l.length))) = decide (goodP l = true ∧ (0 ≤ a ∧ a < l.length) ∧ (0 ≤ b ∧ b < l.length)) := by
 cases h : goodP l <;> simp
theorem treeB (l : List Int) (a b : Int) : (goodP l && ([a, b].all fun x => decide (0 ≤ x ∧ x < l.length))) = decide (goodP l = true ∧ (0 ≤ a ∧ a < l.length) ∧ (0 ≤ b ∧ b < l.length)) := by
 rw [← twoB]
 simp
theorem specOnTree_ev (l : List Int) (a b : Int) (hl : l.length ≤ 1048576) : Ev (fun k => spec_OnTree.f k l a b) (onTree l a b) := by
 have h2 := specTwo_ev l a b hl
 rw [twoB] at h2
 unfold spec_OnTree.f onTree
 refine Ev.bind h2 ?_
 by_cases h : goodP l = true ∧ (0 ≤ a ∧ a < l.length) ∧ (0 ≤ b ∧ b < l.length)
 ·simp only [decide_eq_true h, if_true, if_pos h]
  exact Ev.bind (specOn_ev h.1 h.2.1.1 h.2.1.2 h.2.2.1 h.2.2.2) (Ev.now _)
 ·simp only [decide_eq_false h, Bool.false_eq_true, if_false, if_neg h]
  exact Ev.now _
theorem implOnTree_ev (l : List Int) (a b : Int) (hl : l.length ≤ 1048576) : Ev (fun k => impl_OnTree.f k l a b) (onTree l a b) := by
 have h2 := implTree_ev l [a, b] hl (by simp)
 rw [treeB] at h2
 unfold impl_OnTree.f onTree
 refine Ev.bind h2 ?_
 by_cases h : goodP l = true ∧ (0 ≤ a ∧ a < l.length) ∧ (0 ≤ b ∧ b < l.length)
 ·simp only [decide_eq_true h, if_true, if_pos h]
  exact Ev.bind (implOn_ev h.1 h.2.1.1 h.2.1.2 h.2.2.1 h.2.2.2) (Ev.now _)
 ·simp only [decide_eq_false h, Bool.false_eq_true, if_false, if_neg h]
  exact Ev.now _
def comesFrom (l : List Int) (a b : Int) : Int × Bool := if (goodP l = true ∧ (0 ≤ a ∧ a < l.length) ∧ (0 ≤ b ∧ b < l.length)) ∧ a ≠ b then (if (onTreeM l a b).2 = true then (rd (onTreeM l a b).1 ((onTreeM l a b).1.length - 2), true) else (0, false)) else (0, false)
theorem onTreeM_two {l : List Int} (hg : goodP l = true) {a b : Int} (ha : 0 ≤ a) (ha1 : a < l.length) (hb : 0 ≤ b) (hb1 : b < l.length) (hne : a ≠ b) (h : (onTreeM l a b).2 = true) : ∃ w' f, (onTreeM l a b).1 = w' ++ [f, b] ∧ Came l a f b ∧ 0 ≤ f := by
 obtain ⟨_, h12, hbd, D, hD⟩ := good_deep hg
 exact onGo_last ha ha1 hb hb1 (good_up hg ha ha1) (good_up hg hb hb1) hne hbd hD (climbM l a) [] (onTreeM l a b).1 rfl (by simp) (show onTreeM l a b = _ by rw [← h])
theorem rd_two (w : List Int) (f b : Int) : rd (w ++ [f, b]) (((w ++ [f, b]).length : Int) - 2) = f := by
 have := rd_mid w f [b]
 rw [show (((w ++ [f, b]).length : Int) - 2) = (w.length : Int) by rw [List.length_append, List.length_cons, List.length_cons, List.length_nil]; omega]
 exact this
theorem comes_end {l : List Int} (hg : goodP l = true) {a b : Int} (ha : 0 ≤ a) (ha1 : a < l.length) (hb : 0 ≤ b) (hb1 : b < l.length) (hne : a ≠ b) :
  Ev (fun k => if (onTreeM l a b).2 = true then (if 0 ≤ (wrap64 (((onTreeM l a b).1.length : Int) - 2)) then (if (wrap64 (((onTreeM l a b).1.length : Int) - 2)) < ((onTreeM l a b).1.length : Int) then (some (rd (onTreeM l a b).1 (wrap64 (((onTreeM l a b).1.length : Int) - 2)), true)) else (none)) else (none)) else (some (0, false))) (comesFrom l a b) := by
 have hc : (goodP l = true ∧ (0 ≤ a ∧ a < l.length) ∧ (0 ≤ b ∧ b < l.length)) ∧ a ≠ b := ⟨⟨hg, ⟨ha, ha1⟩, hb, hb1⟩, hne⟩
 unfold comesFrom
 rw [if_pos hc]
 have hln := onTreeM_len (l := l) a b
 have h12 := (good_deep hg).2.1
 by_cases h : (onTreeM l a b).2 = true
 ·obtain ⟨w', f, e, _, _⟩ := onTreeM_two hg ha ha1 hb hb1 hne h
  have hl2 : (onTreeM l a b).1.length = w'.length + 2 := by rw [e]; simp
  simp only [if_pos h]
  rw [wrap_id (by omega) (by omega)]
  simp only [if_pos (show (0 : Int) ≤ ((onTreeM l a b).1.length : Int) - 2 by omega), if_pos (show ((onTreeM l a b).1.length : Int) - 2 < ((onTreeM l a b).1.length : Int) by omega)]
  exact Ev.now _
 ·simp only [if_neg h]
  exact Ev.now _
theorem specComes_ev (l : List Int) (a b : Int) (hl : l.length ≤ 1048576) : Ev (fun k => spec_ComesFrom.f k l a b) (comesFrom l a b) := by
 have h2 := specTwo_ev l a b hl
 rw [twoB] at h2
 have bad : (¬ ((goodP l = true ∧ (0 ≤ a ∧ a < l.length) ∧ (0 ≤ b ∧ b < l.length)) ∧ a ≠ b)) → Ev (fun k => spec_ComesFrom.j0 k l a b true) (comesFrom l a b) := fun h => by
  refine Ev.succ ?_
  simp only [spec_ComesFrom.j0, if_true]
  unfold comesFrom
  rw [if_neg h]
  exact Ev.now _
 unfold spec_ComesFrom.f
 refine Ev.bind h2 ?_
 by_cases h : goodP l = true ∧ (0 ≤ a ∧ a < l.length) ∧ (0 ≤ b ∧ b < l.length)
 ·simp only [decide_eq_true h, if_true]
  by_cases e : a = b
  ·rw [show (a == b) = true from beq_iff_eq.2 e]
   exact bad (fun hc => hc.2 e)
  ·rw [show (a == b) = false from beq_eq_false_iff_ne.2 e]
   refine Ev.succ ?_
   simp only [spec_ComesFrom.j0, Bool.false_eq_true, if_false]
   exact Ev.bind (specOn_ev h.1 h.2.1.1 h.2.1.2 h.2.2.1 h.2.2.2) (comes_end h.1 h.2.1.1 h.2.1.2 h.2.2.1 h.2.2.2 e)
 ·simp only [decide_eq_false h, Bool.false_eq_true, if_false]
  exact bad (fun hc => h hc.1)
theorem implComes_ev (l : List Int) (a b : Int) (hl : l.length ≤ 1048576) : Ev (fun k => impl_ComesFrom.f k l a b) (comesFrom l a b) := by
 have h2 := implTree_ev l [a, b] hl (by simp)
 rw [treeB] at h2
 have bad : (¬ ((goodP l = true ∧ (0 ≤ a ∧ a < l.length) ∧ (0 ≤ b ∧ b < l.length)) ∧ a ≠ b)) → Ev (fun k => impl_ComesFrom.j0 k l a b true) (comesFrom l a b) := fun h => by
  refine Ev.succ ?_
  simp only [impl_ComesFrom.j0, if_true]
  unfold comesFrom
  rw [if_neg h]
  exact Ev.now _
 unfold impl_ComesFrom.f
 refine Ev.bind h2 ?_
 by_cases h : goodP l = true ∧ (0 ≤ a ∧ a < l.length) ∧ (0 ≤ b ∧ b < l.length)
 ·simp only [decide_eq_true h, if_true]
  by_cases e : a = b
  ·rw [show (a == b) = true from beq_iff_eq.2 e]
   exact bad (fun hc => hc.2 e)
  ·rw [show (a == b) = false from beq_eq_false_iff_ne.2 e]
   refine Ev.succ ?_
   simp only [impl_ComesFrom.j0, Bool.false_eq_true, if_false]
   exact Ev.bind (implOn_ev h.1 h.2.1.1 h.2.1.2 h.2.2.1 h.2.2.2) (comes_end h.1 h.2.1.1 h.2.1.2 h.2.2.1 h.2.2.2 e)
 ·simp only [decide_eq_false h, Bool.false_eq_true, if_false]
  exact bad (fun hc => h hc.1)
-- FarsFrom, both sides
def farsFrom (n : Int) (l : List S79) (v : Int) : List Int × Bool := if goodE n l = true then (if 0 ≤ v ∧ v ≤ wrap64 (n - 1) then (farsM n.toNat l v, true) else ([], false)) else ([], false)
theorem implFarsFrom_ev (n : Int) (l : List S79) (v : Int) (hl : l.length ≤ 1048576) : Ev (fun k => impl_FarsFrom.f k n l v) (farsFrom n l v) := by
 unfold impl_FarsFrom.f farsFrom
 have hga := goodAt_ev n l [v] hl (by simp)
 rw [allIn1] at hga
 by_cases h : goodE n l = true
 ·have hn := goodE_n h
  by_cases hv : 0 ≤ v ∧ v ≤ wrap64 (n - 1)
  ·rw [h, decide_eq_true hv, Bool.true_and] at hga
   refine Ev.bind hga ?_
   simp only [if_true]
   rw [if_pos h, if_pos hv]
   rw [top_is hn.1 hn.2.1] at hv
   refine Ev.bind (implFars_ev n l v (by omega) (by omega) (edge3 h) hv.1 (by omega)) ?_
   exact Ev.now _
  ·rw [h, decide_eq_false hv, Bool.true_and] at hga
   refine Ev.bind hga ?_
   simp only [Bool.false_eq_true, if_false]
   rw [if_pos h, if_neg hv]
   exact Ev.now _
 ·rw [Bool.eq_false_iff.2 h, Bool.false_and] at hga
  refine Ev.bind hga ?_
  simp only [Bool.false_eq_true, if_false]
  rw [if_neg h]
  exact Ev.now _
theorem and255 (x : Int) : 0 ≤ wrap64 (Go.bits .and .u64 x 255) ∧ wrap64 (Go.bits .and .u64 x 255) ≤ 255 := by
 have e : ∃ n : Nat, n ≤ 255 ∧ Go.bits .and .u64 x 255 = IntKind.u64.wrap (n : Int) := by
  refine ⟨(BitVec.ofInt 64 x &&& BitVec.ofInt 64 255).toNat, ?_, rfl⟩
  rw [BitVec.toNat_and]
  exact Nat.le_trans Nat.and_le_right (by decide)
 obtain ⟨n, hn, e⟩ := e
 rw [e]
 have e2 : IntKind.u64.wrap (n : Int) = (n : Int) := by
  simp only [IntKind.wrap, IntKind.bits, IntKind.signed, Bool.false_and, Bool.false_eq_true, if_false]
  omega
 rw [e2, wrap_id (by omega) (by omega)]
 omega
theorem next_ok (c : List Int) (hc : ∀ x ∈ c, 0 ≤ x ∧ x ≤ 255) (hl : c.length ≤ 1048576) (a s : Int) (h0 : 0 ≤ a) (h1 : a ≤ 1152921504606846976) :
  ∃ r s', spec_l1Cur_next.f c a s = some (r, a + 1, s') ∧ 0 ≤ r ∧ r ≤ 255 := by
 unfold spec_l1Cur_next.f
 rw [wrap_id (x := a + 1) (by omega) (by omega)]
 by_cases h : a < (c.length : Int)
 ·have hm : rd c a ∈ c := by
   unfold rd
   rw [List.getD_eq_getElem?_getD, List.getElem?_eq_getElem (by omega)]
   exact List.getElem_mem _
  have hb := hc _ hm
  rw [if_pos h, if_pos h0]
  by_cases h2 : a + 1 ≤ (c.length : Int)
  ·rw [if_pos h2, wrap_id (x := rd c a) (by omega) (by omega)]
   exact ⟨_, _, rfl, hb.1, hb.2⟩
  ·omega
 ·rw [if_neg h, if_neg (by omega)]
  exact ⟨_, _, rfl, (and255 _).1, (and255 _).2⟩
theorem pick_ok (c : List Int) (hc : ∀ x ∈ c, 0 ≤ x ∧ x ≤ 255) (hl : c.length ≤ 1048576) (a s n : Int) (h0 : 0 ≤ a) (h1 : a ≤ 1125899906842624) :
  ∃ r a' s', spec_l1Cur_pick.f c a s n = some (r, a', s') ∧ 0 ≤ r ∧ (n ≤ 1 → r = 0) ∧ (2 ≤ n → r < n) ∧ a ≤ a' ∧ a' ≤ a + 2 := by
 unfold spec_l1Cur_pick.f
 by_cases hn : n ≤ 1
 ·rw [if_pos hn]
  exact ⟨0, a, s, rfl, by omega, fun _ => rfl, by omega, by omega, by omega⟩
 ·rw [if_neg hn]
  obtain ⟨r, s', e, r0, r1⟩ := next_ok c hc hl a s h0 (by omega)
  rw [e]
  simp only [Option.bind_some]
  by_cases h2 : n > 200
  ·rw [if_pos h2]
   obtain ⟨q, s2, e2, q0, q1⟩ := next_ok c hc hl (a + 1) s' (by omega) (by omega)
   rw [e2]
   simp only [Option.bind_some]
   rw [if_neg (by omega), wrap_id (x := r * 256) (by omega) (by omega), wrap_id (x := r * 256 + q) (by omega) (by omega), Int.tmod_eq_emod_of_nonneg (by omega)]
   exact ⟨_, _, _, rfl, Int.emod_nonneg _ (by omega), fun h => absurd h hn, fun _ => Int.emod_lt_of_pos _ (by omega), by omega, by omega⟩
  ·rw [if_neg h2, if_neg (by omega), Int.tmod_eq_emod_of_nonneg r0]
   exact ⟨_, _, _, rfl, Int.emod_nonneg _ (by omega), fun h => absurd h hn, fun _ => Int.emod_lt_of_pos _ (by omega), by omega, by omega⟩
theorem one_ok (c : List Int) (hc : ∀ x ∈ c, 0 ≤ x ∧ x ≤ 255) (hl : c.length ≤ 1048576) (a s n : Int) (h0 : 0 ≤ a) (h1 : a ≤ 1125899906842624) :
  ∃ b a' s', spec_l1Cur_one.f c a s n = some (b, a', s') ∧ a ≤ a' ∧ a' ≤ a + 2 := by
 unfold spec_l1Cur_one.f
 obtain ⟨r, a', s', e, _, _, _, g1, g2⟩ := pick_ok c hc hl a s n h0 h1
 rw [e]
 exact ⟨_, _, _, rfl, g1, g2⟩
theorem among_ok (c : List Int) (hc : ∀ x ∈ c, 0 ≤ x ∧ x ≤ 255) (hl : c.length ≤ 1048576) (a s : Int) (l : List Int) (hn : 0 < l.length) (h0 : 0 ≤ a) (h1 : a ≤ 1125899906842624) :
  ∃ r a' s', spec_l1Cur_among.f c a s l = some (r, a', s') ∧ r ∈ l ∧ a ≤ a' ∧ a' ≤ a + 2 := by
 unfold spec_l1Cur_among.f
 obtain ⟨r, a', s', e, r0, r1, r2, g1, g2⟩ := pick_ok c hc hl a s (l.length : Int) h0 h1
 rw [e]
 simp only [Option.bind_some]
 have hlt : r < (l.length : Int) := by
  by_cases h : 2 ≤ (l.length : Int)
  ·exact r2 h
  ·have := r1 (by omega); omega
 rw [if_pos r0, if_pos hlt]
 refine ⟨_, _, _, rfl, ?_, g1, g2⟩
 unfold rd
 rw [List.getD_eq_getElem?_getD, List.getElem?_eq_getElem (by omega)]
 exact List.getElem_mem _
theorem bytes_ok {q : List Int} (hq : ∀ x ∈ q, (Lit.int .u8 x).wf = true) : ∀ x ∈ q, 0 ≤ x ∧ x ≤ 255 := fun x hx => by
 have := hq x hx
 simp only [Lit.wf, IntKind.has, IntKind.min, IntKind.max, IntKind.signed, IntKind.bits, Bool.and_eq_true, decide_eq_true_eq, Bool.false_eq_true, if_false] at this
 omega
-- The drawn lists of edges are short, whatever bytes they are drawn from.
theorem up1 (v : Nat) (h : v ≤ 1000) : wrap64 ((v : Int) + 1) = ((v + 1 : Nat) : Int) := by rw [wrap_id (by omega) (by omega)]; omega
theorem edges_l0 (c : List Int) (hc : ∀ x ∈ c, 0 ≤ x ∧ x ≤ 255) (hl : c.length ≤ 1048576) (n : Nat) (hn : n ≤ 13) (p : Int) (d : Nat) :
  ∀ (u : Nat) (l : List S79) (a s : Int), u + d = n → l.length ≤ 40 → 0 ≤ a → a ≤ 100000 - 60 * d → ∃ r a' s', Ev (fun k => spec_l1Cur_edges.l0 k n l p u c a s) ((n : Int), r, a', s') ∧ r.length ≤ 40 ∧ a ≤ a' ∧ a' ≤ a + 60 * d + 10 := by
 induction d with
 | zero =>
  intro u l a s hu hl2 h0 h1
  by_cases hp : (l.length : Int) > 0
  ·obtain ⟨b, a1, s1, e1, g1, g1'⟩ := one_ok c hc hl a s 30 h0 (by omega)
   cases b with
   | true =>
    obtain ⟨r2, a2, s2, e2, _, g2, g2'⟩ := among_ok c hc hl a1 s1 [0, 100, 101] (by decide) (by omega) (by omega)
    refine ⟨l.set (0 : Int).toNat ⟨(rd_T79 l 0).f0, (rd_T79 l 0).f1, r2⟩, a2, s2, Ev.succ ?_, by simpa using hl2, by omega, by omega⟩
    simp only [spec_l1Cur_edges.l0, if_neg (show ¬ (u : Int) < n by omega), if_pos hp, e1, Option.bind_some, if_true]
    rw [e2]
    simp only [Option.bind_some, if_pos (show (0 : Int) < (l.length : Int) from hp)]
    exact Ev.now _
   | false =>
    refine ⟨l, a1, s1, Ev.succ ?_, hl2, by omega, by omega⟩
    simp only [spec_l1Cur_edges.l0, if_neg (show ¬ (u : Int) < n by omega), if_pos hp, e1, Option.bind_some, Bool.false_eq_true, if_false]
    exact Ev.now _
  ·refine ⟨l, a, s, Ev.succ ?_, hl2, by omega, by omega⟩
   simp only [spec_l1Cur_edges.l0, if_neg (show ¬ (u : Int) < n by omega), if_neg hp]
   exact Ev.now _
 | succ d ih =>
  intro u l a s hu hl2 h0 h1
  have hd : d ≤ 12 := by omega
  have key : ∀ (d2 : Nat) (v : Nat) (l : List S79) (a s : Int), v + d2 = n → l.length ≤ 40 → 0 ≤ a → a + 4 * d2 ≤ 100000 - 60 * d → d2 ≤ 12 → ∃ r a' s', Ev (fun k => spec_l1Cur_edges.l1 k n l p u v c a s) ((n : Int), r, a', s') ∧ r.length ≤ 40 ∧ a ≤ a' ∧ a' ≤ a + 4 * d2 + (60 * d + 10) := by
   intro d2
   induction d2 with
   | zero =>
    intro v l a s hv hl2 h0 h1 _
    obtain ⟨r, a', s', e, hr, g, g'⟩ := ih (u + 1) l a s (by omega) hl2 h0 (by omega)
    refine ⟨r, a', s', Ev.succ ?_, hr, g, by omega⟩
    simp only [spec_l1Cur_edges.l1, if_neg (show ¬ (v : Int) < n by omega)]
    rw [up1 u (by omega)]
    exact e
   | succ d2 ih2 =>
    intro v l a s hv hl2 h0 h1 h12
    obtain ⟨b, a1, s1, e1, g1, g1'⟩ := one_ok c hc hl a s (wrap64 (1 + p)) h0 (by omega)
    have skip : ∃ r a' s', Ev (fun k => spec_l1Cur_edges.l1 k n l p u (wrap64 ((v : Int) + 1)) c a1 s1) ((n : Int), r, a', s') ∧ r.length ≤ 40 ∧ a ≤ a' ∧ a' ≤ a + 4 * ((d2 + 1 : Nat) : Int) + (60 * d + 10) := by
     obtain ⟨r, a', s', e, hr, g, g'⟩ := ih2 (v + 1) l a1 s1 (by omega) hl2 (by omega) (by omega) (by omega)
     rw [up1 v (by omega)]
     exact ⟨r, a', s', e, hr, by omega, by omega⟩
    cases b with
    | false =>
     obtain ⟨r, a', s', e, hr, g, g'⟩ := skip
     refine ⟨r, a', s', Ev.succ ?_, hr, g, g'⟩
     simp only [spec_l1Cur_edges.l1, if_pos (show (v : Int) < n by omega), e1, Option.bind_some, Bool.false_eq_true, if_false]
     exact e
    | true =>
     by_cases h40 : (l.length : Int) < 40
     ·obtain ⟨q, a2, s2, e2, _, _, _, g2, g2'⟩ := pick_ok c hc hl a1 s1 5 (by omega) (by omega)
      obtain ⟨r, a', s', e, hr, g, g'⟩ := ih2 (v + 1) (l ++ [⟨(u : Int), (v : Int), wrap64 (1 + q)⟩]) a2 s2 (by omega) (by simp <;> omega) (by omega) (by omega) (by omega)
      refine ⟨r, a', s', Ev.succ ?_, hr, by omega, by omega⟩
      simp only [spec_l1Cur_edges.l1, if_pos (show (v : Int) < n by omega), e1, Option.bind_some, if_true, if_pos h40]
      rw [e2]
      simp only [Option.bind_some, if_pos (show l.length < 5864062014805 by omega)]
      rw [up1 v (by omega)]
      exact e
     ·obtain ⟨r, a', s', e, hr, g, g'⟩ := skip
      refine ⟨r, a', s', Ev.succ ?_, hr, g, g'⟩
      simp only [spec_l1Cur_edges.l1, if_pos (show (v : Int) < n by omega), e1, Option.bind_some, if_true, if_neg h40]
      exact e
  obtain ⟨r, a', s', e, hr, g, g'⟩ := key d (u + 1) l a s (by omega) hl2 h0 (by omega) hd
  refine ⟨r, a', s', Ev.succ ?_, hr, g, by omega⟩
  simp only [spec_l1Cur_edges.l0, if_pos (show (u : Int) < n by omega)]
  rw [up1 u (by omega)]
  exact e
theorem edges_ok (c : List Int) (hc : ∀ x ∈ c, 0 ≤ x ∧ x ≤ 255) (hl : c.length ≤ 1048576) :
  ∃ (n : Int) (r : List S79) (a' s' : Int), Ev (fun k => spec_l1Cur_edges.f k c 0 0) (n, r, a', s') ∧ 0 ≤ n ∧ n ≤ 13 ∧ r.length ≤ 40 ∧ 0 ≤ a' ∧ a' ≤ 10000 := by
 obtain ⟨r1, a1, s1, e1, r10, _, r12, g1, g1'⟩ := pick_ok c hc hl 0 0 8 (by omega) (by omega)
 obtain ⟨b, a2, s2, e2, g2, g2'⟩ := one_ok c hc hl a1 s1 30 (by omega) (by omega)
 have := r12 (by omega)
 have fin : ∀ (n : Int) (a s : Int), 0 ≤ n → n ≤ 13 → 0 ≤ a → a ≤ 100 → ∃ (r : List S79) (a' s' : Int), Ev (fun k => spec_l1Cur_edges.j0 k n c a s) (n, r, a', s') ∧ r.length ≤ 40 ∧ 0 ≤ a' ∧ a' ≤ 10000 := by
  intro n a s h0 h1 ha ha1
  obtain ⟨m, rfl⟩ := Int.eq_ofNat_of_zero_le h0
  obtain ⟨q, a3, s3, e3, _, _, _, g3, g3'⟩ := pick_ok c hc hl a s 3 ha (by omega)
  obtain ⟨r, a4, s4, e4, hr, g4, g4'⟩ := edges_l0 c hc hl m (by omega) (wrap64 (1 + q)) m 0 [] a3 s3 (by omega) (by simp) (by omega) (by omega)
  refine ⟨r, a4, s4, Ev.succ ?_, hr, by omega, by omega⟩
  simp only [spec_l1Cur_edges.j0, e3, Option.bind_some]
  exact e4
 cases b with
 | true =>
  obtain ⟨r3, a3, s3, e3, m3, g3, g3'⟩ := among_ok c hc hl a2 s2 [0, 12, 13] (by decide) (by omega) (by omega)
  have hr3 : 0 ≤ r3 ∧ r3 ≤ 13 := by
   simp only [List.mem_cons, List.not_mem_nil, or_false] at m3
   omega
  obtain ⟨r, a4, s4, e4, hr, g4, g4'⟩ := fin r3 a3 s3 hr3.1 hr3.2 (by omega) (by omega)
  refine ⟨r3, r, a4, s4, ?_, hr3.1, hr3.2, hr, g4, g4'⟩
  unfold spec_l1Cur_edges.f
  simp only [e1, Option.bind_some]
  rw [e2]
  simp only [Option.bind_some, if_true]
  rw [e3]
  simp only [Option.bind_some]
  exact e4
 | false =>
  obtain ⟨r, a4, s4, e4, hr, g4, g4'⟩ := fin (1 + r1) a2 s2 (by omega) (by omega) (by omega) (by omega)
  refine ⟨1 + r1, r, a4, s4, ?_, by omega, by omega, hr, g4, g4'⟩
  unfold spec_l1Cur_edges.f
  simp only [e1, Option.bind_some]
  rw [e2]
  simp only [Option.bind_some, Bool.false_eq_true, if_false]
  rw [wrap_id (x := 1 + r1) (by omega) (by omega)]
  exact e4
-- the drawn numbers for shortening are few
theorem drawNear_ok (c : List Int) (hc : ∀ x ∈ c, 0 ≤ x ∧ x ≤ 255) (hl : c.length ≤ 1048576) : ∃ n l v, Ev (fun k => spec_DrawNearOf.f k c) (n, l, v) ∧ 0 ≤ n ∧ n ≤ 13 ∧ l.length ≤ 40 ∧ -1 ≤ v ∧ v ≤ 20 := by
 obtain ⟨n, l, a, s, e, hn0, hn1, hl2, h0, h1⟩ := edges_ok c hc hl
 obtain ⟨r1, a1, s1, e1, g0, g1, g2, _, _⟩ := pick_ok c hc hl a s (wrap64 (n + 2)) h0 (by omega)
 rw [wrap_id (by omega) (by omega)] at g1 g2
 refine ⟨n, l, wrap64 (r1 - 1), ?_, hn0, hn1, hl2, ?_⟩
 ·unfold spec_DrawNearOf.f
  refine Ev.bind e ?_
  simp only [e1, Option.bind_some]
  exact Ev.now _
 ·by_cases h : 2 ≤ n + 2
  ·have := g2 h
   rw [wrap_id (by omega) (by omega)]
   omega
  ·omega
-- the law's own comparison of two lists of numbers
theorem sameInts_l (s : List Int) : ∀ (t pre qre : List Int), pre.length = qre.length → s.length = t.length → (pre.length : Int) + s.length ≤ 1099511627776 →
  Ev (fun k => laws_sameInts.l0 k (pre ++ s) (qre ++ t) ((pre ++ s).length : Int) pre.length) (decide (s = t)) := by
 induction s with
 | nil =>
  intro t pre qre hq hl hb
  obtain rfl : t = [] := List.eq_nil_of_length_eq_zero (by simpa using hl.symm)
  refine Ev.succ ?_
  simp only [laws_sameInts.l0, List.append_nil, Int.lt_irrefl, if_false, decide_true]
  exact Ev.now _
 | cons x s ih =>
  intro t pre qre hq hl hb
  cases t with
  | nil => simp at hl
  | cons y t =>
   simp only [List.length_cons] at hl hb
   have h := ih t (pre ++ [x]) (qre ++ [y]) (by simp; omega) (by omega) (by simp; omega)
   rw [← app_one, ← app_one, len_mid, len_one] at h
   have hy : rd (qre ++ y :: t) (pre.length : Int) = y := by rw [hq]; exact rd_mid qre y t
   refine Ev.succ ?_
   simp only [laws_sameInts.l0]
   simp only [len_mid, if_pos (show ((pre.length : Int) < pre.length + s.length + 1) by omega), if_pos (show (0 : Int) ≤ pre.length by omega), if_pos (show ((pre.length : Int) < qre.length + t.length + 1) by omega), rd_mid, hy, wrap_id (show (-9223372036854775808 : Int) ≤ pre.length + 1 by omega) (show ((pre.length : Int) + 1 ≤ 9223372036854775807) by omega)]
   by_cases e : x = y
   ·simp only [if_pos e]
    rw [show decide (x :: s = y :: t) = decide (s = t) by simp [e]]
    exact h
   ·simp only [if_neg e]
    rw [show decide (x :: s = y :: t) = false by simp [e]]
    exact Ev.now _
theorem sameInts_ev (s t : List Int) (hs : s.length ≤ 1099511627776) : Ev (fun k => laws_sameInts.f k s t) (decide (s = t)) := by
 unfold laws_sameInts.f
 by_cases hl : s.length = t.length
 ·simp only [if_pos (show (s.length : Int) = t.length by omega)]
  have := sameInts_l s t [] [] rfl hl (by simp; omega)
  exact this
 ·simp only [if_neg (show ¬ (s.length : Int) = t.length by omega)]
  rw [decide_eq_false (fun e => hl (by rw [e]))]
  exact Ev.now _
theorem has_l (x : Int) : ∀ (suf pre : List Int), ((pre ++ suf).length : Int) ≤ 1099511627776 → Ev (fun k => laws_has.l0 k x (pre ++ suf) ((pre ++ suf).length : Int) pre.length) (decide (x ∈ suf))
 | [], pre, h => by
  refine Ev.succ ?_
  simp only [laws_has.l0, List.append_nil, Int.lt_irrefl, if_false]
  exact Ev.some_ (by simp)
 | y :: suf, pre, h => by
  have h' := h
  rw [len_mid] at h
  refine Ev.succ ?_
  simp only [laws_has.l0, if_pos (show (pre.length : Int) < ((pre ++ y :: suf).length : Int) by rw [len_mid]; omega), if_pos (show (0 : Int) ≤ pre.length by omega), rd_mid, wrap_id (show (-9223372036854775808 : Int) ≤ pre.length + 1 by omega) (show ((pre.length : Int) + 1 ≤ 9223372036854775807) by omega)]
  by_cases e : y = x
  ·simp only [if_pos e]
   exact Ev.some_ (by rw [e]; simp)
  ·simp only [if_neg e]
   have := has_l x suf (pre ++ [y]) (by rw [← app_one]; exact h')
   rw [← app_one, len_one] at this
   rw [show decide (x ∈ y :: suf) = decide (x ∈ suf) by simp [show ¬ x = y from fun h => e h.symm]]
   exact this
theorem has_ev (x : Int) (l : List Int) (h : (l.length : Int) ≤ 1099511627776) : Ev (fun k => laws_has.f k l x) (decide (x ∈ l)) := has_l x l [] h
theorem sameHops_l (s : List S61) (hs : s.length ≤ 1000000) (d : Nat) : ∀ (c : Nat), c + d = s.length → Ev (fun k => laws_sameHops.l0 k s s s.length c) true := by
 induction d with
 | zero =>
  intro c h
  refine Ev.succ ?_
  simp only [laws_sameHops.l0, if_neg (show ¬ (c : Int) < (s.length : Int) by omega)]
  exact Ev.now _
 | succ d ih =>
  intro c h
  refine Ev.succ ?_
  simp only [laws_sameHops.l0, if_pos (show (c : Int) < (s.length : Int) by omega), if_pos (show (0 : Int) ≤ c by omega), beq_self_eq_true, Bool.not_true, Bool.or_self, Bool.false_eq_true, if_false, wrap_id (show (-9223372036854775808 : Int) ≤ c + 1 by omega) (show ((c : Int) + 1 ≤ 9223372036854775807) by omega)]
  exact ih (c + 1) (by omega)
theorem sameHops_ev (s : List S61) (hs : s.length ≤ 1000000) : Ev (fun k => laws_sameHops.f k s s) true := by
 unfold laws_sameHops.f
 simp only [if_true]
 exact sameHops_l s hs s.length 0 (by omega)
-- what is drawn
theorem treeAt_pos {n : Int} {l : List S79} {v : Int} (h : (treeAt n l v).2 = true) : 1 ≤ (treeAt n l v).1.length := by
 unfold treeAt at h ⊢
 by_cases hg : goodE n l = true
 ·have := goodE_n hg
  rw [if_pos hg] at h ⊢
  by_cases hv : 0 ≤ v ∧ v ≤ wrap64 (n - 1)
  ·rw [if_pos hv]
   show 1 ≤ (pars n.toNat l v n.toNat).length
   rw [pars_len]
   omega
  ·rw [if_neg hv] at h
   simp at h
 ·rw [if_neg hg] at h
  simp at h
theorem parents_ok (c : List Int) (hc : ∀ x ∈ c, 0 ≤ x ∧ x ≤ 255) (hl : c.length ≤ 1048576) : ∃ p a s, Ev (fun k => spec_l1Cur_parents.f k c 0 0) (p, a, s) ∧ p.length ≤ 12 ∧ 0 ≤ a ∧ a ≤ 20000 := by
 obtain ⟨n, l, a, s, e, hn0, hn1, hl2, h0, h1⟩ := edges_ok c hc hl
 obtain ⟨r1, a1, s1, e1, _, _, _, g1, g1'⟩ := pick_ok c hc hl a s n h0 (by omega)
 have ht := specTreeAt_ev n l r1 (by omega)
 have hlen := treeAt_len n l r1
 have hpos := treeAt_pos (n := n) (l := l) (v := r1)
 generalize treeAt n l r1 = t at ht hlen hpos
 by_cases hok : t.2 = true
 ·obtain ⟨b, a2, s2, e2, g2, g2'⟩ := one_ok c hc hl a1 s1 12 (by omega) (by omega)
  have hp := hpos hok
  by_cases hb : b = true
  ·obtain ⟨r3, a3, s3, e3, r30, r31, r32, g3, g3'⟩ := pick_ok c hc hl a2 s2 (t.1.length : Int) (by omega) (by omega)
   obtain ⟨r4, a4, s4, e4, r40, r41, r42, g4, g4'⟩ := pick_ok c hc hl a3 s3 9 (by omega) (by omega)
   have hlt : r3 < (t.1.length : Int) := by
    by_cases h : 2 ≤ (t.1.length : Int)
    ·exact r32 h
    ·have := r31 (by omega); omega
   refine ⟨t.1.set r3.toNat (wrap64 (r4 - 2)), a4, s4, ?_, by rw [List.length_set]; exact hlen, by omega, by omega⟩
   unfold spec_l1Cur_parents.f
   refine Ev.bind e ?_
   simp only [e1, Option.bind_some]
   refine Ev.bind ht ?_
   simp only [hok, if_true, e2, Option.bind_some, hb]
   refine Ev.succ ?_
   simp only [spec_l1Cur_parents.j0, if_true, e3, e4, Option.bind_some, if_pos r30, if_pos hlt]
   exact Ev.now _
  ·refine ⟨t.1, a2, s2, ?_, hlen, by omega, by omega⟩
   unfold spec_l1Cur_parents.f
   refine Ev.bind e ?_
   simp only [e1, Option.bind_some]
   refine Ev.bind ht ?_
   simp only [hok, if_true, e2, Option.bind_some]
   refine Ev.succ ?_
   simp only [spec_l1Cur_parents.j0, if_neg hb]
   exact Ev.now _
 ·refine ⟨t.1, a1, s1, ?_, hlen, by omega, by omega⟩
  unfold spec_l1Cur_parents.f
  refine Ev.bind e ?_
  simp only [e1, Option.bind_some]
  refine Ev.bind ht ?_
  simp only [if_neg hok]
  refine Ev.succ ?_
  simp only [spec_l1Cur_parents.j0, Bool.false_eq_true, if_false]
  exact Ev.now _
theorem drawSpread_ok (c : List Int) (hc : ∀ x ∈ c, 0 ≤ x ∧ x ≤ 255) (hl : c.length ≤ 1048576) : ∃ p v, Ev (fun k => spec_DrawSpreadOn.f k c) (p, v) ∧ p.length ≤ 12 := by
 obtain ⟨p, a, s, e, hp, h0, h1⟩ := parents_ok c hc hl
 obtain ⟨r1, a1, s1, e1, _, _, _, _, _⟩ := pick_ok c hc hl a s (wrap64 ((p.length : Int) + 2)) h0 (by omega)
 refine ⟨p, wrap64 (r1 - 1), ?_, hp⟩
 unfold spec_DrawSpreadOn.f
 refine Ev.bind e ?_
 simp only [e1, Option.bind_some]
 exact Ev.now _
theorem drawComes_ok (c : List Int) (hc : ∀ x ∈ c, 0 ≤ x ∧ x ≤ 255) (hl : c.length ≤ 1048576) : ∃ p v u, Ev (fun k => spec_DrawComesFrom.f k c) (p, v, u) ∧ p.length ≤ 12 := by
 obtain ⟨p, a, s, e, hp, h0, h1⟩ := parents_ok c hc hl
 obtain ⟨r1, a1, s1, e1, _, _, _, g1, g1'⟩ := pick_ok c hc hl a s (wrap64 ((p.length : Int) + 1)) h0 (by omega)
 obtain ⟨r2, a2, s2, e2, _, _, _, g2, g2'⟩ := pick_ok c hc hl a1 s1 9 (by omega) (by omega)
 obtain ⟨r3, a3, s3, e3, _, _, _, g3, g3'⟩ := pick_ok c hc hl a2 s2 9 (by omega) (by omega)
 obtain ⟨r4, a4, s4, e4, _, _, _, g4, g4'⟩ := pick_ok c hc hl a3 s3 (wrap64 ((p.length : Int) + (wrap64 (Int.tdiv r3 8)))) (by omega) (by omega)
 refine ⟨p, wrap64 (r1 - (wrap64 (Int.tdiv r2 8))), r4, ?_, hp⟩
 unfold spec_DrawComesFrom.f
 refine Ev.bind e ?_
 simp only [e1, e2, e3, e4, Option.bind_some]
 exact Ev.now _
theorem spreadLaw_j6 (d : List Int) (hd : ∀ x ∈ d, 0 ≤ x ∧ x ≤ 255) (hl : d.length ≤ 1048576) : Ev (fun k => laws_FnSpread.j6 k d) true := by
 obtain ⟨p, v, e, hp⟩ := drawSpread_ok d hd hl
 obtain ⟨q, s, t, e2, hq⟩ := drawComes_ok d hd hl
 have h1 := spreadOn_len p v
 have h2 := onTree_len q s t
 refine Ev.succ ?_
 simp only [laws_FnSpread.j6]
 refine Ev.bind e ?_
 refine Ev.bind (implSpreadOn_ev p v (by omega)) ?_
 refine Ev.bind (specSpreadOn_ev p v (by omega)) ?_
 refine Ev.bind e2 ?_
 refine Ev.bind (implComes_ev q s t (by omega)) ?_
 refine Ev.bind (specComes_ev q s t (by omega)) ?_
 refine Ev.bind (implOnTree_ev q s t (by omega)) ?_
 refine Ev.bind (specOnTree_ev q s t (by omega)) ?_
 simp only [beq_self_eq_true, if_true]
 refine Ev.bind (sameHops_ev _ (by omega)) ?_
 simp only [if_true]
 refine Ev.bind (sameInts_ev _ _ (by omega)) ?_
 simp only [decide_true, if_true]
 refine Ev.bind (implGoodP_ev p (by omega)) ?_
 refine Ev.bind (specGoodP_ev p (by omega)) ?_
 simp only [beq_self_eq_true]
 exact Ev.now _
-- the order in which the hops stand
theorem spread_ord {l : List Int} {s : Int} {D : Int → Nat} (h0 : 0 ≤ s) (hs : s < l.length) (hb : ∀ u : Int, 0 ≤ u → u < l.length → -1 ≤ rd l u ∧ rd l u < l.length) (hD : ∀ u : Int, 0 ≤ u → u < l.length → D u = D (rd l u) + 1) : ∀ (d : Nat) (P : List Int) (out q : List (Int × Int)), FInv l s P out q → (∀ pre y suf, out = pre ++ y :: suf → y.1 ∈ s :: tos pre) → P.length + d = l.length → ∀ pre y suf, sprd l d out q = pre ++ y :: suf → y.1 ∈ s :: tos pre := by
 intro d
 induction d with
 | zero =>
  intro P out q h ho hd
  have := h.base.len
  obtain rfl : q = [] := List.eq_nil_of_length_eq_zero (by omega)
  exact ho
 | succ d ih =>
  intro P out q h ho hd
  cases q with
  | nil => exact ho
  | cons x q =>
   refine ih _ _ _ (h.step h0 hs hb hD) ?_ (by simp; omega)
   intro pre y suf e
   have hx : x.2 ∈ s :: tos out := by rw [← h.eq]; simp [tos]
   rcases List.append_eq_append_iff.1 e with ⟨c, e1, e2⟩ | ⟨c, e1, e2⟩
   ·have hy : y ∈ fan x.2 (kidsM l x.1 x.2 (joinC l x.2 l.length)) := by rw [e2]; simp
    obtain ⟨u, _, rfl⟩ := List.mem_map.1 hy
    rw [e1, tos_app, ← List.cons_append]
    exact List.mem_append.2 (Or.inl hx)
   ·cases c with
    | nil =>
     have hy : y ∈ fan x.2 (kidsM l x.1 x.2 (joinC l x.2 l.length)) := by rw [List.nil_append] at e2; rw [← e2]; simp
     obtain ⟨u, _, rfl⟩ := List.mem_map.1 hy
     rw [List.append_nil] at e1
     rw [← e1]
     exact hx
    | cons z c =>
     rw [List.cons_append] at e2
     obtain ⟨rfl, _⟩ := List.cons.inj e2
     exact ho pre y c e1
theorem spreadM_ord {l : List Int} (hg : goodP l = true) {s : Int} (h0 : 0 ≤ s) (hs : s < l.length) : ∀ pre y suf, spreadM l s = pre ++ y :: suf → y.1 ∈ s :: tos pre := by
 obtain ⟨_, _, hb, D, hD⟩ := good_deep hg
 exact spread_ord h0 hs hb hD l.length [] [] [(-1, s)] ⟨⟨by simp [tos], by simp [tos]; exact ⟨h0, hs⟩, by simp; exact Or.inl ⟨rfl, rfl⟩, by simp [tos]⟩, by simp [tos], by simp, by simp⟩ (by simp) (by simp)
theorem onGo_true (B : List Int) : ∀ (A pre : List Int), (∃ x ∈ A, x ∈ B) → (onGo B pre A).2 = true
 | [], _, h => by obtain ⟨x, hx, _⟩ := h; simp at hx
 | x :: A, pre, h => by
  rw [onGo]
  by_cases hx : x ∈ B
  ·rw [if_pos hx]
  ·rw [if_neg hx]
   refine onGo_true B A _ ?_
   obtain ⟨y, hy, hyB⟩ := h
   rcases List.mem_cons.1 hy with e | hy
   ·exact absurd (e ▸ hyB) hx
   ·exact ⟨y, hy, hyB⟩
theorem comes_hop {l : List Int} (hg : goodP l = true) {s : Int} (h0 : 0 ≤ s) (hs : s < l.length) {y : Int × Int} (hy : y ∈ spreadM l s) : comesFrom l s y.2 = (y.1, true) := by
 obtain ⟨_, _, hb, D, hD⟩ := good_deep hg
 obtain ⟨hn, hi, hc, hG⟩ := spread_fin h0 hs hb hD
 have hm : y.2 ∈ tos (spreadM l s) := List.mem_map.2 ⟨y, hy, rfl⟩
 have hin := hi y.2 (List.mem_cons_of_mem _ hm)
 have hne : s ≠ y.2 := fun e => (List.nodup_cons.1 hn).1 (e ▸ hm)
 have hS := good_up hg h0 hs
 have hY := good_up hg hin.1 hin.2
 obtain ⟨x, hx, hxs⟩ := group_meets h0 hS hb hD hi hc (D y.2) y.2 (Nat.le_refl _) (List.mem_cons_of_mem _ hm) _ hY
 have ht : (onTreeM l s y.2).2 = true := onGo_true _ _ _ ⟨x, hxs, hx⟩
 obtain ⟨w', f, e, hf, _⟩ := onTreeM_two hg h0 hs hin.1 hin.2 hne ht
 have hcond : (goodP l = true ∧ (0 ≤ s ∧ s < l.length) ∧ (0 ≤ y.2 ∧ y.2 < l.length)) ∧ s ≠ y.2 := ⟨⟨hg, ⟨h0, hs⟩, hin⟩, hne⟩
 unfold comesFrom
 rw [if_pos hcond, if_pos ht, e, rd_two, Came_one h0 hs hb hD hf (hc y hy).1]
-- the tree of a root: who is met, and what the way costs
theorem group_far {n : Int} {l : List S79} (h : goodE n l = true) {a : Int} (ha : 0 ≤ a) (ha1 : a < n) {s : Int} (hs : 0 ≤ s) (hs1 : s < n) (hsf : rd (farsM n.toNat l a) s < 100000) {v : Int} (hv : 0 ≤ v) (hv1 : v < n) : v ∈ s :: tos (spreadM (pars n.toNat l a n.toNat) s) ↔ rd (farsM n.toNat l a) v < 100000 := by
 have hg := pars_good h ha ha1
 have hl : (pars n.toNat l a n.toNat).length = n.toNat := pars_len _ _ _ _
 have hn := goodE_n h
 obtain ⟨_, _, hb, D, hD⟩ := good_deep hg
 have hs1' : s < ((pars n.toNat l a n.toNat).length : Int) := by rw [hl]; omega
 have hv1' : v < ((pars n.toNat l a n.toNat).length : Int) := by rw [hl]; omega
 obtain ⟨_, hi, hc, hG⟩ := spread_fin hs hs1' hb hD
 obtain ⟨A, hA, _, hA2, hA3⟩ := climb_short h ha ha1 hv hv1
 obtain ⟨B, hB, _, hB2, _⟩ := climb_short h ha ha1 hs hs1
 constructor
 ·intro hm
  obtain ⟨x, hx, hxB⟩ := group_meets hs hB hb hD hi hc (D v) v (Nat.le_refl _) hm A hA
  by_cases hf : rd (farsM n.toNat l a) v < 100000
  ·exact hf
  ·rw [hA3 hf, List.mem_singleton] at hx
   have := ((hB2 hsf).2 x hxB).2.2
   rw [hx] at this
   exact this
 ·intro hf
  have haG := group_up hG hb B s hB hs1' (by simp) a (hB2 hsf).1
  exact group_down (s := s) hG hb A v hA hv1' ⟨a, (hA2 hf).1, haG⟩
theorem Climb_rest {l : List Int} : ∀ (B1 : List Int) (y : Int) (r : List Int) (u : Int), Climb l u (B1 ++ y :: r) → Climb l (rd l y) r
 | [], y, r, u, h => by have h2 := h.2.2; rw [← h.2.1] at h2; exact h2
 | x :: B1, y, r, u, h => Climb_rest B1 y r _ h.2.2
theorem way_down {n : Int} {l : List S79} (h : goodE n l = true) {a : Int} (ha : 0 ≤ a) (ha1 : a < n) {v : Int} (hv : 0 ≤ v) (hv1 : v < n) :
  (rd (farsM n.toNat l a) v < 100000 → (onTree (pars n.toNat l a n.toNat) a v).2 = true ∧ costOf n l (onTree (pars n.toNat l a n.toNat) a v).1 = (rd (farsM n.toNat l a) v, true)) ∧ (¬ rd (farsM n.toNat l a) v < 100000 → (onTree (pars n.toNat l a n.toNat) a v).2 = false) := by
 have hg := pars_good h ha ha1
 have hl : (pars n.toNat l a n.toNat).length = n.toNat := pars_len _ _ _ _
 have hn := goodE_n h
 have ha1' : a < ((pars n.toNat l a n.toNat).length : Int) := by rw [hl]; omega
 have hv1' : v < ((pars n.toNat l a n.toNat).length : Int) := by rw [hl]; omega
 have hcond : goodP (pars n.toNat l a n.toNat) = true ∧ (0 ≤ a ∧ a < (pars n.toNat l a n.toNat).length) ∧ (0 ≤ v ∧ v < (pars n.toNat l a n.toNat).length) := ⟨hg, ⟨ha, ha1'⟩, hv, hv1'⟩
 have hself := fars_self (okE_of h) ha (show a < (n.toNat : Int) by omega)
 have hroot : rd (pars n.toNat l a n.toNat) a = -1 := by rw [pars_at _ _ _ _ ha (by omega), par_root]
 have hA : climbM (pars n.toNat l a n.toNat) a = [a] := Climb_one _ _ a (good_up hg ha ha1') ⟨ha, rfl, show _ < 0 by rw [hroot]; omega⟩
 obtain ⟨B, hB, hBl, hB2, hB3⟩ := climb_short h ha ha1 hv hv1
 have eB : climbM (pars n.toNat l a n.toNat) v = B := Climb_one _ _ v (good_up hg hv hv1') hB
 have hto : onTree (pars n.toNat l a n.toNat) a v = onGo B [] [a] := by
  unfold onTree onTreeM
  rw [if_pos hcond, hA, eB]
 rw [hto]
 constructor
 ·intro hf
  obtain ⟨B1, r, e, hnB⟩ := split_first B (hB2 hf).1
  have hr : r = [] := by
   have := Climb_rest B1 a r v (by rw [← e]; exact hB)
   rw [hroot] at this
   cases r with
   | nil => rfl
   | cons z s => have := this.1; omega
  subst hr
  have hgo : onGo B [] [a] = (a :: B1.reverse, true) := by
   rw [onGo, if_pos (hB2 hf).1, e, take_split B1 [] hnB]
   rfl
  rw [hgo]
  refine ⟨rfl, ?_⟩
  have hcd := (cost_down h ha ha1 B1 v (by rw [← e]; exact hB) hv1 hf).1
  have hBlen : B1.length + 1 = B.length := by rw [e]; simp
  have hall : allIn 0 (wrap64 (n - 1)) (a :: B1.reverse) = true := by
   unfold allIn
   rw [List.all_eq_true, top_is hn.1 hn.2.1]
   intro x hx
   rw [decide_eq_true_eq]
   have hxB : x ∈ B := by
    rw [e]
    rcases List.mem_cons.1 hx with rfl | hx
    ·simp
    ·simp [List.mem_reverse.1 hx]
   have := (hB2 hf).2 x hxB
   omega
  have hc2 : goodE n l = true ∧ (1 ≤ ((a :: B1.reverse).length : Int) ∧ ((a :: B1.reverse).length : Int) ≤ 12) ∧ allIn 0 (wrap64 (n - 1)) (a :: B1.reverse) = true := ⟨h, ⟨by rw [List.length_cons]; omega, by rw [List.length_cons, List.length_reverse]; omega⟩, hall⟩
  unfold costOf
  rw [if_pos hc2]
  exact hcd
 ·intro hf
  rw [hB3 hf]
  rw [onGo, if_neg ?_]
  ·rfl
  ·rw [List.mem_singleton]
   intro e
   rw [← e, hself] at hf
   omega
theorem groups_far {n : Int} {l : List S79} (h : goodE n l = true) {a : Int} (ha : 0 ≤ a) (ha1 : a < n) {v : Int} (hv : 0 ≤ v) (hv1 : v < n) : rd (groupsM n l) v = rd (groupsM n l) a ↔ rd (farsM n.toNat l a) v < 100000 := by
 have h1 := far_iff h hv hv1 ha ha1
 have h2 := fars_sane h ha ha1 v
 constructor
 ·intro e
  have : ¬ rd (farsM n.toNat l a) v = 100000 := fun hc => h1.1 hc e
  omega
 ·intro hf
  by_cases e : rd (groupsM n l) v = rd (groupsM n l) a
  ·exact e
  ·have := h1.2 e
   omega
-- the loops of the law
section
variable {n : Int} {l : List S79} {a : Int} (d : List Int)
theorem spreadLaw_l3 (h : goodE n l = true) (hl : l.length ≤ 1048576) (ha : 0 ≤ a) (ha1 : a < n) (hR : Ev (fun k => laws_FnSpread.j6 k d) true) (e : Nat) : ∀ (c : Nat), c + e = n.toNat →
  Ev (fun k => laws_FnSpread.l3 k d n l a (pars n.toNat l a n.toNat) (groupsM n l) (farsM n.toNat l a) true n c) true := by
 have hG : (groupsM n l).length = n.toNat := grp_len _ _
 have hF : (farsM n.toNat l a).length = n.toNat := farsM_len _ _ _
 have hP : (pars n.toNat l a n.toNat).length = n.toNat := pars_len _ _ _ _
 have hn := goodE_n h
 induction e with
 | zero =>
  intro c hc
  refine Ev.succ ?_
  simp only [laws_FnSpread.l3, if_neg (show ¬ (c : Int) < n by omega)]
  exact hR
 | succ e ih =>
  intro c hc
  have hw := way_down h ha ha1 (show (0 : Int) ≤ c by omega) (show (c : Int) < n by omega)
  have hgf := groups_far h ha ha1 (show (0 : Int) ≤ c by omega) (show (c : Int) < n by omega)
  have hot := onTree_len (pars n.toNat l a n.toNat) a c
  have hev := implOnTree_ev (pars n.toNat l a n.toNat) a c (by omega)
  generalize onTree (pars n.toNat l a n.toNat) a c = w at hw hot hev
  refine Ev.succ ?_
  simp only [laws_FnSpread.l3, if_pos (show (c : Int) < n by omega), wrap_id (show (-9223372036854775808 : Int) ≤ c + 1 by omega) (show ((c : Int) + 1 ≤ 9223372036854775807) by omega)]
  refine Ev.bind hev ?_
  refine Ev.bind (implCostOf_ev n l w.1 hl (by omega)) ?_
  simp only [if_true, if_pos (show (0 : Int) ≤ c by omega), if_pos ha, hG, hF, if_pos (show (c : Int) < (n.toNat : Int) by omega), if_pos (show a < (n.toNat : Int) by omega)]
  by_cases hf : rd (farsM n.toNat l a) c < 100000
  ·obtain ⟨w1, w2⟩ := hw.1 hf
   rw [show (rd (groupsM n l) c == rd (groupsM n l) a) = true from beq_iff_eq.2 (hgf.2 hf), w1, w2]
   simp only [bne_self_eq_false, Bool.false_eq_true, if_false, if_true]
   exact ih (c + 1) (by omega)
  ·have w1 := hw.2 hf
   rw [show (rd (groupsM n l) c == rd (groupsM n l) a) = false from beq_eq_false_iff_ne.2 (fun e => hf (hgf.1 e)), w1]
   simp only [bne_self_eq_false, Bool.false_eq_true, if_false]
   exact ih (c + 1) (by omega)
theorem spreadLaw_l2 (h : goodE n l = true) (ha : 0 ≤ a) (ha1 : a < n) {s : Int} (hs : 0 ≤ s) (hs1 : s < n) (hsf : rd (farsM n.toNat l a) s < 100000) (R : Bool) (hR : Ev (fun k => laws_FnSpread.l0 k d n l a (pars n.toNat l a n.toNat) (groupsM n l) (wrap64 (s + 1))) R) (e : Nat) : ∀ (c : Nat), c + e = n.toNat →
  Ev (fun k => laws_FnSpread.l2 k d n l a (pars n.toNat l a n.toNat) (groupsM n l) s (s :: tos (spreadM (pars n.toNat l a n.toNat) s)) n c) R := by
 have hG : (groupsM n l).length = n.toNat := grp_len _ _
 have hP : (pars n.toNat l a n.toNat).length = n.toNat := pars_len _ _ _ _
 have hn := goodE_n h
 have hsl := (spread_ev (pars_good h ha ha1) hs (by rw [hP]; omega)).2.2
 induction e with
 | zero =>
  intro c hc
  refine Ev.succ ?_
  simp only [laws_FnSpread.l2, if_neg (show ¬ (c : Int) < n by omega)]
  exact hR
 | succ e ih =>
  intro c hc
  have hgf := groups_far h ha ha1 (show (0 : Int) ≤ c by omega) (show (c : Int) < n by omega)
  have hm := group_far h ha ha1 hs hs1 hsf (show (0 : Int) ≤ c by omega) (show (c : Int) < n by omega)
  refine Ev.succ ?_
  simp only [laws_FnSpread.l2, if_pos (show (c : Int) < n by omega), wrap_id (show (-9223372036854775808 : Int) ≤ c + 1 by omega) (show ((c : Int) + 1 ≤ 9223372036854775807) by omega)]
  refine Ev.bind (has_ev _ _ (by rw [List.length_cons, show (tos (spreadM (pars n.toNat l a n.toNat) s)).length = (spreadM (pars n.toNat l a n.toNat) s).length from List.length_map ..]; omega)) ?_
  simp only [if_pos (show (0 : Int) ≤ c by omega), if_pos ha, hG, if_pos (show (c : Int) < (n.toNat : Int) by omega), if_pos (show a < (n.toNat : Int) by omega)]
  have heq : (decide ((c : Int) ∈ s :: tos (spreadM (pars n.toNat l a n.toNat) s))) = (rd (groupsM n l) c == rd (groupsM n l) a) := by
   by_cases hf : rd (farsM n.toNat l a) c < 100000
   ·rw [decide_eq_true (hm.2 hf), show (rd (groupsM n l) c == rd (groupsM n l) a) = true from beq_iff_eq.2 (hgf.2 hf)]
   ·rw [decide_eq_false (fun hc => hf (hm.1 hc)), show (rd (groupsM n l) c == rd (groupsM n l) a) = false from beq_eq_false_iff_ne.2 (fun e => hf (hgf.1 e))]
  rw [heq]
  simp only [bne_self_eq_false, Bool.false_eq_true, if_false]
  exact ih (c + 1) (by omega)
theorem spreadLaw_l1 {P G : List Int} (hg : goodP P = true) {s : Int} (hs : 0 ≤ s) (hs1 : s < P.length) (R : Bool) (hR : Ev (fun k => laws_FnSpread.l2 k d n l a P G s (s :: tos (spreadM P s)) G.length 0) R) : ∀ (suf pre : List (Int × Int)), pre ++ suf = spreadM P s →
  Ev (fun k => laws_FnSpread.l1 k d n l a P G s (s :: tos pre) (qS (spreadM P s)) ((qS (spreadM P s)).length : Int) pre.length) R
 | [], pre, e => by
  rw [List.append_nil] at e
  subst e
  refine Ev.succ ?_
  simp only [laws_FnSpread.l1, qS_len, Int.lt_irrefl, if_false]
  exact hR
 | y :: suf, pre, e => by
  obtain ⟨h1, h12, hb, D, hD⟩ := good_deep hg
  obtain ⟨hn, hi, hc, hG⟩ := spread_fin hs hs1 hb hD
  have hsl := (spread_ev hg hs hs1).2.2
  have hy : y ∈ spreadM P s := by rw [← e]; simp
  have hlen : pre.length + suf.length + 1 ≤ 12 := by rw [← e] at hsl; simp at hsl; omega
  have hrd : rd_T61 (qS (spreadM P s)) (pre.length : Int) = ⟨y.1, y.2⟩ := by
   rw [← e, qS_app]
   have := getD_mid (z61) (qS pre) ⟨y.1, y.2⟩ (qS suf)
   rw [qS_len] at this
   exact this
  have hin2 := hi y.2 (List.mem_cons_of_mem _ (List.mem_map.2 ⟨y, hy, rfl⟩))
  have hno : y.2 ∉ s :: tos pre := by
   rw [← e, tos_app, ← List.cons_append, List.nodup_append] at hn
   exact fun hm => hn.2.2 y.2 hm y.2 (by simp [tos]) rfl
  have hyes := spreadM_ord hg hs hs1 pre y suf e.symm
  have hlp : (tos pre).length = pre.length := List.length_map ..
  have hrec := spreadLaw_l1 hg hs hs1 R hR suf (pre ++ [y]) (by rw [← app_one]; exact e)
  rw [len_one, tos_app] at hrec
  refine Ev.succ ?_
  simp only [laws_FnSpread.l1, qS_len, if_pos (show (pre.length : Int) < ((spreadM P s).length : Int) by rw [← e, len_mid]; omega), if_pos (show (0 : Int) ≤ pre.length by omega), hrd, wrap_id (show (-9223372036854775808 : Int) ≤ pre.length + 1 by omega) (show ((pre.length : Int) + 1 ≤ 9223372036854775807) by omega)]
  have hcm := implComes_ev P s y.2 (by omega)
  rw [comes_hop hg hs hs1 hy] at hcm
  refine Ev.bind hcm ?_
  simp only [if_true]
  refine Ev.bind (has_ev _ _ (by rw [List.length_cons, hlp]; omega)) ?_
  rw [decide_eq_false hno]
  simp only [Bool.false_eq_true, if_false]
  refine Ev.bind (has_ev _ _ (by rw [List.length_cons, hlp]; omega)) ?_
  rw [decide_eq_true hyes]
  simp only [if_true, if_pos (show (s :: tos pre).length < 17592186044416 by rw [List.length_cons, hlp]; omega)]
  rw [qS_len] at hrec
  exact hrec
theorem spreadLaw_l0 (h : goodE n l = true) (hl : l.length ≤ 1048576) (ha : 0 ≤ a) (ha1 : a < n) (hR : Ev (fun k => laws_FnSpread.j6 k d) true) (e : Nat) : ∀ (c : Nat), c + e = n.toNat →
  Ev (fun k => laws_FnSpread.l0 k d n l a (pars n.toNat l a n.toNat) (groupsM n l) c) true := by
 have hG : (groupsM n l).length = n.toNat := grp_len _ _
 have hP : (pars n.toNat l a n.toNat).length = n.toNat := pars_len _ _ _ _
 have hn := goodE_n h
 have hg := pars_good h ha ha1
 induction e with
 | zero =>
  intro c hc
  refine Ev.succ ?_
  simp only [laws_FnSpread.l0, if_neg (show ¬ (c : Int) < n by omega), hP, show ((n.toNat : Nat) : Int) = n by omega]
  have hff := implFarsFrom_ev n l a hl
  rw [show farsFrom n l a = (farsM n.toNat l a, true) by unfold farsFrom; rw [if_pos h, if_pos ⟨ha, by rw [top_is hn.1 hn.2.1]; omega⟩]] at hff
  refine Ev.bind hff ?_
  exact spreadLaw_l3 d h hl ha ha1 hR n.toNat 0 (by omega)
 | succ e ih =>
  intro c hc
  have hgf := groups_far h ha ha1 (show (0 : Int) ≤ c by omega) (show (c : Int) < n by omega)
  have hnext := ih (c + 1) (by omega)
  have hw : wrap64 ((c : Int) + 1) = ((c + 1 : Nat) : Int) := by rw [wrap_id (by omega) (by omega)]; omega
  refine Ev.succ ?_
  simp only [laws_FnSpread.l0, if_pos (show (c : Int) < n by omega), if_pos (show (0 : Int) ≤ c by omega), if_pos ha, hG, if_pos (show (c : Int) < (n.toNat : Int) by omega), if_pos (show a < (n.toNat : Int) by omega)]
  by_cases hf : rd (farsM n.toNat l a) c < 100000
  ·simp only [if_pos (hgf.2 hf)]
   have hcond : goodP (pars n.toNat l a n.toNat) = true ∧ (0 : Int) ≤ c ∧ (c : Int) < (pars n.toNat l a n.toNat).length := ⟨hg, by omega, by rw [hP]; omega⟩
   have hso := implSpreadOn_ev (pars n.toNat l a n.toNat) c (by omega)
   rw [show spreadOn (pars n.toNat l a n.toNat) c = (qS (spreadM (pars n.toNat l a n.toNat) c), true) by unfold spreadOn; rw [if_pos hcond]] at hso
   refine Ev.bind hso ?_
   simp only [if_true]
   have h2 := spreadLaw_l2 d h ha ha1 (show (0 : Int) ≤ c by omega) (show (c : Int) < n by omega) hf true (by rw [hw]; exact hnext) n.toNat 0 (by omega)
   have := spreadLaw_l1 (n := n) (l := l) (a := a) d (G := groupsM n l) hg hcond.2.1 hcond.2.2 true (by rw [hG, show ((n.toNat : Nat) : Int) = n by omega]; exact h2) (spreadM (pars n.toNat l a n.toNat) c) [] rfl
   exact this
  ·simp only [if_neg (show ¬ rd (groupsM n l) c = rd (groupsM n l) a from fun e => hf (hgf.1 e)), hw]
   exact hnext
end
end Go.Proofs.Ytedegfbheihopaa.P
namespace Go.Proofs.Ytedegfbheihopaa.Pure
open Go.RowKit Go.Proofs.Ytedegfbheihopaa.P Go.Proofs.YtedegfbheihopaaW.PrintWords Go.Proofs.YtedegfbheihopaaW.PrintLast
set_option linter.unusedVariables false
set_option linter.unusedSimpArgs false
theorem FnSpread : laws_FnSpread.Pure := by
 intro c d hc1 hc2 hc3 hd1 hd2 hd3
 refine Ev.rounds ?_
 unfold laws_FnSpread.f
 by_cases hq : (wrap64 ((c.length : Int) + (d.length : Int))) > 1048576
 ·simp only [if_pos hq]
  exact Ev.now _
 simp only [if_neg hq]
 rw [wrap_id (by omega) (by omega)] at hq
 have hcb := bytes_ok hc3
 have hdb := bytes_ok hd3
 have hj6 := spreadLaw_j6 d hdb (by omega)
 obtain ⟨n, l, a, e, hn0, hn1, hl, _, _⟩ := drawNear_ok c hcb (by omega)
 have hdraw : Ev (fun k => spec_DrawTreeAt.f k c) (n, l, a) := by
  unfold spec_DrawTreeAt.f
  exact Ev.bind e (Ev.now _)
 have hr := treeAt_len n l a
 refine Ev.bind hdraw ?_
 refine Ev.bind (implTreeAt_ev n l a (by omega)) ?_
 refine Ev.bind (specTreeAt_ev n l a (by omega)) ?_
 simp only [bne_self_eq_false, Bool.false_eq_true, if_false]
 refine Ev.bind (sameInts_ev _ _ (by omega)) ?_
 simp only [decide_true, Bool.not_true]
 refine Ev.succ ?_
 simp only [laws_FnSpread.j0, Bool.false_eq_true, if_false]
 by_cases hg : goodE n l = true
 ·have hn := goodE_n hg
  by_cases ha : 0 ≤ a ∧ a ≤ wrap64 (n - 1)
  ·rw [show treeAt n l a = (pars n.toNat l a n.toNat, true) by unfold treeAt; rw [if_pos hg, if_pos ha]]
   rw [top_is hn.1 hn.2.1] at ha
   have ha1 : a < n := by omega
   have hP : (pars n.toNat l a n.toNat).length = n.toNat := pars_len _ _ _ _
   simp only [if_true]
   refine Ev.bind (implGroupsOfTop_ev n l (by omega)) ?_
   rw [show groupsOf n l = (groupsM n l, true) by unfold groupsOf; rw [if_pos hg]]
   have hgp := implGoodP_ev (pars n.toNat l a n.toNat) (by omega)
   rw [pars_good hg ha.1 ha1] at hgp
   refine Ev.bind hgp ?_
   simp only [if_true, Bool.not_true]
   refine Ev.succ ?_
   simp only [laws_FnSpread.j1, Bool.false_eq_true, if_false]
   exact spreadLaw_l0 d hg (by omega) ha.1 ha1 hj6 n.toNat 0 (by omega)
  ·rw [show treeAt n l a = ([], false) by unfold treeAt; rw [if_pos hg, if_neg ha]]
   simp only [Bool.false_eq_true, if_false]
   exact hj6
 ·rw [show treeAt n l a = ([], false) by unfold treeAt; rw [if_neg hg]]
  simp only [Bool.false_eq_true, if_false]
  exact hj6
end Go.Proofs.Ytedegfbheihopaa.Pure
