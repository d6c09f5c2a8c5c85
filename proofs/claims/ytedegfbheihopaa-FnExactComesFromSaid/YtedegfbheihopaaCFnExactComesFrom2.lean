/- Functions, walks and plain lemmas that the law FnExactComesFrom reaches, part 2. -/
import Derived.Test.YtedegfbheihopaaCFnExactComesFrom1
import Derived.Below
import Derived.Deep.Draws
import Derived.Deep.AppendLies
import Derived.Maps.AppendAt
import Derived.OwnWalk
import Derived.Laws.BytesArg
import Derived.Laws.MakeOwn
import Derived.Laws.OwnMore
import Derived.Deep.OwnRows
import Derived.Tactics
import Derived.Lib.ConvBytes
import Derived.Laws.Slices
import Derived.WalkKit
import Derived.KernelRfl
import Derived.RowKit3
import Derived.Deep.LoopGhost
import Derived.Deep.QuietTactic
import Derived.BigQuiet
import Derived.WideLaws
import Derived.Deep.DeepCutAuto
import Derived.Deep.CutBlock
import Derived.Deep.RegionHeld3
import Derived.Laws.Rows
import Derived.Lib.AppendStr
import Derived.ArgAppend
import Derived.Laws.IdiomCopy
import Derived.OrdersHeld
import Derived.Laws.BitsLemmas
import Derived.RowKit
import Derived.WalkSpells
import Derived.Lib.SliceRun
import Derived.Shelf.Abstract
import Derived.Maps.OwnSet
import Derived.Maps.OwnOps
import Derived.ProofKit
import Derived.OpenShut
import Derived.ShutString
import Derived.ChangeOld
import Derived.SizedLaws
namespace Go.Proofs.Ytedegfbheihopaa.P
open Go.RowKit Go.Proofs.YtedegfbheihopaaW.PrintWords Go.Proofs.YtedegfbheihopaaW.PrintLast
set_option linter.unusedVariables false
set_option linter.unusedSimpArgs false
-- what a walk over a tree leaves: each place of the group once, with whom it came from
structure FInv (l : List Int) (s : Int) (P : List Int) (out q : List (Int × Int)) : Prop where
 base : SInv l s P q
 eq : P ++ tos q = s :: tos out
 came : ∀ y ∈ out, Came l s y.1 y.2 ∧ y.1 ∈ P
 clo : ∀ a ∈ P, ∀ u : Int, 0 ≤ u → u < l.length → (rd l u = a ∨ rd l a = u) → u ∈ P ++ tos q
theorem FInv.step {l : List Int} {s : Int} {D : Int → Nat} (h0 : 0 ≤ s) (hs : s < l.length) (hb : ∀ u : Int, 0 ≤ u → u < l.length → -1 ≤ rd l u ∧ rd l u < l.length) (hD : ∀ u : Int, 0 ≤ u → u < l.length → D u = D (rd l u) + 1) {P : List Int} {x : Int × Int} {out q : List (Int × Int)} (h : FInv l s P out (x :: q)) :
  FInv l s (P ++ [x.2]) (out ++ fan x.2 (kidsM l x.1 x.2 (joinC l x.2 l.length))) (q ++ fan x.2 (kidsM l x.1 x.2 (joinC l x.2 l.length))) := by
 have hx := h.base.inb x.2 (by simp [tos])
 have hc := h.base.came x (by simp)
 have hmem : ∀ u, u ∈ P ++ tos (x :: q) → u ∈ P ++ [x.2] ++ tos (q ++ fan x.2 (kidsM l x.1 x.2 (joinC l x.2 l.length))) := by
  intro u hu
  rw [tos_app]
  simp only [List.mem_append, tos, List.map_cons, List.mem_cons] at hu ⊢
  rcases hu with hu | hu | hu
  ·exact Or.inl (Or.inl hu)
  ·exact Or.inl (Or.inr (Or.inl hu))
  ·exact Or.inr (Or.inl hu)
 constructor
 ·exact h.base.step h0 hs hb hD
 ·rw [tos_app, tos_app, ← List.append_assoc, show P ++ [x.2] ++ tos q = P ++ tos (x :: q) by simp [tos], h.eq]
  rfl
 ·intro y hy
  rcases List.mem_append.1 hy with hy | hy
  ·have := h.came y hy
   exact ⟨this.1, List.mem_append.2 (Or.inl this.2)⟩
  ·obtain ⟨u, hu, rfl⟩ := List.mem_map.1 hy
   rw [kidsM, List.mem_filter, joinC_mem, decide_eq_true_eq] at hu
   exact ⟨Came_next h0 hs hb hD hc hx.1 hu.1.1.1 hu.1.2 hu.2, by simp⟩
 ·intro a ha u hu0 hu1 hj
  rcases List.mem_append.1 ha with ha | ha
  ·exact hmem u (h.clo a ha u hu0 hu1 hj)
  ·rw [List.mem_singleton] at ha
   subst ha
   by_cases hf : u = x.1
   ·have hfr := h.base.from_ x.2 (by simp [tos])
    rcases hfr with e | ⟨g, hg, hgv⟩
    ·have := Came_one h0 hs hb hD hc (Or.inl ⟨e, rfl⟩)
     omega
    ·have e := Came_one h0 hs hb hD hc hgv
     rw [hf, e]
     exact List.mem_append.2 (Or.inl (List.mem_append.2 (Or.inl hg)))
   ·rw [tos_app, tos_fan]
    refine List.mem_append.2 (Or.inr (List.mem_append.2 (Or.inr ?_)))
    rw [kidsM, List.mem_filter, joinC_mem, decide_eq_true_eq]
    exact ⟨⟨⟨hu0, hu1⟩, hj⟩, hf⟩
theorem spread_inv {l : List Int} {s : Int} {D : Int → Nat} (h0 : 0 ≤ s) (hs : s < l.length) (hb : ∀ u : Int, 0 ≤ u → u < l.length → -1 ≤ rd l u ∧ rd l u < l.length) (hD : ∀ u : Int, 0 ≤ u → u < l.length → D u = D (rd l u) + 1) : ∀ (d : Nat) (P : List Int) (out q : List (Int × Int)), FInv l s P out q → P.length + d = l.length → ∃ P', FInv l s P' (sprd l d out q) [] := by
 intro d
 induction d with
 | zero =>
  intro P out q h hd
  have := h.base.len
  obtain rfl : q = [] := List.eq_nil_of_length_eq_zero (by omega)
  exact ⟨P, h⟩
 | succ d ih =>
  intro P out q h hd
  cases q with
  | nil => exact ⟨P, h⟩
  | cons x q => exact ih _ _ _ (h.step h0 hs hb hD) (by simp; omega)
theorem spread_fin {l : List Int} {s : Int} {D : Int → Nat} (h0 : 0 ≤ s) (hs : s < l.length) (hb : ∀ u : Int, 0 ≤ u → u < l.length → -1 ≤ rd l u ∧ rd l u < l.length) (hD : ∀ u : Int, 0 ≤ u → u < l.length → D u = D (rd l u) + 1) :
  (s :: tos (spreadM l s)).Nodup ∧ (∀ v ∈ s :: tos (spreadM l s), 0 ≤ v ∧ v < l.length) ∧ (∀ y ∈ spreadM l s, Came l s y.1 y.2 ∧ y.1 ∈ s :: tos (spreadM l s)) ∧ (∀ a ∈ s :: tos (spreadM l s), ∀ u : Int, 0 ≤ u → u < l.length → (rd l u = a ∨ rd l a = u) → u ∈ s :: tos (spreadM l s)) := by
 obtain ⟨P, h⟩ := spread_inv h0 hs hb hD l.length [] [] [(-1, s)] ⟨⟨by simp [tos], by simp [tos]; exact ⟨h0, hs⟩, by simp; exact Or.inl ⟨rfl, rfl⟩, by simp [tos]⟩, by simp [tos], by simp, by simp⟩ (by simp)
 have e := h.eq
 rw [show tos ([] : List (Int × Int)) = [] from rfl, List.append_nil] at e
 have a := h.base.nd
 have b := h.base.inb
 have c := h.came
 have d := h.clo
 rw [show tos ([] : List (Int × Int)) = [] from rfl, List.append_nil, e] at a b d
 rw [e] at c
 exact ⟨a, b, c, d⟩
-- the last hop that goes to a place
def hopAt : List (Int × Int) → Int → Int × Bool
 | [], _ => (0, false)
 | y :: r, v => if (hopAt r v).2 = true then hopAt r v else if y.2 = v then (y.1, true) else (0, false)
theorem hopAt_none : ∀ (hs : List (Int × Int)) (v : Int), v ∉ tos hs → hopAt hs v = (0, false)
 | [], _, _ => rfl
 | y :: r, v, h => by
  simp only [tos, List.map_cons, List.mem_cons, not_or] at h
  rw [hopAt, hopAt_none r v h.2, if_neg (by simp), if_neg (fun e => h.1 e.symm)]
theorem hopAt_some : ∀ (hs : List (Int × Int)) (v : Int), v ∈ tos hs → ∃ f, hopAt hs v = (f, true) ∧ (f, v) ∈ hs
 | [], _, h => by simp [tos] at h
 | y :: r, v, h => by
  by_cases hr : v ∈ tos r
  ·obtain ⟨f, e, hm⟩ := hopAt_some r v hr
   exact ⟨f, by rw [hopAt, e, if_pos rfl], List.mem_cons_of_mem _ hm⟩
  ·simp only [tos, List.map_cons, List.mem_cons] at h
   rcases h with e | h
   ·refine ⟨y.1, by rw [hopAt, hopAt_none r v hr, if_neg (by simp), if_pos e.symm], ?_⟩
    rw [e]
    exact List.mem_cons_self ..
   ·exact absurd h hr
-- the way up from a place
def Climb (l : List Int) : Int → List Int → Prop
 | u, [] => u < 0
 | u, x :: r => 0 ≤ u ∧ x = u ∧ Climb l (rd l u) r
theorem Climb_split {l : List Int} {b : Int} : ∀ (B1 : List Int) (y : Int) (r : List Int) (i : Nat) (u : Int), Climb l u (B1 ++ y :: r) → Up l b i u → Up l b (i + B1.length) y
 | [], y, r, i, u, h, hu => by
  have := h.2.1
  rw [this]
  exact hu
 | x :: B1, y, r, i, u, h, hu => by
  have hr : ∃ z s, B1 ++ y :: r = z :: s := by
   cases B1 with
   | nil => exact ⟨_, _, rfl⟩
   | cons z s => exact ⟨_, _, rfl⟩
  obtain ⟨z, s, e⟩ := hr
  have h2 := h.2.2
  have h3 : 0 ≤ rd l u := by
   rw [show B1.append (y :: r) = B1 ++ y :: r from rfl, e] at h2
   exact h2.1
  have := Climb_split B1 y r (i + 1) (rd l u) h2 ⟨u, hu, rfl, h3⟩
  rw [List.length_cons, show i + (B1.length + 1) = i + 1 + B1.length by omega]
  exact this
theorem Climb_next {l : List Int} : ∀ (B1 : List Int) (y v : Int) (r : List Int) (u : Int), Climb l u (B1 ++ y :: v :: r) → rd l y = v ∧ 0 ≤ v
 | [], y, v, r, u, h => by
  have h1 := h.2.1
  have h2 := h.2.2
  rw [h1]
  exact ⟨h2.2.1.symm, h2.2.1 ▸ h2.1⟩
 | x :: B1, y, v, r, u, h => Climb_next B1 y v r _ h.2.2
theorem Climb_up {l : List Int} : ∀ (B : List Int) (u x : Int), Climb l u B → x ∈ B → 0 ≤ rd l x → rd l x ∈ B
 | [], _, _, _, hx, _ => by simp at hx
 | y :: r, u, x, h, hx, h0 => by
  rcases List.mem_cons.1 hx with e | hx
  ·have h2 := h.2.2
   rw [← h.2.1, ← e] at h2
   cases r with
   | nil => have : rd l x < 0 := h2; omega
   | cons z s => rw [h2.2.1]; simp
  ·exact List.mem_cons_of_mem _ (Climb_up r _ x h.2.2 hx h0)
theorem Up_mem {l : List Int} {b : Int} {B : List Int} (hB : Climb l b B) (h0 : 0 ≤ b) : ∀ (i : Nat) (v : Int), Up l b i v → v ∈ B
 | 0, v, h => by
  have e : v = b := h
  cases B with
  | nil => have : b < 0 := hB; omega
  | cons x r => rw [e, ← hB.2.1]; simp
 | i + 1, v, h => by
  obtain ⟨u, hu, e, hv⟩ := h
  rw [← e]
  exact Climb_up B b u hB (Up_mem hB h0 i u hu) (by omega)
theorem group_down {l : List Int} {s : Int} {G : List Int} (hG : ∀ a ∈ G, ∀ u : Int, 0 ≤ u → u < l.length → (rd l u = a ∨ rd l a = u) → u ∈ G) (hb : ∀ u : Int, 0 ≤ u → u < l.length → -1 ≤ rd l u ∧ rd l u < l.length) : ∀ (A : List Int) (v : Int), Climb l v A → v < l.length → (∃ x ∈ A, x ∈ G) → v ∈ G
 | [], _, _, _, h => by obtain ⟨x, hx, _⟩ := h; simp at hx
 | y :: r, v, hA, hv, h => by
  obtain ⟨x, hx, hg⟩ := h
  rcases List.mem_cons.1 hx with e | hx
  ·rw [← hA.2.1, ← e]; exact hg
  ·have := group_down (s := s) hG hb r (rd l v) hA.2.2 (hb v hA.1 hv).2 ⟨x, hx, hg⟩
   exact hG _ this v hA.1 hv (Or.inl rfl)
theorem group_up {l : List Int} {G : List Int} (hG : ∀ a ∈ G, ∀ u : Int, 0 ≤ u → u < l.length → (rd l u = a ∨ rd l a = u) → u ∈ G) (hb : ∀ u : Int, 0 ≤ u → u < l.length → -1 ≤ rd l u ∧ rd l u < l.length) : ∀ (B : List Int) (b : Int), Climb l b B → b < l.length → b ∈ G → ∀ x ∈ B, x ∈ G
 | [], _, _, _, _, x, hx => by simp at hx
 | y :: r, b, hB, hl, hg, x, hx => by
  rcases List.mem_cons.1 hx with e | hx
  ·rw [e, hB.2.1]; exact hg
  ·have h0 : 0 ≤ rd l b := by
    cases r with
    | nil => simp at hx
    | cons z s => exact hB.2.2.1
   have h1 := (hb b hB.1 hl).2
   exact group_up hG hb r (rd l b) hB.2.2 h1 (hG b hg _ h0 h1 (Or.inr rfl)) x hx
theorem group_meets {l : List Int} {b : Int} {B : List Int} {D : Int → Nat} (h0 : 0 ≤ b) (hB : Climb l b B) (hb : ∀ u : Int, 0 ≤ u → u < l.length → -1 ≤ rd l u ∧ rd l u < l.length) (hD : ∀ u : Int, 0 ≤ u → u < l.length → D u = D (rd l u) + 1)
  (hi : ∀ v ∈ b :: tos (spreadM l b), 0 ≤ v ∧ v < l.length) (hc : ∀ y ∈ spreadM l b, Came l b y.1 y.2 ∧ y.1 ∈ b :: tos (spreadM l b)) :
  ∀ (d : Nat) (v : Int), D v ≤ d → v ∈ b :: tos (spreadM l b) → ∀ A, Climb l v A → ∃ x ∈ A, x ∈ B := by
 intro d
 induction d with
 | zero =>
  intro v hd hv A hA
  have h1 := hi v hv
  have := hD v h1.1 h1.2
  omega
 | succ d ih =>
  intro v hd hv A hA
  have h1 := hi v hv
  have hself : v ∈ A := by
   cases A with
   | nil => have : v < 0 := hA; omega
   | cons x r => rw [← hA.2.1]; simp
  by_cases hvB : v ∈ B
  ·exact ⟨v, hself, hvB⟩
  ·rcases List.mem_cons.1 hv with e | hv
   ·exact absurd (Up_mem hB h0 0 v e) hvB
   ·obtain ⟨y, hy, rfl⟩ := List.mem_map.1 hv
    obtain ⟨hcame, hin⟩ := hc y hy
    rcases hcame with ⟨e, _⟩ | ⟨i, hu, e, hp⟩ | ⟨_, e⟩
    ·exact absurd (Up_mem hB h0 0 _ e) hvB
    ·exact absurd (Up_mem hB h0 (i + 1) _ ⟨_, hu, e, hp⟩) hvB
    ·rw [e] at hin
     have h3 := hD y.2 h1.1 h1.2
     cases A with
     | nil => simp at hself
     | cons x r =>
      obtain ⟨x', hx', hxB⟩ := ih (rd l y.2) (by omega) hin r hA.2.2
      exact ⟨x', List.mem_cons_of_mem _ hx', hxB⟩
-- what the hops of the walk tell of each place
structure Tells (l : List Int) (b : Int) (B : List Int) (H : Int → Int × Bool) : Prop where
 down : ∀ (B1 : List Int) (y v : Int) (r : List Int), B = B1 ++ y :: v :: r → H v = (y, true) ∧ v ≠ b
 up : ∀ (v : Int) (A : List Int), 0 ≤ v → v < l.length → v ∉ B → Climb l v A → (∃ x ∈ A, x ∈ B) → H v = (rd l v, true)
 off : ∀ (v : Int) (A : List Int), 0 ≤ v → v < l.length → Climb l v A → (¬ ∃ x ∈ A, x ∈ B) → H v = (0, false)
theorem tells {l : List Int} {b : Int} {B : List Int} {D : Int → Nat} (h0 : 0 ≤ b) (h1 : b < l.length) (hB : Climb l b B) (hb : ∀ u : Int, 0 ≤ u → u < l.length → -1 ≤ rd l u ∧ rd l u < l.length) (hD : ∀ u : Int, 0 ≤ u → u < l.length → D u = D (rd l u) + 1) : Tells l b B (hopAt (spreadM l b)) := by
 obtain ⟨hn, hi, hc, hG⟩ := spread_fin h0 h1 hb hD
 have hbG : b ∈ b :: tos (spreadM l b) := by simp
 have hBG := group_up hG hb B b hB h1 hbG
 constructor
 ·intro B1 y v r e
  have hB' := hB
  rw [e] at hB'
  have hy := Climb_split B1 y (v :: r) 0 b hB' rfl
  have hv := Climb_next B1 y v r b hB'
  have hUp : Up l b (0 + B1.length + 1) v := ⟨y, hy, hv.1, hv.2⟩
  have hdep := Up_dep h0 h1 hb hD _ v hUp
  have hne : v ≠ b := fun e => by rw [e] at hdep; omega
  have hm : v ∈ tos (spreadM l b) := by
   rcases List.mem_cons.1 (hBG v (by rw [e]; simp)) with e | h
   ·exact absurd e hne
   ·exact h
  obtain ⟨f, ef, hf⟩ := hopAt_some _ _ hm
  have efy : f = y := Came_one h0 h1 hb hD (hc _ hf).1 (Or.inr (Or.inl ⟨_, hy, hv.1, hv.2⟩))
  rw [ef, efy]
  exact ⟨rfl, hne⟩
 ·intro v A hv0 hv1 hvB hA hx
  have hG' := group_down (s := b) hG hb A v hA hv1 (by obtain ⟨x, hx, hxB⟩ := hx; exact ⟨x, hx, hBG x hxB⟩)
  have hm : v ∈ tos (spreadM l b) := by
   rcases List.mem_cons.1 hG' with e | h
   ·exact absurd (Up_mem hB h0 0 v e) hvB
   ·exact h
  obtain ⟨f, ef, hf⟩ := hopAt_some _ _ hm
  rw [ef]
  rcases (hc _ hf).1 with ⟨e, _⟩ | ⟨i, hu, e, hp⟩ | ⟨_, e⟩
  ·exact absurd (Up_mem hB h0 0 _ e) hvB
  ·exact absurd (Up_mem hB h0 (i + 1) _ ⟨_, hu, e, hp⟩) hvB
  ·rw [show f = rd l v from e]
 ·intro v A hv0 hv1 hA hx
  refine hopAt_none _ _ fun hm => hx ?_
  exact group_meets h0 hB hb hD hi hc (D v) v (Nat.le_refl _) (List.mem_cons_of_mem _ hm) A hA
-- the way: up to where both climbs meet, then down
def onGo (B : List Int) : List Int → List Int → List Int × Bool
 | _, [] => ([], false)
 | pre, x :: r => if x ∈ B then (pre ++ [x] ++ (B.takeWhile fun y => decide (y ≠ x)).reverse, true) else onGo B (pre ++ [x]) r
theorem take_split {x : Int} : ∀ (B1 r : List Int), x ∉ B1 → (B1 ++ x :: r).takeWhile (fun y => decide (y ≠ x)) = B1
 | [], r, _ => by simp
 | z :: B1, r, h => by
  simp only [List.mem_cons, not_or] at h
  rw [List.cons_append, List.takeWhile_cons, if_pos (by simpa using fun e => h.1 e.symm), take_split B1 r h.2]
theorem split_first {x : Int} : ∀ (B : List Int), x ∈ B → ∃ B1 r, B = B1 ++ x :: r ∧ x ∉ B1
 | [], h => by simp at h
 | z :: B, h => by
  by_cases e : x = z
  ·exact ⟨[], B, by rw [e]; rfl, by simp⟩
  ·rcases List.mem_cons.1 h with h | h
   ·exact absurd h e
   ·obtain ⟨B1, r, e1, h1⟩ := split_first B h
    exact ⟨z :: B1, r, by rw [e1]; rfl, by simp; exact ⟨e, h1⟩⟩
def climbL (l : List Int) : Nat → Int → List Int
 | 0, _ => []
 | d + 1, u => if u < 0 then [] else u :: climbL l d (rd l u)
theorem climbL_is {l : List Int} : ∀ (d : Nat) (u : Int), upOk l d u = true → Climb l u (climbL l d u)
 | 0, u, h => by rw [upOk, decide_eq_true_eq] at h; exact h
 | d + 1, u, h => by
  rw [climbL]
  rw [upOk] at h
  by_cases hu : u < 0
  ·rw [if_pos hu]; exact hu
  ·rw [if_neg hu]
   rw [if_pos (show u ≥ 0 by omega), Bool.and_eq_true] at h
   exact ⟨by omega, rfl, climbL_is d _ h.2⟩
theorem climbL_len (l : List Int) : ∀ (d : Nat) (u : Int), (climbL l d u).length ≤ d
 | 0, _ => by simp [climbL]
 | d + 1, u => by
  rw [climbL]
  split
  ·simp
  ·rw [List.length_cons]; have := climbL_len l d (rd l u); omega
def climbM (l : List Int) (u : Int) : List Int := climbL l l.length u
theorem good_up {l : List Int} (hg : goodP l = true) {u : Int} (h0 : 0 ≤ u) (h1 : u < l.length) : Climb l u (climbM l u) := by
 obtain ⟨_, h2, _⟩ := chkS_at l l 0 hg
 have := h2 u.toNat (by omega)
 rw [show ((0 + u.toNat : Nat) : Int) = u by omega] at this
 exact climbL_is _ _ this
theorem onGo_len (B : List Int) : ∀ (A pre : List Int), (onGo B pre A).1.length ≤ pre.length + A.length + B.length
 | [], pre => by simp [onGo]
 | x :: r, pre => by
  rw [onGo]
  split
  ·have := (List.takeWhile_sublist (fun y => decide (y ≠ x)) (l := B)).length_le
   simp only [List.length_append, List.length_reverse, List.length_cons, List.length_nil]
   omega
  ·have := onGo_len B r (pre ++ [x])
   rw [List.length_append, List.length_singleton] at this
   rw [List.length_cons]
   omega
theorem onGo_last {l : List Int} {a b : Int} {A B : List Int} {D : Int → Nat} (ha0 : 0 ≤ a) (ha1 : a < l.length) (hb0 : 0 ≤ b) (hb1 : b < l.length) (hA : Climb l a A) (hB : Climb l b B) (hne : a ≠ b) (hb : ∀ u : Int, 0 ≤ u → u < l.length → -1 ≤ rd l u ∧ rd l u < l.length) (hD : ∀ u : Int, 0 ≤ u → u < l.length → D u = D (rd l u) + 1) :
  ∀ (A' pre w : List Int), pre ++ A' = A → (∀ y ∈ pre, y ∉ B) → onGo B pre A' = (w, true) → ∃ w' f, w = w' ++ [f, b] ∧ Came l a f b ∧ 0 ≤ f
 | [], pre, w, _, _, h => by rw [onGo] at h; simp at h
 | x :: r, pre, w, hp, hno, h => by
  rw [onGo] at h
  by_cases hx : x ∈ B
  ·rw [if_pos hx] at h
   obtain ⟨B1, r', eB, hxB⟩ := split_first B hx
   rw [eB, take_split B1 r' hxB] at h
   have hw : pre ++ [x] ++ B1.reverse = w := (Prod.mk.inj h).1
   have hA' := hA
   rw [← hp] at hA'
   have ux := Climb_split pre x r 0 a hA' rfl
   cases B1 with
   | nil =>
    have exb : x = b := by
     rw [eB] at hB
     exact hB.2.1
    rcases nil_or_snoc pre with rfl | ⟨p', f, rfl⟩
    ·exact absurd (hA'.2.1.symm.trans exb) hne
    ·rw [List.append_assoc] at hA'
     have hf := Climb_split p' f (x :: r) 0 a hA' rfl
     have hn := Climb_next p' f x r a hA'
     refine ⟨p', f, ?_, Or.inr (Or.inl ⟨_, hf, by rw [← exb]; exact hn.1, hb0⟩), (Up_dep ha0 ha1 hb hD _ _ hf).1.1⟩
     rw [← hw, exb]
     simp
   | cons z B1 =>
    have ezb : z = b := by
     rw [eB] at hB
     exact hB.2.1
    subst ezb
    have hB' := hB
    rw [eB] at hB'
    have uxb := Up_dep hb0 hb1 hb hD _ _ (Climb_split (z :: B1) x r' 0 z hB' rfl)
    have uxa := Up_dep ha0 ha1 hb hD _ _ ux
    have hup : ∀ i, ¬ Up l a i z := by
     intro i hu
     have hm := Up_mem hA ha0 i z hu
     rw [← hp] at hm
     rcases List.mem_append.1 hm with hm | hm
     ·exact hno z hm (by rw [eB]; simp)
     ·rcases List.mem_cons.1 hm with e | hm
      ·exact hxB (by rw [e]; simp)
      ·obtain ⟨r1, r2, e2⟩ := List.append_of_mem hm
       rw [e2, show pre ++ x :: (r1 ++ z :: r2) = (pre ++ x :: r1) ++ z :: r2 by simp] at hA'
       have := Up_dep ha0 ha1 hb hD _ _ (Climb_split _ z r2 0 a hA' rfl)
       rw [List.length_append, List.length_cons] at this
       rw [List.length_cons] at uxb
       omega
    have hnext : ∃ w', pre ++ [x] ++ B1.reverse = w' ++ [rd l z] ∧ 0 ≤ rd l z := by
     cases B1 with
     | nil =>
      have := Climb_next [] z x r' z hB'
      exact ⟨pre, by simp [this.1], by omega⟩
     | cons y B1 =>
      have := Climb_next [] z y (B1 ++ x :: r') z hB'
      exact ⟨pre ++ [x] ++ B1.reverse, by simp [this.1], by omega⟩
    obtain ⟨w', ew, h0⟩ := hnext
    refine ⟨w', rd l z, ?_, Or.inr (Or.inr ⟨hup, rfl⟩), h0⟩
    rw [← hw, List.reverse_cons, ← List.append_assoc, ew]
    simp
  ·rw [if_neg hx] at h
   exact onGo_last ha0 ha1 hb0 hb1 hA hB hne hb hD r (pre ++ [x]) w (by simpa using hp) (fun y hy => by
    rcases List.mem_append.1 hy with hy | hy
    ·exact hno y hy
    ·rw [List.mem_singleton] at hy; rw [hy]; exact hx) h
end Go.Proofs.Ytedegfbheihopaa.P

namespace Go.Proofs.Ytedegfbheihopaa.P
open Go.RowKit Go.Proofs.YtedegfbheihopaaW.PrintWords Go.Proofs.YtedegfbheihopaaW.PrintLast
set_option linter.unusedVariables false
set_option linter.unusedSimpArgs false
theorem specUp_l (l : List Int) (hl : l.length ≤ 1000) (hb : ∀ u : Int, 0 ≤ u → u < l.length → rd l u < l.length) : ∀ (A : List Int) (u : Int) (out : List Int), Climb l u A → u < l.length → out.length + A.length ≤ 1000000 → Ev (fun k => spec_l10Up.l0 k l u out) (out ++ A)
 | [], u, out, h, _, _ => by
  refine Ev.succ ?_
  simp only [spec_l10Up.l0, if_neg (show ¬ u ≥ 0 from by have : u < 0 := h; omega), List.append_nil]
  exact Ev.now _
 | x :: A, u, out, h, hu, ho => by
  rw [List.length_cons] at ho
  have hx := h.2.1
  subst hx
  have := specUp_l l hl hb A (rd l x) (out ++ [x]) h.2.2 (hb x h.1 hu) (by simp; omega)
  rw [app_one out x A]
  refine Ev.succ ?_
  simp only [spec_l10Up.l0, if_pos (show x ≥ 0 from h.1), if_pos (show out.length < 17592186044416 by omega), if_pos (show 0 ≤ x from h.1), if_pos hu]
  exact this
theorem specOn_l2 : ∀ (n : Nat) (B1 rest out : List Int), B1.length = n → (B1 ++ rest).length ≤ 1000 → out.length + n ≤ 1000000 → Ev (fun k => spec_l10On.l2 k (B1 ++ rest) out ((n : Int) - 1)) (out ++ B1.reverse, true) := by
 intro n
 induction n with
 | zero =>
  intro B1 rest out h _ _
  obtain rfl : B1 = [] := List.eq_nil_of_length_eq_zero h
  refine Ev.succ ?_
  simp only [spec_l10On.l2, if_neg (show ¬ ((0 : Nat) : Int) - 1 ≥ 0 by omega), List.reverse_nil, List.append_nil]
  exact Ev.now _
 | succ n ih =>
  intro B1 rest out h hB ho
  rcases nil_or_snoc B1 with rfl | ⟨p, y, rfl⟩
  ·simp at h
  ·have hp : p.length = n := by simpa using h
   have e : p ++ [y] ++ rest = p ++ y :: rest := by simp
   rw [e] at hB ⊢
   have hln := len_mid p y rest
   have hr := rd_mid p y rest
   rw [hp] at hr
   have := ih p (y :: rest) (out ++ [y]) hp hB (by simp; omega)
   refine Ev.succ ?_
   simp only [spec_l10On.l2, show ((n + 1 : Nat) : Int) - 1 = n by omega, if_pos (show (n : Int) ≥ 0 by omega), if_pos (show 0 ≤ (n : Int) by omega), if_pos (show (n : Int) < ((p ++ y :: rest).length : Int) by omega), if_pos (show out.length < 17592186044416 by omega), hr, wrap_id (show (-9223372036854775808 : Int) ≤ (n : Int) - 1 by omega) (show (n : Int) - 1 ≤ 9223372036854775807 by omega)]
   rw [List.reverse_append, List.reverse_singleton, List.singleton_append, show out ++ y :: p.reverse = out ++ [y] ++ p.reverse by simp]
   exact this
theorem specOn_l1 (A B : List Int) (x i : Int) (R : List Int × Bool) (hA : A.length ≤ 1000) (hB : B.length ≤ 1000) (hi : 0 ≤ i) (hi1 : i < A.length) (hR : x ∉ B → Ev (fun k => spec_l10On.l0 k A B A A.length (wrap64 (i + 1))) R) (hH : x ∈ B → R = (A.take (i + 1).toNat ++ (B.takeWhile fun y => decide (y ≠ x)).reverse, true)) :
  ∀ (suf pre : List Int), pre ++ suf = B → x ∉ pre → Ev (fun k => spec_l10On.l1 k A B i x A A.length i B B.length pre.length) R
 | [], pre, e, hn => by
  rw [List.append_nil] at e
  subst e
  refine Ev.succ ?_
  simp only [spec_l10On.l1, if_neg (show ¬ (pre.length : Int) < pre.length by omega)]
  exact hR hn
 | y :: suf, pre, e, hn => by
  have hln := len_mid pre y suf
  rw [e] at hln
  have hr : rd B (pre.length : Int) = y := by rw [← e, rd_mid]
  refine Ev.succ ?_
  simp only [spec_l10On.l1, if_pos (show (pre.length : Int) < B.length by omega), if_pos (show 0 ≤ (pre.length : Int) by omega), hr, Option.bind_some]
  by_cases hxy : x = y
  ·subst hxy
   have h1 := specOn_l2 pre.length pre (x :: suf) (A.take (i + 1).toNat) rfl (by rw [e]; exact hB) (by rw [List.length_take]; omega)
   rw [e] at h1
   have hR' := hH (by rw [← e]; simp)
   rw [← e, take_split pre suf hn] at hR'
   simp only [if_true, wrap_id (show (-9223372036854775808 : Int) ≤ i + 1 by omega) (show i + 1 ≤ 9223372036854775807 by omega), if_pos (show 0 ≤ i + 1 by omega), if_pos (show i + 1 ≤ (A.length : Int) by omega), List.nil_append, List.length_nil, Nat.zero_add, if_pos (show (A.take (i + 1).toNat).length < 17592186044416 by rw [List.length_take]; omega), wrap_id (show (-9223372036854775808 : Int) ≤ (pre.length : Int) - 1 by omega) (show (pre.length : Int) - 1 ≤ 9223372036854775807 by omega)]
   rw [hR']
   exact h1
  ·simp only [if_neg hxy, wrap_id (show (-9223372036854775808 : Int) ≤ (pre.length : Int) + 1 by omega) (show (pre.length : Int) + 1 ≤ 9223372036854775807 by omega)]
   have := specOn_l1 A B x i R hA hB hi hi1 hR hH suf (pre ++ [y]) (by rw [← app_one]; exact e) (by
    rw [List.mem_append, List.mem_singleton]
    exact fun hc => hc.elim hn hxy)
   rw [len_one] at this
   exact this
theorem specOn_l0 (A B : List Int) (hA : A.length ≤ 1000) (hB : B.length ≤ 1000) : ∀ (suf pre : List Int), pre ++ suf = A → Ev (fun k => spec_l10On.l0 k A B A A.length pre.length) (onGo B pre suf)
 | [], pre, e => by
  rw [List.append_nil] at e
  subst e
  refine Ev.succ ?_
  simp only [spec_l10On.l0, if_neg (show ¬ (pre.length : Int) < pre.length by omega), onGo]
  exact Ev.now _
 | x :: suf, pre, e => by
  have hln := len_mid pre x suf
  rw [e] at hln
  have hr : rd A (pre.length : Int) = x := by rw [← e, rd_mid]
  refine Ev.succ ?_
  simp only [spec_l10On.l0, if_pos (show (pre.length : Int) < A.length by omega), if_pos (show 0 ≤ (pre.length : Int) by omega), hr]
  refine specOn_l1 A B x pre.length _ hA hB (by omega) (by omega) ?_ ?_ B [] rfl (by simp)
  ·intro hx
   have := specOn_l0 A B hA hB suf (pre ++ [x]) (by rw [← app_one]; exact e)
   rw [len_one] at this
   rw [onGo, if_neg hx, wrap_id (by omega) (by omega)]
   exact this
  ·intro hx
   rw [onGo, if_pos hx, ← e, app_one pre x suf, show ((pre.length : Int) + 1).toNat = (pre ++ [x]).length by rw [List.length_append, List.length_singleton]; omega, List.take_left]
def onTreeM (l : List Int) (a b : Int) : List Int × Bool := onGo (climbM l b) [] (climbM l a)
theorem onTreeM_len {l : List Int} (a b : Int) : (onTreeM l a b).1.length ≤ 2 * l.length := by
 have := onGo_len (climbM l b) (climbM l a) []
 have h1 := climbL_len l l.length a
 have h2 := climbL_len l l.length b
 unfold onTreeM climbM at *
 simp only [List.length_nil] at this
 omega
theorem specOn_ev {l : List Int} (hg : goodP l = true) {a b : Int} (ha : 0 ≤ a) (ha1 : a < l.length) (hb : 0 ≤ b) (hb1 : b < l.length) : Ev (fun k => spec_l10On.f k l a b) (onTreeM l a b) := by
 obtain ⟨_, h12, hbd, _⟩ := good_deep hg
 have hup : ∀ u : Int, 0 ≤ u → u < l.length → Ev (fun k => spec_l10Up.f k l u) (climbM l u) := fun u h0 h1 => by
  have := specUp_l l (by omega) (fun v h0 h1 => (hbd v h0 h1).2) (climbM l u) u [] (good_up hg h0 h1) h1 (by have := climbL_len l l.length u; unfold climbM; simp; omega)
  exact this
 have h1 := climbL_len l l.length a
 have h2 := climbL_len l l.length b
 unfold spec_l10On.f
 refine Ev.bind (hup a ha ha1) (Ev.bind (hup b hb hb1) ?_)
 have := specOn_l0 (climbM l a) (climbM l b) (by unfold climbM; omega) (by unfold climbM; omega) (climbM l a) [] rfl
 exact this
-- the program's side
theorem hopD_qS : ∀ (h : List (Int × Int)) (v : Int), hopD (qS h) v = hopAt h v
 | [], _ => rfl
 | y :: r, v => by
  show (if (hopD (qS r) v).2 = true then hopD (qS r) v else if y.2 = v then (y.1, true) else (0, false)) = _
  rw [hopD_qS r v, hopAt]
theorem okI_of {x : Int} (h0 : 0 ≤ x) (h1 : x ≤ 1000000) : okI x = true := by
 unfold okI
 rw [decide_eq_true_eq]
 omega
theorem implOn_down {l : List Int} {b : Int} {B : List Int} {hs : List S61} (ht : Tells l b B (hopD hs)) (hB : Climb l b B) (hBo : ∀ y ∈ B, okI y = true) : ∀ (n : Nat) (B1 : List Int) (x : Int) (r out : List Int), B1.length = n → B = B1 ++ x :: r → out.length + n ≤ 1000000 → Ev (fun k => impl_onTree.l1 k hs b out x) (out ++ B1.reverse, true) := by
 intro n
 induction n with
 | zero =>
  intro B1 x r out h e _
  obtain rfl : B1 = [] := List.eq_nil_of_length_eq_zero h
  rw [e] at hB
  have hx : x = b := hB.2.1
  refine Ev.succ ?_
  simp only [impl_onTree.l1, if_pos hx, List.reverse_nil, List.append_nil]
  exact Ev.now _
 | succ n ih =>
  intro B1 x r out h e ho
  rcases nil_or_snoc B1 with rfl | ⟨p, y, rfl⟩
  ·simp at h
  ·have hp : p.length = n := by simpa using h
   have e' : B = p ++ y :: x :: r := by rw [e]; simp
   obtain ⟨h1, h2⟩ := ht.down p y x r e'
   have hox := hBo x (by rw [e]; simp)
   have := ih p y (x :: r) (out ++ [y]) hp e' (by simp; omega)
   refine Ev.succ ?_
   simp only [impl_onTree.l1, if_neg h2, if_pos hox, h1, if_true, if_pos (show out.length < 17592186044416 by omega)]
   rw [List.reverse_append, List.reverse_singleton, List.singleton_append, show out ++ y :: p.reverse = out ++ [y] ++ p.reverse by simp]
   exact this
theorem implOn_up {l : List Int} {b : Int} {B : List Int} {hs : List S61} (hl : l.length ≤ 1000) (ht : Tells l b B (hopD hs)) (h0 : 0 ≤ b) (hB : Climb l b B) (hBo : ∀ y ∈ B, okI y = true) (hBl : B.length ≤ 1000) (hbd : ∀ u : Int, 0 ≤ u → u < l.length → rd l u < l.length) : ∀ (A pre : List Int) (u : Int), Climb l u A → u < l.length → (∃ x ∈ A, x ∈ B) → pre.length + A.length ≤ 1000 → Ev (fun k => impl_onTree.l1 k hs b (pre ++ [u]) u) (onGo B pre A)
 | [], pre, u, _, _, hm, _ => by obtain ⟨x, hx, _⟩ := hm; simp at hx
 | x :: A, pre, u, hA, hu, hm, hpl => by
  have hx := hA.2.1
  subst hx
  rw [List.length_cons] at hpl
  rw [onGo]
  by_cases hxB : x ∈ B
  ·rw [if_pos hxB]
   obtain ⟨B1, r, e, hn⟩ := split_first B hxB
   have hBl' := hBl
   rw [e, List.length_append] at hBl'
   have := implOn_down ht hB hBo B1.length B1 x r (pre ++ [x]) rfl e (by simp; omega)
   rw [e, take_split B1 r hn]
   exact this
  ·rw [if_neg hxB]
   have hxb : x ≠ b := fun e => hxB (Up_mem hB h0 0 x e)
   have hH := ht.up x _ hA.1 hu hxB hA hm
   have hm' : ∃ y ∈ A, y ∈ B := by
    obtain ⟨y, hy, hyB⟩ := hm
    rcases List.mem_cons.1 hy with e | hy
    ·rw [e] at hyB; exact absurd hyB hxB
    ·exact ⟨y, hy, hyB⟩
   have hr0 : 0 ≤ rd l x := by
    obtain ⟨y, hy, _⟩ := hm'
    cases A with
    | nil => simp at hy
    | cons z s => exact hA.2.2.1
   have hox : okI x = true := okI_of hA.1 (by omega)
   have := implOn_up hl ht h0 hB hBo hBl hbd A (pre ++ [x]) (rd l x) hA.2.2 (hbd x hA.1 hu) hm' (by simp; omega)
   refine Ev.succ ?_
   simp only [impl_onTree.l1, if_neg hxb, if_pos hox, hH, if_true, if_pos (show (pre ++ [x]).length < 17592186044416 by simp; omega)]
   exact this
theorem onGo_none (B : List Int) : ∀ (A pre : List Int), (¬ ∃ x ∈ A, x ∈ B) → onGo B pre A = ([], false)
 | [], _, _ => rfl
 | x :: A, pre, h => by
  rw [onGo, if_neg (fun hx => h ⟨x, by simp, hx⟩)]
  exact onGo_none B A _ (fun ⟨y, hy, hyB⟩ => h ⟨y, by simp [hy], hyB⟩)
theorem climb_lt {l : List Int} (hbd : ∀ u : Int, 0 ≤ u → u < l.length → rd l u < l.length) : ∀ (A : List Int) (u : Int), Climb l u A → u < l.length → ∀ x ∈ A, 0 ≤ x ∧ x < l.length
 | [], _, _, _, x, hx => by simp at hx
 | y :: r, u, h, hu, x, hx => by
  rcases List.mem_cons.1 hx with e | hx
  ·rw [e, h.2.1]; exact ⟨h.1, hu⟩
  ·exact climb_lt hbd r _ h.2.2 (hbd u h.1 hu) x hx
theorem implOn_ev {l : List Int} (hg : goodP l = true) {a b : Int} (ha : 0 ≤ a) (ha1 : a < l.length) (hb : 0 ≤ b) (hb1 : b < l.length) : Ev (fun k => impl_onTree.f k l a b) (onTreeM l a b) := by
 obtain ⟨_, h12, hbd, D, hD⟩ := good_deep hg
 have hA := good_up hg ha ha1
 have hB := good_up hg hb hb1
 have ht := tells hb hb1 hB hbd hD
 have hAl : (climbM l a).length ≤ 12 := Nat.le_trans (climbL_len l l.length a) h12
 have hBl : (climbM l b).length ≤ 12 := Nat.le_trans (climbL_len l l.length b) h12
 have hbd' : ∀ u : Int, 0 ≤ u → u < l.length → rd l u < l.length := fun u h0 h1 => (hbd u h0 h1).2
 have hsp := spread_ev hg hb hb1
 obtain ⟨_, hi, hc, _⟩ := spread_fin hb hb1 hbd hD
 have ht' : Tells l b (climbM l b) (hopD (qS (spreadM l b))) := by rw [show hopD (qS (spreadM l b)) = hopAt (spreadM l b) from funext (hopD_qS _)]; exact ht
 have hok : okHops (qS (spreadM l b)) = true := by
  unfold okHops
  rw [Bool.and_eq_true, decide_eq_true_eq, qS_len, List.all_eq_true]
  refine ⟨by omega, fun y hy => ?_⟩
  obtain ⟨z, hz, rfl⟩ := List.mem_map.1 hy
  have h1 := hi z.2 (List.mem_cons_of_mem _ (List.mem_map.2 ⟨z, hz, rfl⟩))
  have h2 := hi z.1 (hc z hz).2
  rw [Bool.and_eq_true]
  show okI z.1 = true ∧ okI z.2 = true
  exact ⟨okI_of h2.1 (by omega), okI_of h1.1 (by omega)⟩
 unfold impl_onTree.f
 refine Ev.bind hsp.2.1 ?_
 simp only [if_pos hok]
 unfold onTreeM
 by_cases hm : ∃ x ∈ climbM l a, x ∈ climbM l b
 ·have := implOn_up (by omega) ht' hb hB (fun y hy => by have := climb_lt hbd' _ b hB hb1 y hy; exact okI_of this.1 (by omega)) (by omega) hbd' (climbM l a) [] a hA ha1 hm (by simp; omega)
  exact this
 ·rw [onGo_none _ _ _ hm]
  have hH := ht'.off a _ ha ha1 hA hm
  have hne : a ≠ b := fun e => hm ⟨a, Up_mem hA ha 0 a rfl, by rw [e]; exact Up_mem hB hb 0 b rfl⟩
  refine Ev.succ ?_
  simp only [impl_onTree.l1, if_neg hne, if_pos (okI_of ha (by omega)), hH, Bool.false_eq_true, if_false]
  exact Ev.now _
theorem twoB (l : List Int) (a b : Int) : (goodP l && (decide (0 ≤ a ∧ a < l.length) && decide (0 ≤ b ∧ b < l.length))) = decide (goodP l = true ∧ (0 ≤ a ∧ a < l.length) ∧ (0 ≤ b ∧ b < l.length)) := by
 cases h : goodP l <;> simp
theorem treeB (l : List Int) (a b : Int) : (goodP l && ([a, b].all fun x => decide (0 ≤ x ∧ x < l.length))) = decide (goodP l = true ∧ (0 ≤ a ∧ a < l.length) ∧ (0 ≤ b ∧ b < l.length)) := by
 rw [← twoB]
 simp
def comesFrom (l : List Int) (a b : Int) : Int × Bool := if (goodP l = true ∧ (0 ≤ a ∧ a < l.length) ∧ (0 ≤ b ∧ b < l.length)) ∧ a ≠ b then (if (onTreeM l a b).2 = true then (rd (onTreeM l a b).1 ((onTreeM l a b).1.length - 2), true) else (0, false)) else (0, false)
theorem onTreeM_two {l : List Int} (hg : goodP l = true) {a b : Int} (ha : 0 ≤ a) (ha1 : a < l.length) (hb : 0 ≤ b) (hb1 : b < l.length) (hne : a ≠ b) (h : (onTreeM l a b).2 = true) : ∃ w' f, (onTreeM l a b).1 = w' ++ [f, b] ∧ Came l a f b ∧ 0 ≤ f := by
 obtain ⟨_, h12, hbd, D, hD⟩ := good_deep hg
 exact onGo_last ha ha1 hb hb1 (good_up hg ha ha1) (good_up hg hb hb1) hne hbd hD (climbM l a) [] (onTreeM l a b).1 rfl (by simp) (show onTreeM l a b = _ by rw [← h])
theorem comes_end {l : List Int} (hg : goodP l = true) {a b : Int} (ha : 0 ≤ a) (ha1 : a < l.length) (hb : 0 ≤ b) (hb1 : b < l.length) (hne : a ≠ b) :
  Ev (fun k => if (onTreeM l a b).2 = true then (if 0 ≤ (wrap64 (((onTreeM l a b).1.length : Int) - 2)) then (if (wrap64 (((onTreeM l a b).1.length : Int) - 2)) < ((onTreeM l a b).1.length : Int) then (some (rd (onTreeM l a b).1 (wrap64 (((onTreeM l a b).1.length : Int) - 2)), true)) else (none)) else (none)) else (some (0, false))) (comesFrom l a b) := by
 have hc : (goodP l = true ∧ (0 ≤ a ∧ a < l.length) ∧ (0 ≤ b ∧ b < l.length)) ∧ a ≠ b := ⟨⟨hg, ⟨ha, ha1⟩, hb, hb1⟩, hne⟩
 unfold comesFrom
 rw [if_pos hc]
 have hln := onTreeM_len (l := l) a b
 have h12 := (good_deep hg).2.1
 by_cases h : (onTreeM l a b).2 = true
 ·obtain ⟨w', f, e, _, _⟩ := onTreeM_two hg ha ha1 hb hb1 hne h
  have hl2 : (onTreeM l a b).1.length = w'.length + 2 := by rw [e]; simp
  simp only [if_pos h]
  rw [wrap_id (by omega) (by omega)]
  simp only [if_pos (show (0 : Int) ≤ ((onTreeM l a b).1.length : Int) - 2 by omega), if_pos (show ((onTreeM l a b).1.length : Int) - 2 < ((onTreeM l a b).1.length : Int) by omega)]
  exact Ev.now _
 ·simp only [if_neg h]
  exact Ev.now _
theorem specComes_ev (l : List Int) (a b : Int) (hl : l.length ≤ 1048576) : Ev (fun k => spec_ComesFrom.f k l a b) (comesFrom l a b) := by
 have h2 := specTwo_ev l a b hl
 rw [twoB] at h2
 have bad : (¬ ((goodP l = true ∧ (0 ≤ a ∧ a < l.length) ∧ (0 ≤ b ∧ b < l.length)) ∧ a ≠ b)) → Ev (fun k => spec_ComesFrom.j0 k l a b true) (comesFrom l a b) := fun h => by
  refine Ev.succ ?_
  simp only [spec_ComesFrom.j0, if_true]
  unfold comesFrom
  rw [if_neg h]
  exact Ev.now _
 unfold spec_ComesFrom.f
 refine Ev.bind h2 ?_
 by_cases h : goodP l = true ∧ (0 ≤ a ∧ a < l.length) ∧ (0 ≤ b ∧ b < l.length)
 ·simp only [decide_eq_true h, if_true]
  by_cases e : a = b
  ·rw [show (a == b) = true from beq_iff_eq.2 e]
   exact bad (fun hc => hc.2 e)
  ·rw [show (a == b) = false from beq_eq_false_iff_ne.2 e]
   refine Ev.succ ?_
   simp only [spec_ComesFrom.j0, Bool.false_eq_true, if_false]
   exact Ev.bind (specOn_ev h.1 h.2.1.1 h.2.1.2 h.2.2.1 h.2.2.2) (comes_end h.1 h.2.1.1 h.2.1.2 h.2.2.1 h.2.2.2 e)
 ·simp only [decide_eq_false h, Bool.false_eq_true, if_false]
  exact bad (fun hc => h hc.1)
theorem implComes_ev (l : List Int) (a b : Int) (hl : l.length ≤ 1048576) : Ev (fun k => impl_ComesFrom.f k l a b) (comesFrom l a b) := by
 have h2 := implTree_ev l [a, b] hl (by simp)
 rw [treeB] at h2
 have bad : (¬ ((goodP l = true ∧ (0 ≤ a ∧ a < l.length) ∧ (0 ≤ b ∧ b < l.length)) ∧ a ≠ b)) → Ev (fun k => impl_ComesFrom.j0 k l a b true) (comesFrom l a b) := fun h => by
  refine Ev.succ ?_
  simp only [impl_ComesFrom.j0, if_true]
  unfold comesFrom
  rw [if_neg h]
  exact Ev.now _
 unfold impl_ComesFrom.f
 refine Ev.bind h2 ?_
 by_cases h : goodP l = true ∧ (0 ≤ a ∧ a < l.length) ∧ (0 ≤ b ∧ b < l.length)
 ·simp only [decide_eq_true h, if_true]
  by_cases e : a = b
  ·rw [show (a == b) = true from beq_iff_eq.2 e]
   exact bad (fun hc => hc.2 e)
  ·rw [show (a == b) = false from beq_eq_false_iff_ne.2 e]
   refine Ev.succ ?_
   simp only [impl_ComesFrom.j0, Bool.false_eq_true, if_false]
   exact Ev.bind (implOn_ev h.1 h.2.1.1 h.2.1.2 h.2.2.1 h.2.2.2) (comes_end h.1 h.2.1.1 h.2.1.2 h.2.2.1 h.2.2.2 e)
 ·simp only [decide_eq_false h, Bool.false_eq_true, if_false]
  exact bad (fun hc => h hc.1)
end Go.Proofs.Ytedegfbheihopaa.P

namespace Go.Proofs.Ytedegfbheihopaa.Pure
open Go.RowKit Go.Proofs.Ytedegfbheihopaa.P Go.Proofs.YtedegfbheihopaaW.PrintWords Go.Proofs.YtedegfbheihopaaW.PrintLast
set_option linter.unusedVariables false
set_option linter.unusedSimpArgs false
theorem FnExactComesFrom : laws_FnExactComesFrom.Pure := by
 intro l a b _ _ _ _ _
 refine Ev.rounds ?_
 unfold laws_FnExactComesFrom.f
 by_cases hq : (l.length : Int) > 1048576
 ·simp only [if_pos hq]
  exact Ev.now _
 simp only [if_neg hq]
 have hl : l.length ≤ 1048576 := by omega
 refine Ev.bind (toIntS_ev l hl) ?_
 refine Ev.bind (specComes_ev l a b hl) ?_
 refine Ev.bind (toIntS_ev l hl) ?_
 refine Ev.bind (implComes_ev l a b hl) ?_
 simp only [if_true, bne_self_eq_false]
 refine Ev.succ ?_
 simp only [laws_FnExactComesFrom.j0, Bool.false_eq_true, if_false]
 refine Ev.bind (toIntS_ev l hl) ?_
 refine Ev.bind (eqIntS_ev _ _ (by omega)) ?_
 simp only [decide_true, if_true]
 exact Ev.now _
end Go.Proofs.Ytedegfbheihopaa.Pure
