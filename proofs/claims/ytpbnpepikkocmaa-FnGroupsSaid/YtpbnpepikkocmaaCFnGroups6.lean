/- Functions, walks and plain lemmas that the law FnGroups reaches, part 6. -/
import Derived.Test.YtpbnpepikkocmaaCFnGroups5
import Derived.Below
import Derived.Deep.Draws
import Derived.Deep.AppendLies
import Derived.Maps.AppendAt
import Derived.OwnWalk
import Derived.Laws.BytesArg
import Derived.Laws.MakeOwn
import Derived.Laws.OwnMore
import Derived.Deep.OwnRows
import Derived.Tactics
import Derived.Lib.ConvBytes
import Derived.Laws.Slices
import Derived.WalkKit
import Derived.KernelRfl
import Derived.RowKit3
import Derived.Deep.LoopGhost
import Derived.Deep.QuietTactic
import Derived.BigQuiet
import Derived.WideLaws
import Derived.Deep.DeepCutAuto
import Derived.Deep.CutBlock
import Derived.Deep.RegionHeld3
import Derived.Laws.Rows
import Derived.Lib.AppendStr
import Derived.ArgAppend
import Derived.Laws.IdiomCopy
import Derived.OrdersHeld
import Derived.Laws.BitsLemmas
import Derived.RowKit
import Derived.WalkSpells
import Derived.Lib.SliceRun
import Derived.Shelf.Abstract
import Derived.ProofKit
import Derived.OpenShut
import Derived.ShutString
import Derived.ChangeOld
import Derived.SizedLaws
namespace Go.Proofs.Ytpbnpepikkocmaa.P
open Go.RowKit Go.Proofs.YtpbnpepikkocmaaW.PrintWords Go.Proofs.YtpbnpepikkocmaaW.PrintLast
set_option linter.unusedVariables false
set_option linter.unusedSimpArgs false
def at_ (out : List Int) (v : Nat) : Int := out.getD v 0
def stepG (out : List Int) (e : Nat × Nat) : List Int := (out.set e.1 (min (at_ out e.1) (at_ out e.2))).set e.2 (min (at_ out e.1) (at_ out e.2))
def roundG (E : List (Nat × Nat)) (out : List Int) : List Int := E.foldl stepG out
def iterG (E : List (Nat × Nat)) (out : List Int) : Nat → List Int
  | 0 => out
  | k + 1 => roundG E (iterG E out k)
def InG (n : Nat) (E : List (Nat × Nat)) : Prop := ∀ e ∈ E, e.1 < n ∧ e.2 < n
inductive Conn (E : List (Nat × Nat)) : Nat → Nat → Prop
  | refl (v : Nat) : Conn E v v
  | fwd {v a b : Nat} : Conn E v a → (a, b) ∈ E → Conn E v b
  | bwd {v a b : Nat} : Conn E v b → (a, b) ∈ E → Conn E v a
theorem Conn.trans {E : List (Nat × Nat)} {u v w : Nat} (h : Conn E u v) (k : Conn E v w) : Conn E u w := by
  induction k with
  | refl => exact h
  | fwd _ he ih => exact .fwd ih he
  | bwd _ he ih => exact .bwd ih he
theorem Conn.symm {E : List (Nat × Nat)} {u v : Nat} (h : Conn E u v) : Conn E v u := by
  induction h with
  | refl => exact .refl _
  | fwd _ he ih => exact (Conn.bwd (.refl _) he).trans ih
  | bwd _ he ih => exact (Conn.fwd (.refl _) he).trans ih
theorem Conn.lt {n : Nat} {E : List (Nat × Nat)} (hE : InG n E) {u v : Nat} (h : Conn E u v) (hu : u < n) : v < n := by
  induction h with
  | refl => exact hu
  | fwd _ he _ => exact (hE _ he).2
  | bwd _ he _ => exact (hE _ he).1
theorem stepG_len (out : List Int) (e : Nat × Nat) : (stepG out e).length = out.length := by simp [stepG]
theorem at_set (out : List Int) (a v : Nat) (x : Int) (ha : a < out.length) : at_ (out.set a x) v = if v = a then x else at_ out v := by
  unfold at_
  rw [List.getD_eq_getElem?_getD, List.getD_eq_getElem?_getD]
  by_cases h : v = a
  · subst h; rw [List.getElem?_set_self ha, if_pos rfl]; rfl
  · rw [List.getElem?_set_ne (fun e => h e.symm), if_neg h]
theorem stepG_at (out : List Int) (e : Nat × Nat) (h1 : e.1 < out.length) (h2 : e.2 < out.length) (v : Nat) : at_ (stepG out e) v = if v = e.1 ∨ v = e.2 then min (at_ out e.1) (at_ out e.2) else at_ out v := by
  unfold stepG
  rw [at_set _ _ _ _ (by simpa using h2), at_set _ _ _ _ h1]
  by_cases h : v = e.2
  · simp [h]
  · by_cases h' : v = e.1 <;> simp [h, h']
theorem stepG_le (out : List Int) (e : Nat × Nat) (h1 : e.1 < out.length) (h2 : e.2 < out.length) (v : Nat) : at_ (stepG out e) v ≤ at_ out v := by
  rw [stepG_at out e h1 h2]
  split
  · rename_i h
    rcases h with rfl | rfl <;> omega
  · exact Int.le_refl _
theorem roundG_len : ∀ (E : List (Nat × Nat)) (out : List Int), (roundG E out).length = out.length
  | [], _ => rfl
  | e :: E, out => by
    show (roundG E (stepG out e)).length = _
    rw [roundG_len E, stepG_len]
theorem roundG_le : ∀ (E : List (Nat × Nat)) (out : List Int), InG out.length E → ∀ v, at_ (roundG E out) v ≤ at_ out v
  | [], _, _, v => Int.le_refl _
  | e :: E, out, h, v => by
    have he := h e (by simp)
    have h1 := roundG_le E (stepG out e) (by rw [stepG_len]; exact fun x hx => h x (by simp [hx])) v
    have h2 := stepG_le out e he.1 he.2 v
    show at_ (roundG E (stepG out e)) v ≤ _
    omega
/-- Behind a round both ends of an edge have no more than either had. -/
theorem roundG_edge : ∀ (E : List (Nat × Nat)) (out : List Int), InG out.length E → ∀ a b, (a, b) ∈ E → at_ (roundG E out) a ≤ at_ out b ∧ at_ (roundG E out) b ≤ at_ out a
  | [], _, _, a, b, h => by simp at h
  | e :: E, out, h, a, b, hab => by
    have he := h e (by simp)
    have hE : InG (stepG out e).length E := by rw [stepG_len]; exact fun x hx => h x (by simp [hx])
    show at_ (roundG E (stepG out e)) a ≤ _ ∧ at_ (roundG E (stepG out e)) b ≤ _
    rcases List.mem_cons.1 hab with rfl | hab
    · have ha := roundG_le E (stepG out (a, b)) hE a
      have hb := roundG_le E (stepG out (a, b)) hE b
      rw [stepG_at out (a, b) he.1 he.2] at ha hb
      simp only [true_or, or_true, if_true] at ha hb
      omega
    · have h1 := roundG_edge E (stepG out e) hE a b hab
      have h2 := stepG_le out e he.1 he.2 a
      have h3 := stepG_le out e he.1 he.2 b
      omega
theorem iterG_len (E : List (Nat × Nat)) (out : List Int) : ∀ k, (iterG E out k).length = out.length
  | 0 => rfl
  | k + 1 => by simp only [iterG]; rw [roundG_len, iterG_len E out k]
/-- Each label is a spot that is joined. -/
def LabG (E : List (Nat × Nat)) (out : List Int) : Prop := ∀ v, v < out.length → ∃ u : Nat, at_ out v = u ∧ Conn E v u
theorem stepG_lab {E : List (Nat × Nat)} {out : List Int} (e : Nat × Nat) (he : e ∈ E) (h1 : e.1 < out.length) (h2 : e.2 < out.length) (h : LabG E out) : LabG E (stepG out e) := by
  intro v hv
  rw [stepG_len] at hv
  rw [stepG_at out e h1 h2]
  split
  · rename_i hve
    obtain ⟨x, y⟩ := e
    obtain ⟨u1, e1, c1⟩ := h x h1
    obtain ⟨u2, e2, c2⟩ := h y h2
    have cxy : Conn E x y := .fwd (.refl _) he
    have cv : Conn E v x ∧ Conn E v y := by
      rcases hve with rfl | rfl
      · exact ⟨.refl _, cxy⟩
      · exact ⟨cxy.symm, .refl _⟩
    simp only
    rw [e1, e2]
    rcases Int.le_total (u1 : Int) u2 with hle | hle
    · exact ⟨u1, by omega, cv.1.trans c1⟩
    · exact ⟨u2, by omega, cv.2.trans c2⟩
  · exact h v hv
theorem foldl_lab {E : List (Nat × Nat)} : ∀ (D : List (Nat × Nat)) (out : List Int), (∀ e ∈ D, e ∈ E) → InG out.length D → LabG E out → LabG E (D.foldl stepG out)
  | [], _, _, _, h => h
  | e :: D, out, hD, hin, h => by
    have he := hin e (by simp)
    exact foldl_lab D (stepG out e) (fun x hx => hD x (by simp [hx])) (by rw [stepG_len]; exact fun x hx => hin x (by simp [hx])) (stepG_lab e (hD e (by simp)) he.1 he.2 h)
theorem iterG_lab {E : List (Nat × Nat)} {out : List Int} (hin : InG out.length E) (h : LabG E out) : ∀ k, LabG E (iterG E out k)
  | 0 => h
  | k + 1 => foldl_lab E _ (fun _ he => he) (by rw [iterG_len]; exact hin) (iterG_lab hin h k)
/-- How many spots have at most m. -/
def cntG (out : List Int) (m : Int) : Nat := (List.range out.length).countP fun v => decide (at_ out v ≤ m)
theorem countP_mono {α : Type} (p q : α → Bool) (l : List α) (h : ∀ x ∈ l, p x = true → q x = true) : l.countP p ≤ l.countP q := List.countP_mono_left h
theorem countP_lt {α : Type} (p q : α → Bool) : ∀ (l : List α), (∀ x ∈ l, p x = true → q x = true) → (∃ x ∈ l, p x = false ∧ q x = true) → l.countP p < l.countP q
  | [], _, ⟨x, hx, _⟩ => by simp at hx
  | y :: l, h, ⟨x, hx, hp, hq⟩ => by
    have h1 := countP_mono p q l (fun z hz => h z (by simp [hz]))
    rw [List.countP_cons, List.countP_cons]
    rcases List.mem_cons.1 hx with rfl | hx
    · simp only [hp, hq, if_true, Bool.false_eq_true, if_false]
      omega
    · have h2 := countP_lt p q l (fun z hz => h z (by simp [hz])) ⟨x, hx, hp, hq⟩
      have h3 := h y (by simp)
      cases hy : p y with
      | false => simp only [Bool.false_eq_true, if_false]; omega
      | true => simp only [h3 hy, if_true]; omega
/-- The spots that have at most m: all that are joined with m, or they grow. -/
theorem spread_one {E : List (Nat × Nat)} {out : List Int} (hin : InG out.length E) (m : Nat) (hm : at_ out m ≤ m) (hmn : m < out.length) :
    (∀ v, Conn E m v → at_ out v ≤ m) ∨ cntG out m < cntG (roundG E out) m := by
  by_cases hc : ∀ a b, (a, b) ∈ E → (at_ out a ≤ m ↔ at_ out b ≤ m)
  · left
    intro v hv
    induction hv with
    | refl => exact hm
    | fwd _ he ih => exact (hc _ _ he).1 ih
    | bwd _ he ih => exact (hc _ _ he).2 ih
  · right
    have hc2 : ∃ a b, (a, b) ∈ E ∧ ¬ (at_ out a ≤ m ↔ at_ out b ≤ m) := Classical.byContradiction fun hn => hc fun a b he => Classical.byContradiction fun h => hn ⟨a, b, he, h⟩
    obtain ⟨a, b, he, hne⟩ := hc2
    have hlen := roundG_len E out
    unfold cntG
    rw [hlen]
    have hab := hin _ he
    have hr := roundG_edge E out hin a b he
    refine countP_lt _ _ _ (fun v _ hv => ?_) ?_
    · simp only [decide_eq_true_eq] at hv ⊢
      have := roundG_le E out hin v
      omega
    · by_cases ha : at_ out a ≤ m
      · have hb : ¬ at_ out b ≤ m := fun hb => hne ⟨fun _ => hb, fun _ => ha⟩
        exact ⟨b, List.mem_range.2 hab.2, by simpa using hb, by simp only [decide_eq_true_eq]; omega⟩
      · have hb : at_ out b ≤ m := Classical.byContradiction fun hb => hne ⟨fun h => absurd h ha, fun h => absurd h hb⟩
        exact ⟨a, List.mem_range.2 hab.1, by simpa using ha, by simp only [decide_eq_true_eq]; omega⟩
theorem iterG_le {E : List (Nat × Nat)} {out : List Int} (hin : InG out.length E) (v : Nat) (k : Nat) : at_ (iterG E out (k + 1)) v ≤ at_ (iterG E out k) v :=
  roundG_le E _ (by rw [iterG_len]; exact hin) v
theorem spread_all {E : List (Nat × Nat)} {out : List Int} (hin : InG out.length E) (m : Nat) (hm : at_ out m ≤ m) (hmn : m < out.length) : ∀ k, at_ (iterG E out k) m ≤ m ∧ ((∀ v, Conn E m v → at_ (iterG E out k) v ≤ m) ∨ k + 1 ≤ cntG (iterG E out k) m)
  | 0 => by
    refine ⟨hm, .inr ?_⟩
    have : 0 < cntG out m := by
      unfold cntG
      rw [List.countP_pos_iff]
      exact ⟨m, List.mem_range.2 hmn, by simpa using hm⟩
    show 0 + 1 ≤ cntG out m
    omega
  | k + 1 => by
    obtain ⟨h1, h2⟩ := spread_all hin m hm hmn k
    have hin2 : InG (iterG E out k).length E := by rw [iterG_len]; exact hin
    refine ⟨Int.le_trans (iterG_le hin m k) h1, ?_⟩
    rcases h2 with h2 | h2
    · exact .inl fun v hv => Int.le_trans (iterG_le hin v k) (h2 v hv)
    · rcases spread_one hin2 m h1 (by rw [iterG_len]; exact hmn) with h3 | h3
      · exact .inl fun v hv => Int.le_trans (iterG_le hin v k) (h3 v hv)
      · right
        show k + 1 + 1 ≤ cntG (roundG E (iterG E out k)) m
        omega
theorem spread_done {E : List (Nat × Nat)} {out : List Int} (hin : InG out.length E) (m : Nat) (hm : at_ out m ≤ m) (hmn : m < out.length) {k : Nat} (hk : out.length ≤ k + 1) : ∀ v, Conn E m v → at_ (iterG E out k) v ≤ m := by
  rcases (spread_all hin m hm hmn k).2 with h | h
  · exact h
  · intro v hv
    refine Classical.byContradiction fun hn => ?_
    have hv2 := hv.lt hin hmn
    have : cntG (iterG E out k) m < (List.range out.length).countP (fun _ => true) := by
      unfold cntG
      rw [iterG_len]
      refine countP_lt _ _ _ (fun _ _ _ => rfl) ⟨v, List.mem_range.2 hv2, by simpa using hn, rfl⟩
    rw [show (List.range out.length).countP (fun _ => true) = out.length by simp] at this
    omega
/-- The spots' own numbers. -/
def own0 (n : Nat) : List Int := (List.range n).map fun (i : Nat) => (i : Int)
theorem own0_len (n : Nat) : (own0 n).length = n := by simp [own0]
theorem own0_at {n v : Nat} (h : v < n) : at_ (own0 n) v = v := by
  unfold at_ own0
  rw [List.getD_eq_getElem?_getD, List.getElem?_map, List.getElem?_range h]
  rfl
/-- The groups: to each spot the least one that edges lead to from it. -/
def grp (n : Nat) (E : List (Nat × Nat)) : List Int := iterG E (own0 n) n
theorem grp_len (n : Nat) (E : List (Nat × Nat)) : (grp n E).length = n := by unfold grp; rw [iterG_len, own0_len]
theorem grp_ok {n : Nat} {E : List (Nat × Nat)} (hE : InG n E) {v : Nat} (hv : v < n) : ∃ u : Nat, at_ (grp n E) v = u ∧ Conn E v u ∧ u < n ∧ ∀ m, Conn E v m → u ≤ m := by
  have hin : InG (own0 n).length E := by rw [own0_len]; exact hE
  have hlab : LabG E (own0 n) := fun v hv => by
    rw [own0_len] at hv
    exact ⟨v, own0_at hv, .refl _⟩
  obtain ⟨u, e, c⟩ := iterG_lab hin hlab n v (by rw [iterG_len, own0_len]; exact hv)
  refine ⟨u, e, c, c.lt hE hv, fun m hm => ?_⟩
  have hmn := hm.lt hE hv
  have := spread_done hin m (by rw [own0_at hmn]; exact Int.le_refl _) (by rw [own0_len]; exact hmn) (k := n) (by rw [own0_len]; omega) v hm.symm
  rw [e] at this
  omega
/-- From as many rounds on as there are spots nothing changes. -/
theorem iterG_fix {n : Nat} {E : List (Nat × Nat)} (hE : InG n E) : roundG E (grp n E) = grp n E := by
  have hin : InG (own0 n).length E := by rw [own0_len]; exact hE
  apply List.ext_getElem?
  intro v
  by_cases hv : v < n
  · have l1 : v < (roundG E (grp n E)).length := by rw [roundG_len, grp_len]; exact hv
    have l2 : v < (grp n E).length := by rw [grp_len]; exact hv
    obtain ⟨u, e, c, hu, _⟩ := grp_ok hE hv
    have hlab : LabG E (own0 n) := fun v hv => by
      rw [own0_len] at hv
      exact ⟨v, own0_at hv, .refl _⟩
    obtain ⟨u2, e2, c2⟩ := iterG_lab hin hlab (n + 1) v (by rw [iterG_len, own0_len]; exact hv)
    have e2' : at_ (roundG E (grp n E)) v = u2 := e2
    obtain ⟨u3, e3, _, _, h3⟩ := grp_ok hE hv
    have h4 := roundG_le E (grp n E) (by rw [grp_len]; exact hE) v
    have h5 := h3 u2 c2
    have : at_ (roundG E (grp n E)) v = at_ (grp n E) v := by
      rw [e2', e3]
      rw [e2', e3] at h4
      omega
    unfold at_ at this
    rw [List.getD_eq_getElem?_getD, List.getD_eq_getElem?_getD, List.getElem?_eq_getElem l1, List.getElem?_eq_getElem l2] at this
    rw [List.getElem?_eq_getElem l1, List.getElem?_eq_getElem l2]
    exact congrArg some this
  · rw [List.getElem?_eq_none (by rw [roundG_len, grp_len]; omega), List.getElem?_eq_none (by rw [grp_len]; omega)]
end Go.Proofs.Ytpbnpepikkocmaa.P

namespace Go.Proofs.Ytpbnpepikkocmaa.P
open Go.RowKit Go.Proofs.YtpbnpepikkocmaaW.PrintWords Go.Proofs.YtpbnpepikkocmaaW.PrintLast
set_option linter.unusedVariables false
set_option linter.unusedSimpArgs false
-- sweeps over a list of numbers; the least of two
theorem least_is (a b : Int) : spec_l1Least.f a b = some (min a b) := by
  unfold spec_l1Least.f
  split
  · rw [Int.min_eq_left (by omega)]
  · rw [Int.min_eq_right (by omega)]
theorem mn_is (a b : Int) : mn a b = min a b := by
  unfold mn
  split
  · rw [Int.min_eq_right (by omega)]
  · rw [Int.min_eq_left (by omega)]
theorem own0_succ (n : Nat) : own0 (n + 1) = own0 n ++ [(n : Int)] := by
  unfold own0
  rw [List.range_succ, List.map_append]
  rfl
theorem mx_is (a b : Int) : mx a b = max a b := by
  unfold mx
  split <;> omega
theorem own0_mem (n : Nat) (x : Int) : x ∈ own0 n ↔ 0 ≤ x ∧ x < n := by
  unfold own0
  rw [List.mem_map]
  constructor
  · rintro ⟨i, hi, rfl⟩
    have := List.mem_range.1 hi
    omega
  · intro ⟨h0, h1⟩
    exact ⟨x.toNat, List.mem_range.2 (by omega), by omega⟩
theorem own0_sorted : ∀ (n : Nat), (own0 n).Pairwise (· < ·)
  | 0 => by simp [own0]
  | n + 1 => by
    rw [own0_succ]
    refine List.pairwise_append.2 ⟨own0_sorted n, by simp, fun a ha b hb => ?_⟩
    have := (own0_mem n a).1 ha
    simp only [List.mem_singleton] at hb
    omega
end Go.Proofs.Ytpbnpepikkocmaa.P

namespace Go.Proofs.Ytpbnpepikkocmaa.P
open Go.RowKit Go.Proofs.YtpbnpepikkocmaaW.PrintWords Go.Proofs.YtpbnpepikkocmaaW.PrintLast
set_option linter.unusedVariables false
set_option linter.unusedSimpArgs false
-- the groups of the program
def prs (l : List S52) : List (Nat × Nat) := l.map fun e => (e.f0.toNat, e.f1.toNat)
theorem prs_in {n : Int} {l : List S52} (h : ∀ x ∈ l, 0 ≤ x.f0 ∧ x.f0 < x.f1 ∧ x.f1 < n) : InG n.toNat (prs l) := by
  intro e he
  unfold prs at he
  obtain ⟨x, hx, rfl⟩ := List.mem_map.1 he
  have := h x hx
  constructor
  · show x.f0.toNat < n.toNat
    omega
  · show x.f1.toNat < n.toNat
    omega
def groupsM (n : Int) (l : List S52) : List Int := grp n.toNat (prs l)
theorem stepG_ne {out : List Int} {e : Nat × Nat} (h1 : e.1 < out.length) (h2 : e.2 < out.length) : stepG out e = out ↔ (at_ out e.1 = min (at_ out e.1) (at_ out e.2) ∧ at_ out e.2 = min (at_ out e.1) (at_ out e.2)) := by
  constructor
  · intro h
    have a1 := stepG_at out e h1 h2 e.1
    have a2 := stepG_at out e h1 h2 e.2
    rw [h] at a1 a2
    simp only [true_or, or_true, if_true] at a1 a2
    exact ⟨a1, a2⟩
  · intro h
    apply List.ext_getElem?
    intro v
    by_cases hv : v < out.length
    · have l1 : v < (stepG out e).length := by rw [stepG_len]; exact hv
      have a := stepG_at out e h1 h2 v
      have : at_ (stepG out e) v = at_ out v := by
        rw [a]
        split
        · rename_i hve
          rcases hve with rfl | rfl
          · exact h.1.symm
          · exact h.2.symm
        · rfl
      unfold at_ at this
      rw [List.getD_eq_getElem?_getD, List.getD_eq_getElem?_getD, List.getElem?_eq_getElem l1, List.getElem?_eq_getElem hv] at this
      rw [List.getElem?_eq_getElem l1, List.getElem?_eq_getElem hv]
      exact congrArg some this
    · rw [List.getElem?_eq_none (by rw [stepG_len]; omega), List.getElem?_eq_none (by omega)]
theorem round_moved {out : List Int} {e : Nat × Nat} {E : List (Nat × Nat)} (h1 : e.1 < out.length) (h2 : e.2 < out.length) (hE : InG out.length E) (h : stepG out e ≠ out) : roundG E (stepG out e) ≠ out := by
  intro hc
  refine h ((stepG_ne h1 h2).2 ?_)
  have key : ∀ v, at_ out v ≤ at_ (stepG out e) v := fun v => by
    have := roundG_le E (stepG out e) (by rw [stepG_len]; exact hE) v
    rw [hc] at this
    exact this
  have a1 := stepG_at out e h1 h2 e.1
  have a2 := stepG_at out e h1 h2 e.2
  simp only [true_or, or_true, if_true] at a1 a2
  have k1 := key e.1
  have k2 := key e.2
  omega
def pairs (l : List S52) : List (List Int) := l.map fun e => [e.f0, e.f1]
theorem rdLL_mid (pre : List (List Int)) (x : List Int) (suf : List (List Int)) : rd_L3 (pre ++ x :: suf) (pre.length : Int) = x := getD_mid _ pre x suf
theorem implGroups_l2 (P : List (List Int)) (R : List Int) (suf : List S52) : ∀ (pre : List S52) (out : List Int) (b : Bool), pairs (pre ++ suf) = P → (P.length : Int) ≤ 1099511627776 → (∀ x ∈ suf, 0 ≤ x.f0 ∧ x.f0 < x.f1 ∧ x.f1 < out.length) →
    Ev (fun k => impl_groups.l1 k P (roundG (prs suf) out) (b || !decide (roundG (prs suf) out = out))) R →
    Ev (fun k => impl_groups.l2 k P out b P (P.length : Int) (pre.length : Int)) R := by
  induction suf with
  | nil =>
    intro pre out b he hb hx h
    refine Ev.succ ?_
    simp only [impl_groups.l2]
    have c1 : ¬ (pre.length : Int) < (P.length : Int) := by rw [← he]; simp [pairs]
    simp only [if_neg c1]
    have e : roundG (prs []) out = out := rfl
    rw [e] at h
    simpa using h
  | cons x suf ih =>
    intro pre out b he hb hx h
    have hl : P.length = pre.length + suf.length + 1 := by rw [← he]; simp [pairs] <;> omega
    have c1 : (pre.length : Int) < (P.length : Int) := by omega
    have c0 : (0 : Int) ≤ (pre.length : Int) := by omega
    have hr : rd_L3 P (pre.length : Int) = [x.f0, x.f1] := by
      rw [← he]
      have := rdLL_mid (pairs pre) [x.f0, x.f1] (pairs suf)
      unfold pairs at this ⊢
      rw [List.length_map] at this
      simpa using this
    have hxx := hx x (by simp)
    have i1 : x.f0.toNat < out.length := by omega
    have i2 : x.f1.toNat < out.length := by omega
    have hE : InG out.length (prs suf) := by
      have := prs_in (n := (out.length : Int)) (l := suf) (fun y hy => hx y (by simp [hy]))
      simpa using this
    refine Ev.succ ?_
    simp only [impl_groups.l2]
    have r0 : rd [x.f0, x.f1] 0 = x.f0 := rfl
    have r1 : rd [x.f0, x.f1] 1 = x.f1 := rfl
    have q1 : (0 : Int) < (([x.f0, x.f1] : List Int).length : Int) := by simp
    have q2 : (1 : Int) < (([x.f0, x.f1] : List Int).length : Int) := by simp
    simp only [if_pos c1, if_pos c0, hr, if_pos q1, if_pos q2, r0, r1, if_pos (show 0 ≤ x.f0 by omega), if_pos (show x.f0 < (out.length : Int) by omega), if_pos (show 0 ≤ x.f1 by omega), if_pos (show x.f1 < (out.length : Int) by omega), mn_is, wrap_id (x := (pre.length : Int) + 1) (by omega) (by omega)]
    have go : ∀ b2 : Bool, b2 = (b || !decide (stepG out (x.f0.toNat, x.f1.toNat) = out)) →
        Ev (fun k => impl_groups.l2 k P (stepG out (x.f0.toNat, x.f1.toNat)) b2 P (P.length : Int) ((pre.length : Int) + 1)) R := by
      intro b2 hb2
      have h2 := ih (pre ++ [x]) (stepG out (x.f0.toNat, x.f1.toNat)) b2 (by rw [← he]; simp) hb (by rw [stepG_len]; exact fun y hy => hx y (by simp [hy])) (by
        have e : (b2 || !decide (roundG (prs suf) (stepG out (x.f0.toNat, x.f1.toNat)) = stepG out (x.f0.toNat, x.f1.toNat))) = (b || !decide (roundG (prs (x :: suf)) out = out)) := by
          rw [hb2]
          have er : roundG (prs (x :: suf)) out = roundG (prs suf) (stepG out (x.f0.toNat, x.f1.toNat)) := rfl
          rw [er]
          by_cases hs : stepG out (x.f0.toNat, x.f1.toNat) = out
          · simp only [hs, decide_true, Bool.not_true, Bool.or_false]
          · have hm := round_moved i1 i2 hE hs
            simp [hs, hm]
        rw [e]
        exact h)
      rw [len_one] at h2
      exact h2
    have hs := stepG_ne (out := out) (e := (x.f0.toNat, x.f1.toNat)) i1 i2
    have es : (out.set x.f0.toNat (min (rd out x.f0) (rd out x.f1))).set x.f1.toNat (min (rd out x.f0) (rd out x.f1)) = stepG out (x.f0.toNat, x.f1.toNat) := rfl
    have e1 : rd out x.f0 = at_ out x.f0.toNat := rfl
    have e2 : rd out x.f1 = at_ out x.f1.toNat := rfl
    rw [es]
    cases b with
    | true =>
      simp only [if_true]
      exact go true (by simp)
    | false =>
      simp only [Bool.false_eq_true, if_false]
      by_cases g1 : rd out x.f0 = min (rd out x.f0) (rd out x.f1)
      · simp only [if_pos g1]
        refine go _ ?_
        rw [Bool.false_or]
        by_cases g2 : rd out x.f1 = min (rd out x.f0) (rd out x.f1)
        · have : stepG out (x.f0.toNat, x.f1.toNat) = out := hs.2 ⟨g1, g2⟩
          rw [← g2]
          simp [this]
        · have : stepG out (x.f0.toNat, x.f1.toNat) ≠ out := fun h => g2 (hs.1 h).2
          simp only [this, decide_false, Bool.not_false]
          rw [bne_iff_ne]
          exact g2
      · simp only [if_neg g1]
        refine go true ?_
        have : stepG out (x.f0.toNat, x.f1.toNat) ≠ out := fun h => g1 (hs.1 h).1
        simp [this]
theorem implGroups_l1 (l : List S52) (n : Nat) (hb : (l.length : Int) ≤ 1048576) (hx : ∀ x ∈ l, 0 ≤ x.f0 ∧ x.f0 < x.f1 ∧ x.f1 < n) (d : Nat) : ∀ (c : Nat), c + d = n + 1 →
    Ev (fun k => impl_groups.l1 k (pairs l) (iterG (prs l) (own0 n) c) true) (grp n (prs l)) := by
  have hE : InG n (prs l) := by
    have := prs_in (n := (n : Int)) (l := l) hx
    simpa using this
  have stay : ∀ j, iterG (prs l) (own0 n) (n + j) = grp n (prs l) := by
    intro j
    induction j with
    | zero => rfl
    | succ j ihj =>
      show roundG (prs l) (iterG (prs l) (own0 n) (n + j)) = _
      rw [ihj]
      exact iterG_fix hE
  have fixed : ∀ c, c ≤ n → roundG (prs l) (iterG (prs l) (own0 n) c) = iterG (prs l) (own0 n) c → iterG (prs l) (own0 n) c = grp n (prs l) := by
    intro c hc hf
    have : ∀ j, iterG (prs l) (own0 n) (c + j) = iterG (prs l) (own0 n) c := by
      intro j
      induction j with
      | zero => rfl
      | succ j ihj =>
        show roundG (prs l) (iterG (prs l) (own0 n) (c + j)) = _
        rw [ihj]
        exact hf
    have h := this (n - c)
    rw [show c + (n - c) = n by omega] at h
    exact h.symm
  induction d with
  | zero =>
    intro c hc
    have hc : c = n + 1 := by omega
    subst hc
    refine Ev.succ ?_
    simp only [impl_groups.l1, if_true]
    refine implGroups_l2 (pairs l) _ l [] _ false rfl (by simp [pairs]; omega) (by rw [iterG_len, own0_len]; exact hx) ?_
    have e1 : iterG (prs l) (own0 n) (n + 1) = grp n (prs l) := stay 1
    rw [e1, iterG_fix hE]
    simp only [decide_true, Bool.not_true, Bool.or_false]
    refine Ev.succ ?_
    simp only [impl_groups.l1, Bool.false_eq_true, if_false]
    exact Ev.now _
  | succ d ih =>
    intro c hc
    refine Ev.succ ?_
    simp only [impl_groups.l1, if_true]
    refine implGroups_l2 (pairs l) _ l [] _ false rfl (by simp [pairs]; omega) (by rw [iterG_len, own0_len]; exact hx) ?_
    by_cases hf : roundG (prs l) (iterG (prs l) (own0 n) c) = iterG (prs l) (own0 n) c
    · rw [hf]
      simp only [decide_true, Bool.not_true, Bool.or_false]
      refine Ev.succ ?_
      simp only [impl_groups.l1, Bool.false_eq_true, if_false]
      exact Ev.some_ (fixed c (by omega) hf)
    · simp only [hf, decide_false, Bool.not_false, Bool.or_true]
      exact ih (c + 1) (by omega)
theorem implGroups_l0 (n : Nat) (hn : n ≤ 1000) (l : List S52) (hb : (l.length : Int) ≤ 1048576) (hx : ∀ x ∈ l, 0 ≤ x.f0 ∧ x.f0 < x.f1 ∧ x.f1 < n) (d : Nat) : ∀ (c : Nat), c + d = n →
    Ev (fun k => impl_groups.l0 k (pairs l) (own0 c ++ List.replicate d 0) (n : Int) (c : Int)) (grp n (prs l)) := by
  induction d with
  | zero =>
    intro c hc
    have hc : c = n := by omega
    subst hc
    refine Ev.succ ?_
    simp only [impl_groups.l0]
    simp only [if_neg (show ¬ (c : Int) < (c : Int) by omega), List.replicate_zero, List.append_nil]
    exact implGroups_l1 l c hb hx (c + 1) 0 (by omega)
  | succ d ih =>
    intro c hc
    refine Ev.succ ?_
    simp only [impl_groups.l0]
    have hl : (own0 c ++ List.replicate (d + 1) (0 : Int)).length = n := by simp [own0_len]; omega
    simp only [if_pos (show (c : Int) < (n : Int) by omega), if_pos (show (0 : Int) ≤ (c : Int) by omega), if_pos (show (c : Int) < ((own0 c ++ List.replicate (d + 1) (0 : Int)).length : Int) by omega), wrap_id (x := (c : Int) + 1) (by omega) (by omega)]
    have h := ih (c + 1) (by omega)
    have e : (own0 c ++ List.replicate (d + 1) (0 : Int)).set ((c : Int)).toNat (c : Int) = own0 (c + 1) ++ List.replicate d 0 := by
      rw [own0_succ, List.replicate_succ]
      have := set_mid (own0 c) (0 : Int) (c : Int) (List.replicate d 0)
      rw [own0_len] at this
      rw [this]
      simp
    rw [e, show ((c : Int)) + 1 = ((c + 1 : Nat) : Int) by omega]
    exact h
theorem implGroups_ev (n : Int) (l : List S52) (h0 : 0 ≤ n) (hn : n ≤ 1000) (hb : (l.length : Int) ≤ 1048576) (hx : ∀ x ∈ l, 0 ≤ x.f0 ∧ x.f0 < x.f1 ∧ x.f1 < n) : Ev (fun k => impl_groups.f k n (pairs l)) (groupsM n l) := by
  obtain ⟨m, rfl⟩ := Int.eq_ofNat_of_zero_le h0
  unfold impl_groups.f groupsM
  simp only [if_pos h0, Int.toNat_natCast, if_pos (show m ≤ 35184372088832 by omega), Option.bind_some, List.length_replicate]
  have h := implGroups_l0 m (by omega) l hb hx m 0 (by omega)
  exact h
theorem implGroupsOf_l0 (n : Int) (R : List Int) (suf : List S52) : ∀ (pre : List S52), ((pre ++ suf).length : Int) ≤ 1048576 → Ev (fun k => impl_groups.f k n (pairs (pre ++ suf))) R →
    Ev (fun k => impl_groupsOf.l0 k n (pairs pre) (pre ++ suf) ((pre ++ suf).length : Int) (pre.length : Int)) R := by
  induction suf with
  | nil =>
    intro pre hb h
    refine Ev.succ ?_
    simp only [impl_groupsOf.l0]
    simp only [if_neg (show ¬ (pre.length : Int) < ((pre ++ ([] : List S52)).length : Int) by simp)]
    rw [List.append_nil] at h
    exact Ev.bind h (Ev.now _)
  | cons x suf ih =>
    intro pre hb h
    have c1 : (pre.length : Int) < ((pre ++ x :: suf).length : Int) := by simp <;> omega
    have c0 : (0 : Int) ≤ (pre.length : Int) := by omega
    have hp : (pairs pre).length < 5864062014805 := by simp [pairs]; omega
    refine Ev.succ ?_
    simp only [impl_groupsOf.l0]
    simp only [if_pos c1, if_pos c0, rdEdge_mid, if_pos hp, wrap_id (x := (pre.length : Int) + 1) (by omega) (by omega)]
    have h2 := ih (pre ++ [x]) (by rw [← app_one]; exact hb) (by rw [← app_one]; exact h)
    rw [← app_one, len_one] at h2
    have e : pairs (pre ++ [x]) = pairs pre ++ [[x.f0, x.f1]] := by simp [pairs]
    rw [e] at h2
    exact h2
theorem implGroupsOf_ev (n : Int) (l : List S52) (h0 : 0 ≤ n) (hn : n ≤ 1000) (hb : (l.length : Int) ≤ 1048576) (hx : ∀ x ∈ l, 0 ≤ x.f0 ∧ x.f0 < x.f1 ∧ x.f1 < n) : Ev (fun k => impl_groupsOf.f k n l) (groupsM n l) := by
  unfold impl_groupsOf.f
  exact implGroupsOf_l0 n _ l [] (by simpa using hb) (implGroups_ev n l h0 hn hb hx)
def groupsOf (n : Int) (l : List S52) : List Int × Bool := if goodE n l = true then (groupsM n l, true) else ([], false)
theorem implGroupsOfTop_ev (n : Int) (l : List S52) (hl : l.length ≤ 1048576) : Ev (fun k => impl_GroupsOf.f k n l) (groupsOf n l) := by
  unfold impl_GroupsOf.f
  refine Ev.bind (implGoodE_ev n l hl) ?_
  unfold groupsOf
  cases hg : goodE n l with
  | false => simp only [Bool.false_eq_true, if_false]; exact Ev.now _
  | true =>
    have hn := goodE_n hg
    simp only [if_true]
    exact Ev.bind (implGroupsOf_ev n l (by omega) (by omega) (by omega) (fun x hx => by have := goodE_edge hg x hx; omega)) (Ev.now _)
theorem groupsOf_len (n : Int) (l : List S52) : (groupsOf n l).1.length ≤ 12 := by
  unfold groupsOf
  split
  · rename_i hg
    have := goodE_n hg
    unfold groupsM
    simp only [grp_len]
    omega
  · simp
theorem groupsM_len (n : Int) (l : List S52) : (groupsM n l).length = n.toNat := grp_len _ _
end Go.Proofs.Ytpbnpepikkocmaa.P

namespace Go.Proofs.Ytpbnpepikkocmaa.P
open Go.RowKit Go.Proofs.YtpbnpepikkocmaaW.PrintWords Go.Proofs.YtpbnpepikkocmaaW.PrintLast
set_option linter.unusedVariables false
set_option linter.unusedSimpArgs false
theorem specGroups_l2 (l : List S52) (m : Nat) (c : Int) (R : List Int) (suf : List S52) : ∀ (pre : List S52) (out : List Int), pre ++ suf = l → (l.length : Int) ≤ 1099511627776 → out.length = m → (∀ x ∈ suf, 0 ≤ x.f0 ∧ x.f0 < x.f1 ∧ x.f1 < m) →
    Ev (fun k => spec_l8Groups.l1 k l (roundG (prs suf) out) (m : Int) (wrap64 (c + 1))) R →
    Ev (fun k => spec_l8Groups.l2 k l out (m : Int) c l (l.length : Int) (pre.length : Int)) R := by
  induction suf with
  | nil =>
    intro pre out he hb ho hx h
    refine Ev.succ ?_
    simp only [spec_l8Groups.l2]
    have c1 : ¬ (pre.length : Int) < (l.length : Int) := by rw [← he]; simp
    simp only [if_neg c1]
    exact h
  | cons x suf ih =>
    intro pre out he hb ho hx h
    have hl : l.length = pre.length + suf.length + 1 := by rw [← he]; simp <;> omega
    have c1 : (pre.length : Int) < (l.length : Int) := by omega
    have c0 : (0 : Int) ≤ (pre.length : Int) := by omega
    have hr : rd_T52 l (pre.length : Int) = x := by rw [← he]; exact rdEdge_mid _ _ _
    have hxx := hx x (by simp)
    refine Ev.succ ?_
    simp only [spec_l8Groups.l2]
    simp only [if_pos c1, if_pos c0, hr, if_pos (show 0 ≤ x.f0 by omega), if_pos (show x.f0 < (out.length : Int) by omega), if_pos (show 0 ≤ x.f1 by omega), if_pos (show x.f1 < (out.length : Int) by omega), least_is, Option.bind_some, wrap_id (x := (pre.length : Int) + 1) (by omega) (by omega)]
    have h2 := ih (pre ++ [x]) (stepG out (x.f0.toNat, x.f1.toNat)) (by rw [← he]; simp) hb (by rw [stepG_len]; exact ho) (fun y hy => hx y (by simp [hy])) h
    rw [len_one] at h2
    exact h2
theorem specGroups_l1 (l : List S52) (o0 : List Int) (hb : (l.length : Int) ≤ 1099511627776) (hm : o0.length ≤ 1000) (hx : ∀ x ∈ l, 0 ≤ x.f0 ∧ x.f0 < x.f1 ∧ x.f1 < o0.length) (d : Nat) : ∀ (c : Nat), c + d = o0.length →
    Ev (fun k => spec_l8Groups.l1 k l (iterG (prs l) o0 c) (o0.length : Int) (c : Int)) (iterG (prs l) o0 o0.length) := by
  induction d with
  | zero =>
    intro c hc
    refine Ev.succ ?_
    simp only [spec_l8Groups.l1]
    simp only [if_neg (show ¬ (c : Int) < (o0.length : Int) by omega)]
    refine Ev.some_ ?_
    rw [show c = o0.length by omega]
  | succ d ih =>
    intro c hc
    refine Ev.succ ?_
    simp only [spec_l8Groups.l1]
    simp only [if_pos (show (c : Int) < (o0.length : Int) by omega)]
    refine specGroups_l2 l o0.length (c : Int) _ l [] _ rfl hb (iterG_len _ _ _) hx ?_
    have h := ih (c + 1) (by omega)
    rw [wrap_id (x := (c : Int) + 1) (by omega) (by omega), show (c : Int) + 1 = ((c + 1 : Nat) : Int) by omega]
    exact h
theorem specGroups_l0 (n : Nat) (hn : n ≤ 1000) (l : List S52) (hb : (l.length : Int) ≤ 1099511627776) (hx : ∀ x ∈ l, 0 ≤ x.f0 ∧ x.f0 < x.f1 ∧ x.f1 < n) (d : Nat) : ∀ (c : Nat), c + d = n →
    Ev (fun k => spec_l8Groups.l0 k (n : Int) l (own0 c) (c : Int)) (grp n (prs l)) := by
  induction d with
  | zero =>
    intro c hc
    refine Ev.succ ?_
    simp only [spec_l8Groups.l0]
    simp only [if_neg (show ¬ (c : Int) < (n : Int) by omega)]
    have e : c = n := by omega
    subst e
    have h := specGroups_l1 l (own0 c) hb (by rw [own0_len]; exact hn) (by rw [own0_len]; exact hx) c 0 (by rw [own0_len]; omega)
    unfold grp
    rw [own0_len] at h ⊢
    exact h
  | succ d ih =>
    intro c hc
    refine Ev.succ ?_
    simp only [spec_l8Groups.l0]
    simp only [if_pos (show (c : Int) < (n : Int) by omega), if_pos (show (own0 c).length < 17592186044416 by rw [own0_len]; omega), wrap_id (x := (c : Int) + 1) (by omega) (by omega)]
    have h := ih (c + 1) (by omega)
    rw [own0_succ, show ((c + 1 : Nat) : Int) = (c : Int) + 1 by omega] at h
    exact h
theorem specGroups_ev (n : Int) (l : List S52) (h0 : 0 ≤ n) (hn : n ≤ 1000) (hb : (l.length : Int) ≤ 1048576) (hx : ∀ x ∈ l, 0 ≤ x.f0 ∧ x.f0 < x.f1 ∧ x.f1 < n) : Ev (fun k => spec_l8Groups.f k n l) (groupsM n l) := by
  obtain ⟨m, rfl⟩ := Int.eq_ofNat_of_zero_le h0
  unfold spec_l8Groups.f groupsM
  rw [Int.toNat_natCast]
  have h := specGroups_l0 m (by omega) l (by omega) hx m 0 (by omega)
  exact h
/-- the program's own way -/
theorem specGroupsOf_ev (n : Int) (l : List S52) (hl : l.length ≤ 1048576) : Ev (fun k => spec_GroupsOf.f k n l) (groupsOf n l) := by
  unfold spec_GroupsOf.f
  refine Ev.bind (specGoodE_ev n l hl) ?_
  unfold groupsOf
  cases hg : goodE n l with
  | false => simp only [Bool.false_eq_true, if_false]; exact Ev.now _
  | true =>
    have hn := goodE_n hg
    simp only [if_true]
    exact Ev.bind (specGroups_ev n l (by omega) (by omega) (by omega) (fun x hx => by have := goodE_edge hg x hx; omega)) (Ev.now _)
end Go.Proofs.Ytpbnpepikkocmaa.P

namespace Go.Proofs.Ytpbnpepikkocmaa.P
open Go.RowKit Go.Proofs.YtpbnpepikkocmaaW.PrintWords Go.Proofs.YtpbnpepikkocmaaW.PrintLast
set_option linter.unusedVariables false
set_option linter.unusedSimpArgs false
-- each edge that joins two groups takes one group away
def lab (n : Nat) (E : List (Nat × Nat)) (v : Nat) : Nat := (at_ (grp n E) v).toNat
theorem lab_ok {n : Nat} {E : List (Nat × Nat)} (hE : InG n E) {v : Nat} (hv : v < n) : at_ (grp n E) v = (lab n E v : Int) ∧ Conn E v (lab n E v) ∧ lab n E v < n ∧ ∀ m, Conn E v m → lab n E v ≤ m := by
  obtain ⟨u, e, c, h, hm⟩ := grp_ok hE hv
  have : lab n E v = u := by unfold lab; rw [e]; rfl
  rw [this]
  exact ⟨e, c, h, hm⟩
theorem lab_same {n : Nat} {E : List (Nat × Nat)} (hE : InG n E) {v w : Nat} (hv : v < n) (h : Conn E v w) : lab n E v = lab n E w := by
  have hw := h.lt hE hv
  have a := lab_ok hE hv
  have b := lab_ok hE hw
  have h1 := a.2.2.2 _ (h.trans b.2.1)
  have h2 := b.2.2.2 _ (h.symm.trans a.2.1)
  omega
theorem Conn.mono {E F : List (Nat × Nat)} (h : ∀ e ∈ E, e ∈ F) {v w : Nat} (c : Conn E v w) : Conn F v w := by
  induction c with
  | refl => exact .refl _
  | fwd _ he ih => exact .fwd ih (h _ he)
  | bwd _ he ih => exact .bwd ih (h _ he)
theorem conn_add {E : List (Nat × Nat)} {a b : Nat} {v w : Nat} (h : Conn (E ++ [(a, b)]) v w) : Conn E v w ∨ (Conn E v a ∧ Conn E b w) ∨ (Conn E v b ∧ Conn E a w) := by
  induction h with
  | refl => exact .inl (.refl _)
  | @fwd x y _ he ih =>
    rcases List.mem_append.1 he with he | he
    · rcases ih with c | ⟨c, d⟩ | ⟨c, d⟩
      · exact .inl (.fwd c he)
      · exact .inr (.inl ⟨c, .fwd d he⟩)
      · exact .inr (.inr ⟨c, .fwd d he⟩)
    · obtain ⟨rfl, rfl⟩ : x = a ∧ y = b := by simpa using he
      rcases ih with c | ⟨c, d⟩ | ⟨c, d⟩
      · exact .inr (.inl ⟨c, .refl _⟩)
      · exact .inr (.inl ⟨c, .refl _⟩)
      · exact .inl c
  | @bwd x y _ he ih =>
    rcases List.mem_append.1 he with he | he
    · rcases ih with c | ⟨c, d⟩ | ⟨c, d⟩
      · exact .inl (.bwd c he)
      · exact .inr (.inl ⟨c, .bwd d he⟩)
      · exact .inr (.inr ⟨c, .bwd d he⟩)
    · obtain ⟨rfl, rfl⟩ : x = a ∧ y = b := by simpa using he
      rcases ih with c | ⟨c, d⟩ | ⟨c, d⟩
      · exact .inr (.inr ⟨c, .refl _⟩)
      · exact .inl c
      · exact .inr (.inr ⟨c, .refl _⟩)
theorem self_add {n : Nat} {E : List (Nat × Nat)} {a b : Nat} (hE : InG n E) (ha : a < n) (hb : b < n) {v : Nat} (hv : v < n) :
    lab n (E ++ [(a, b)]) v = v ↔ lab n E v = v ∧ ¬ (lab n E a ≠ lab n E b ∧ v = max (lab n E a) (lab n E b)) := by
  have hE' : InG n (E ++ [(a, b)]) := fun e he => by
    rcases List.mem_append.1 he with he | he
    · exact hE e he
    · obtain rfl : e = (a, b) := by simpa using he
      exact ⟨ha, hb⟩
  have up : ∀ {x y : Nat}, Conn E x y → Conn (E ++ [(a, b)]) x y := fun c => c.mono fun e he => List.mem_append_left _ he
  have hab : Conn (E ++ [(a, b)]) a b := .fwd (.refl _) (by simp)
  have la := lab_ok hE ha
  have lb := lab_ok hE hb
  have lv := lab_ok hE hv
  have lv' := lab_ok hE' hv
  constructor
  · intro h
    rw [h] at lv'
    refine ⟨?_, fun ⟨hne, hm⟩ => ?_⟩
    · have h1 := lv'.2.2.2 _ (up lv.2.1)
      have h2 := lv.2.2.2 _ (Conn.refl v)
      omega
    · by_cases hc : lab n E a ≤ lab n E b
      · have := lv'.2.2.2 (lab n E a) (by
          rw [show v = lab n E b by omega]
          exact ((up lb.2.1).symm.trans hab.symm).trans (up la.2.1))
        omega
      · have := lv'.2.2.2 (lab n E b) (by
          rw [show v = lab n E a by omega]
          exact ((up la.2.1).symm.trans hab).trans (up lb.2.1))
        omega
  · rintro ⟨h, hn⟩
    have hle := lv'.2.2.2 _ (Conn.refl v)
    have hlt := lv'.2.2.1
    rcases conn_add lv'.2.1 with c | ⟨c, d⟩ | ⟨c, d⟩
    · have := lv.2.2.2 _ c
      omega
    · have e1 := lab_same hE hv c
      have e2 := lb.2.2.2 _ d
      by_cases hne : lab n E a = lab n E b
      · omega
      · have : v ≠ max (lab n E a) (lab n E b) := fun hm => hn ⟨hne, hm⟩
        omega
    · have e1 := lab_same hE hv c
      have e2 := la.2.2.2 _ d
      by_cases hne : lab n E a = lab n E b
      · omega
      · have : v ≠ max (lab n E a) (lab n E b) := fun hm => hn ⟨hne, hm⟩
        omega
def selfs (n : Nat) (E : List (Nat × Nat)) : Nat := (List.range n).countP fun v => decide (lab n E v = v)
theorem countP_drop {p : Nat → Bool} {m : Nat} : ∀ (n : Nat), m < n → p m = true → (List.range n).countP (fun v => p v && !decide (v = m)) + 1 = (List.range n).countP p := by
  intro n
  induction n with
  | zero => intro h; omega
  | succ n ih =>
    intro hm hp
    rw [List.range_succ, List.countP_append, List.countP_append, List.countP_cons, List.countP_cons, List.countP_nil, List.countP_nil]
    by_cases hmn : m = n
    · subst hmn
      have : (List.range m).countP (fun v => p v && !decide (v = m)) = (List.range m).countP p := by
        refine List.countP_congr fun v hv => ?_
        have := List.mem_range.1 hv
        simp [show ¬ v = m by omega]
      rw [this]
      simp [hp]
    · have := ih (by omega) hp
      simp [show ¬ n = m by omega]
      omega
theorem selfs_add {n : Nat} {E : List (Nat × Nat)} {a b : Nat} (hE : InG n E) (ha : a < n) (hb : b < n) : selfs n (E ++ [(a, b)]) + (if lab n E a = lab n E b then 0 else 1) = selfs n E := by
  unfold selfs
  by_cases hne : lab n E a = lab n E b
  · rw [if_pos hne, Nat.add_zero]
    refine List.countP_congr fun v hv => ?_
    rw [decide_eq_true_eq, decide_eq_true_eq, self_add hE ha hb (List.mem_range.1 hv)]
    exact ⟨fun h => h.1, fun h => ⟨h, fun c => c.1 hne⟩⟩
  · rw [if_neg hne]
    have la := lab_ok hE ha
    have lb := lab_ok hE hb
    have sa : lab n E (lab n E a) = lab n E a := (lab_same hE ha la.2.1).symm
    have sb : lab n E (lab n E b) = lab n E b := (lab_same hE hb lb.2.1).symm
    have hm : max (lab n E a) (lab n E b) < n := by have := la.2.2.1; have := lb.2.2.1; omega
    have hs : lab n E (max (lab n E a) (lab n E b)) = max (lab n E a) (lab n E b) := by
      by_cases h : lab n E a ≤ lab n E b
      · rw [Nat.max_eq_right h]; exact sb
      · rw [Nat.max_eq_left (by omega)]; exact sa
    rw [← countP_drop (p := fun v => decide (lab n E v = v)) n hm (decide_eq_true hs)]
    congr 1
    refine List.countP_congr fun v hv => ?_
    rw [decide_eq_true_eq, self_add hE ha hb (List.mem_range.1 hv), Bool.and_eq_true, decide_eq_true_eq, Bool.not_eq_true', decide_eq_false_iff_not]
    exact ⟨fun h => ⟨h.1, fun c => h.2 ⟨hne, c⟩⟩, fun h => ⟨h.1, fun c => h.2 c.2⟩⟩
end Go.Proofs.Ytpbnpepikkocmaa.P

namespace Go.Proofs.Ytpbnpepikkocmaa.P
open Go.RowKit Go.Proofs.YtpbnpepikkocmaaW.PrintWords Go.Proofs.YtpbnpepikkocmaaW.PrintLast
set_option linter.unusedVariables false
set_option linter.unusedSimpArgs false
-- the labels of good edges
theorem groupsM_at {n : Int} {l : List S52} (h : goodE n l = true) (v : Int) (h0 : 0 ≤ v) (h1 : v < n) : rd (groupsM n l) v = (lab n.toNat (prs l) v.toNat : Int) := by
  have hi := prs_in (fun x hm => ⟨(goodE_edge h x hm).1, (goodE_edge h x hm).2.1, (goodE_edge h x hm).2.2.1⟩)
  exact (lab_ok hi (show v.toNat < n.toNat by omega)).1
end Go.Proofs.Ytpbnpepikkocmaa.P

namespace Go.Proofs.Ytpbnpepikkocmaa.P
open Go.RowKit Go.Proofs.YtpbnpepikkocmaaW.PrintWords Go.Proofs.YtpbnpepikkocmaaW.PrintLast
set_option linter.unusedVariables false
set_option linter.unusedSimpArgs false
-- the neighbours of a node: the sorted puts and the sweep over costs give one list
def putI : List Int → Int → List Int
  | [], x => [x]
  | y :: r, x => if y < x then y :: putI r x else if y = x then y :: r else x :: y :: r
theorem putI_len : ∀ (l : List Int) (x : Int), (putI l x).length ≤ l.length + 1
  | [], x => by simp [putI]
  | y :: r, x => by
    have := putI_len r x
    unfold putI
    split
    · simp; omega
    · split <;> simp
theorem putI_mem : ∀ (l : List Int) (x z : Int), z ∈ putI l x ↔ z = x ∨ z ∈ l
  | [], x, z => by simp [putI]
  | y :: r, x, z => by
    have := putI_mem r x z
    unfold putI
    split
    · simp only [List.mem_cons, this]
      constructor
      · rintro (h | h | h) <;> simp [h]
      · rintro (h | h | h) <;> simp [h]
    · split
      · rename_i h
        subst h
        simp
      · simp
theorem putI_sorted : ∀ (l : List Int) (x : Int), l.Pairwise (· < ·) → (putI l x).Pairwise (· < ·)
  | [], x, _ => by simp [putI]
  | y :: r, x, h => by
    have h1 := List.pairwise_cons.1 h
    have := putI_sorted r x h1.2
    unfold putI
    split
    · rename_i hyx
      refine List.pairwise_cons.2 ⟨fun z hz => ?_, this⟩
      rcases (putI_mem r x z).1 hz with h2 | h2
      · omega
      · exact h1.1 z h2
    · split
      · exact h
      · refine List.pairwise_cons.2 ⟨fun z hz => ?_, h⟩
        rcases List.mem_cons.1 hz with h2 | h2
        · omega
        · have := h1.1 z h2
          omega
theorem sorted_ext : ∀ (a b : List Int), a.Pairwise (· < ·) → b.Pairwise (· < ·) → (∀ x, x ∈ a ↔ x ∈ b) → a = b
  | [], [], _, _, _ => rfl
  | [], y :: b, _, _, h => by have := (h y).2 (List.mem_cons_self ..); simp at this
  | x :: a, [], _, _, h => by have := (h x).1 (List.mem_cons_self ..); simp at this
  | x :: a, y :: b, ha, hb, h => by
    have ha1 := List.pairwise_cons.1 ha
    have hb1 := List.pairwise_cons.1 hb
    have hxy : x = y := by
      rcases List.mem_cons.1 ((h x).1 (List.mem_cons_self ..)) with h1 | h1
      · exact h1
      · rcases List.mem_cons.1 ((h y).2 (List.mem_cons_self ..)) with h2 | h2
        · exact h2.symm
        · have := ha1.1 y h2
          have := hb1.1 x h1
          omega
    subst hxy
    rw [sorted_ext a b ha1.2 hb1.2 fun z => ?_]
    constructor
    · intro hz
      rcases List.mem_cons.1 ((h z).1 (List.mem_cons_of_mem _ hz)) with h1 | h1
      · have := ha1.1 z hz
        omega
      · exact h1
    · intro hz
      rcases List.mem_cons.1 ((h z).2 (List.mem_cons_of_mem _ hz)) with h1 | h1
      · have := hb1.1 z hz
        omega
      · exact h1
theorem put_l (x : Int) (suf : List Int) : ∀ (pre : List Int), ((pre ++ suf).length : Int) ≤ 4398046511104 → Ev (fun k => spec_l1Put.l0 k (pre ++ suf) x pre.length) (pre ++ putI suf x) := by
  induction suf with
  | nil =>
    intro pre h
    refine Ev.succ ?_
    simp only [List.append_nil] at h ⊢
    have h0 : pre.length < 17592186044416 := by omega
    simp only [spec_l1Put.l0, Int.lt_irrefl, if_false, Option.bind_some, if_pos (show (0 : Int) ≤ pre.length by omega), if_pos (Int.le_refl (pre.length : Int)), Int.toNat_natCast, List.take_length, List.drop_length, List.nil_append, List.length_nil, Nat.zero_add, if_pos h0, List.length_append, List.length_cons, Nat.add_zero, List.append_nil, if_pos (show pre.length + (0 + 1) < 17592186044416 by omega), if_pos (show pre.length + 1 < 17592186044416 by omega), putI]
    exact Ev.now _
  | cons y suf ih =>
    intro pre h
    refine Ev.succ ?_
    have hl := len_mid pre y suf
    rw [hl] at h
    simp only [spec_l1Put.l0, hl, rd_mid, if_pos (show ((pre.length : Int) < pre.length + suf.length + 1) by omega), if_pos (show (0 : Int) ≤ pre.length by omega), wrap_id (show (-9223372036854775808 : Int) ≤ pre.length + 1 by omega) (show ((pre.length : Int) + 1 ≤ 9223372036854775807) by omega)]
    by_cases h1 : y < x
    · have := ih (pre ++ [y]) (by rw [← app_one, hl]; exact h)
      rw [← app_one, len_one] at this
      simp only [if_pos h1, putI]
      rw [app_one] at this
      rw [app_one pre y (putI suf x)]
      rw [← app_one] at this
      exact this
    · by_cases h2 : y = x
      · simp only [if_neg h1, if_pos h2, putI]
        exact Ev.now _
      · have h0 : pre.length < 17592186044416 := by omega
        simp only [if_neg h1, if_neg h2, putI, Option.bind_some, if_pos (show (pre.length : Int) ≤ pre.length + suf.length + 1 by omega), Int.toNat_natCast, List.take_left, List.drop_left, List.nil_append, List.length_nil, Nat.zero_add, if_pos h0, List.length_append, List.length_cons, if_pos (show pre.length + 1 + (suf.length + 1) < 17592186044416 by omega), if_pos (show pre.length + (0 + 1) + (suf.length + 1) < 17592186044416 by omega), List.append_assoc, List.cons_append]
        exact Ev.now _
theorem put_ev (l : List Int) (x : Int) (h : (l.length : Int) ≤ 4398046511104) : Ev (fun k => spec_l1Put.f k l x) (putI l x) := by
  have := put_l x l [] h
  exact this
def nearStep (v : Int) (out : List Int) (e : S52) : List Int := if e.f0 = v then (if e.f1 = v then putI (putI out e.f1) e.f0 else putI out e.f1) else (if e.f1 = v then putI out e.f0 else out)
theorem nearStep_len (v : Int) (out : List Int) (e : S52) : (nearStep v out e).length ≤ out.length + 2 := by
  unfold nearStep
  split
  · split
    · have := putI_len (putI out e.f1) e.f0
      have := putI_len out e.f1
      omega
    · have := putI_len out e.f1
      omega
  · split
    · have := putI_len out e.f0
      omega
    · omega
theorem specNear_l (v : Int) (suf : List S52) : ∀ (pre : List S52) (out : List Int), ((pre ++ suf).length : Int) ≤ 1099511627776 → (out.length : Int) ≤ 2 * pre.length →
    Ev (fun k => spec_l8Near.l0 k v out (pre ++ suf) ((pre ++ suf).length : Int) pre.length) (suf.foldl (nearStep v) out) := by
  induction suf with
  | nil =>
    intro pre out h ho
    refine Ev.succ ?_
    simp only [spec_l8Near.l0, List.append_nil, Int.lt_irrefl, if_false, List.foldl_nil]
    exact Ev.now _
  | cons e suf ih =>
    intro pre out h ho
    refine Ev.succ ?_
    rw [len_mid] at h ⊢
    have hs := nearStep_len v out e
    have := ih (pre ++ [e]) (nearStep v out e) (by rw [← app_one, len_mid]; exact h) (by rw [len_one]; omega)
    rw [← app_one, len_mid, len_one] at this
    simp only [spec_l8Near.l0, List.foldl_cons]
    simp only [if_pos (show ((pre.length : Int) < pre.length + suf.length + 1) by omega), if_pos (show (0 : Int) ≤ pre.length by omega), len_mid, rdEdge_mid, wrap_id (show (-9223372036854775808 : Int) ≤ pre.length + 1 by omega) (show ((pre.length : Int) + 1 ≤ 9223372036854775807) by omega)]
    have hp := putI_len out e.f1
    by_cases h1 : e.f0 = v
    · by_cases h2 : e.f1 = v
      · simp only [if_pos h1, if_pos h2]
        refine Ev.bind (put_ev _ _ (by omega)) ?_
        refine Ev.bind (put_ev _ _ (by omega)) ?_
        rw [show nearStep v out e = putI (putI out e.f1) e.f0 by simp [nearStep, h1, h2]] at this
        rw [show nearStep v out e = putI (putI out e.f1) e.f0 by simp [nearStep, h1, h2]]
        exact this
      · simp only [if_pos h1, if_neg h2]
        refine Ev.bind (put_ev _ _ (by omega)) ?_
        rw [show nearStep v out e = putI out e.f1 by simp only [nearStep, if_pos h1, if_neg h2]] at this
        rw [show nearStep v out e = putI out e.f1 by simp only [nearStep, if_pos h1, if_neg h2]]
        exact this
    · by_cases h2 : e.f1 = v
      · simp only [if_neg h1, if_pos h2]
        refine Ev.bind (put_ev _ _ (by omega)) ?_
        rw [show nearStep v out e = putI out e.f0 by simp only [nearStep, if_neg h1, if_pos h2]] at this
        rw [show nearStep v out e = putI out e.f0 by simp only [nearStep, if_neg h1, if_pos h2]]
        exact this
      · simp only [if_neg h1, if_neg h2]
        rw [show nearStep v out e = out by simp only [nearStep, if_neg h1, if_neg h2]] at this
        rw [show nearStep v out e = out by simp only [nearStep, if_neg h1, if_neg h2]]
        exact this
def nearS (l : List S52) (v : Int) : List Int := l.foldl (nearStep v) []
theorem specNear_ev (l : List S52) (v : Int) (h : (l.length : Int) ≤ 1099511627776) : Ev (fun k => spec_l8Near.f k l v) (nearS l v) := by
  have := specNear_l v l [] [] h (by simp)
  exact this
theorem foldNear (v : Int) : ∀ (l : List S52) (out : List Int), out.Pairwise (· < ·) → (l.foldl (nearStep v) out).Pairwise (· < ·) ∧ ∀ x, x ∈ l.foldl (nearStep v) out ↔ x ∈ out ∨ ∃ e ∈ l, (e.f0 = v ∧ e.f1 = x) ∨ (e.f1 = v ∧ e.f0 = x)
  | [], out, h => by simp [h]
  | e :: l, out, h => by
    have h1 : (nearStep v out e).Pairwise (· < ·) := by
      unfold nearStep
      split
      · split
        · exact putI_sorted _ _ (putI_sorted _ _ h)
        · exact putI_sorted _ _ h
      · split
        · exact putI_sorted _ _ h
        · exact h
    have h2 : ∀ x, x ∈ nearStep v out e ↔ x ∈ out ∨ (e.f0 = v ∧ e.f1 = x) ∨ (e.f1 = v ∧ e.f0 = x) := by
      intro x
      unfold nearStep
      split
      · rename_i a
        split
        · rename_i b
          rw [putI_mem, putI_mem]
          constructor
          · rintro (c | c | c)
            · exact .inr (.inr ⟨b, c.symm⟩)
            · exact .inr (.inl ⟨a, c.symm⟩)
            · exact .inl c
          · rintro (c | c | c)
            · exact .inr (.inr c)
            · exact .inr (.inl c.2.symm)
            · exact .inl c.2.symm
        · rename_i b
          rw [putI_mem]
          constructor
          · rintro (c | c)
            · exact .inr (.inl ⟨a, c.symm⟩)
            · exact .inl c
          · rintro (c | c | c)
            · exact .inr c
            · exact .inl c.2.symm
            · exact absurd c.1 b
      · rename_i a
        split
        · rename_i b
          rw [putI_mem]
          constructor
          · rintro (c | c)
            · exact .inr (.inr ⟨b, c.symm⟩)
            · exact .inl c
          · rintro (c | c | c)
            · exact .inr c
            · exact absurd c.1 a
            · exact .inl c.2.symm
        · rename_i b
          constructor
          · exact .inl
          · rintro (c | c | c)
            · exact c
            · exact absurd c.1 a
            · exact absurd c.1 b
    have h3 := foldNear v l (nearStep v out e) h1
    refine ⟨h3.1, fun x => ?_⟩
    rw [List.foldl_cons, h3.2, h2]
    constructor
    · rintro ((c | c) | ⟨y, c, d⟩)
      · exact .inl c
      · exact .inr ⟨e, List.mem_cons_self .., c⟩
      · exact .inr ⟨y, List.mem_cons_of_mem _ c, d⟩
    · rintro (c | ⟨y, c, d⟩)
      · exact .inl (.inl c)
      · rcases List.mem_cons.1 c with rfl | c
        · exact .inl (.inr d)
        · exact .inr ⟨y, c, d⟩
def isAt (a b : Int) (e : S52) : Bool := decide (e.f0 = min a b ∧ e.f1 = max a b)
def costM (l : List S52) (a b : Int) : Int := match l.find? (isAt a b) with
  | some e => e.f2
  | none => 0
theorem implCost_l (a b : Int) (suf : List S52) : ∀ (pre : List S52), ((pre ++ suf).length : Int) ≤ 1099511627776 →
    Ev (fun k => impl_cost.l0 k a b (pre ++ suf) ((pre ++ suf).length : Int) pre.length) (costM suf a b) := by
  induction suf with
  | nil =>
    intro pre h
    refine Ev.succ ?_
    simp only [impl_cost.l0, List.append_nil, Int.lt_irrefl, if_false]
    exact Ev.now _
  | cons e suf ih =>
    intro pre h
    refine Ev.succ ?_
    rw [len_mid] at h ⊢
    have := ih (pre ++ [e]) (by rw [← app_one, len_mid]; exact h)
    rw [← app_one, len_mid, len_one] at this
    simp only [impl_cost.l0]
    simp only [if_pos (show ((pre.length : Int) < pre.length + suf.length + 1) by omega), if_pos (show (0 : Int) ≤ pre.length by omega), len_mid, rdEdge_mid, wrap_id (show (-9223372036854775808 : Int) ≤ pre.length + 1 by omega) (show ((pre.length : Int) + 1 ≤ 9223372036854775807) by omega), mn_is, mx_is]
    by_cases h1 : e.f0 = min a b
    · by_cases h2 : e.f1 = max a b
      · simp only [if_pos h1, if_pos h2]
        rw [show costM (e :: suf) a b = e.f2 by unfold costM; rw [List.find?_cons_of_pos (by simp only [isAt, h1, h2, and_self, decide_true])]]
        exact Ev.now _
      · simp only [if_pos h1, if_neg h2]
        rw [show costM (e :: suf) a b = costM suf a b by unfold costM; rw [List.find?_cons_of_neg (by simp only [isAt, h2, and_false, decide_false]; simp)]]
        exact this
    · simp only [if_neg h1]
      rw [show costM (e :: suf) a b = costM suf a b by unfold costM; rw [List.find?_cons_of_neg (by simp only [isAt, h1, false_and, decide_false]; simp)]]
      exact this
theorem implCost_ev (l : List S52) (a b : Int) (h : (l.length : Int) ≤ 1099511627776) : Ev (fun k => impl_cost.f k l a b) (costM l a b) := by
  have := implCost_l a b l [] h
  exact this
def nearM (n : Nat) (l : List S52) (v : Int) : List Int := (own0 n).filter fun u => decide (costM l v u > 0)
theorem nearM_succ (n : Nat) (l : List S52) (v : Int) : nearM (n + 1) l v = if costM l v n > 0 then nearM n l v ++ [(n : Int)] else nearM n l v := by
  unfold nearM
  rw [own0_succ, List.filter_append]
  split
  · rename_i h
    simp [h]
  · rename_i h
    simp [h]
theorem nearM_len (n : Nat) (l : List S52) (v : Int) : (nearM n l v).length ≤ n := by
  have := List.length_filter_le (fun u => decide (costM l v u > 0)) (own0 n)
  rw [own0_len] at this
  exact this
theorem implNear_l (l : List S52) (v : Int) (hb : (l.length : Int) ≤ 1099511627776) (d : Nat) : ∀ (c : Nat), c + d ≤ 1000000 →
    Ev (fun k => impl_near.l0 k l v (nearM c l v) ((c + d : Nat) : Int) c) (nearM (c + d) l v) := by
  induction d with
  | zero =>
    intro c h
    refine Ev.succ ?_
    simp only [impl_near.l0, Nat.add_zero, Int.lt_irrefl, if_false]
    exact Ev.now _
  | succ d ih =>
    intro c h
    refine Ev.succ ?_
    have := ih (c + 1) (by omega)
    rw [show c + 1 + d = c + (d + 1) by omega] at this
    have hl := nearM_len c l v
    simp only [impl_near.l0, if_pos (show (c : Int) < ((c + (d + 1) : Nat) : Int) by omega), wrap_id (show (-9223372036854775808 : Int) ≤ c + 1 by omega) (show ((c : Int) + 1 ≤ 9223372036854775807) by omega)]
    refine Ev.bind (implCost_ev l v c hb) ?_
    rw [nearM_succ] at this
    by_cases h1 : costM l v c > 0
    · simp only [if_pos h1, if_pos (show (nearM c l v).length < 17592186044416 by omega)] at this ⊢
      exact this
    · simp only [if_neg h1] at this ⊢
      exact this
theorem implNear_ev (n : Int) (l : List S52) (v : Int) (h0 : 0 ≤ n) (hn : n ≤ 1000) (hb : (l.length : Int) ≤ 1099511627776) : Ev (fun k => impl_near.f k n l v) (nearM n.toNat l v) := by
  have := implNear_l l v hb n.toNat 0 (by omega)
  rw [Nat.zero_add, show ((n.toNat : Nat) : Int) = n by omega] at this
  exact this
theorem costM_pos {n : Int} {l : List S52} (hx : ∀ x ∈ l, 0 ≤ x.f0 ∧ x.f0 < x.f1 ∧ x.f1 < n ∧ 1 ≤ x.f2 ∧ x.f2 ≤ 100) (a b : Int) : costM l a b > 0 ↔ ∃ e ∈ l, (e.f0 = a ∧ e.f1 = b) ∨ (e.f1 = a ∧ e.f0 = b) := by
  unfold costM
  cases hf : l.find? (isAt a b) with
  | none =>
    simp only [gt_iff_lt, Int.lt_irrefl, false_iff]
    rintro ⟨e, he, hc⟩
    have := hx e he
    have h1 := List.find?_eq_none.1 hf e he
    simp only [isAt, decide_eq_true_eq] at h1
    omega
  | some e =>
    have he := List.mem_of_find?_eq_some hf
    have := hx e he
    have h1 := List.find?_some hf
    simp only [isAt, decide_eq_true_eq] at h1
    simp only [gt_iff_lt]
    refine ⟨fun _ => ⟨e, he, ?_⟩, fun _ => by omega⟩
    omega
theorem near_same {n : Int} {l : List S52} (hx : ∀ x ∈ l, 0 ≤ x.f0 ∧ x.f0 < x.f1 ∧ x.f1 < n ∧ 1 ≤ x.f2 ∧ x.f2 ≤ 100) (v : Int) : nearS l v = nearM n.toNat l v := by
  have h := foldNear v l [] (by simp)
  refine sorted_ext _ _ h.1 ?_ fun x => ?_
  · exact (own0_sorted _).filter _
  · unfold nearM
    rw [List.mem_filter, own0_mem, decide_eq_true_eq, costM_pos hx]
    have h2 := h.2 x
    simp only [List.not_mem_nil, false_or] at h2
    refine h2.trans ⟨fun hc => ⟨?_, hc⟩, fun hc => hc.2⟩
    obtain ⟨e, he, hc⟩ := hc
    have := hx e he
    omega
end Go.Proofs.Ytpbnpepikkocmaa.P

namespace Go.Proofs.Ytpbnpepikkocmaa.P
open Go.RowKit Go.Proofs.YtpbnpepikkocmaaW.PrintWords Go.Proofs.YtpbnpepikkocmaaW.PrintLast
set_option linter.unusedVariables false
set_option linter.unusedSimpArgs false
-- the degrees add up to twice the edges
def incid (v : Int) (e : S52) : Bool := decide (e.f0 = v ∨ e.f1 = v)
theorem putI_new : ∀ (l : List Int) (x : Int), x ∉ l → (putI l x).length = l.length + 1
  | [], x, _ => rfl
  | y :: r, x, h => by
    have h1 : y ≠ x := fun e => h (by rw [e]; exact List.mem_cons_self ..)
    have := putI_new r x (fun c => h (List.mem_cons_of_mem _ c))
    unfold putI
    split
    · rw [List.length_cons, this, List.length_cons]
    · first | rfl | (rw [if_neg h1]; rfl)
theorem near_count {n : Int} (v : Int) (suf : List S52) : ∀ (pre : List S52), (∀ x ∈ pre ++ suf, 0 ≤ x.f0 ∧ x.f0 < x.f1 ∧ x.f1 < n) → (pre ++ suf).Pairwise (fun y x => y.f0 < x.f0 ∨ y.f0 = x.f0 ∧ y.f1 < x.f1) →
    (suf.foldl (nearStep v) (nearS pre v)).length = (nearS pre v).length + suf.countP (incid v) := by
  induction suf with
  | nil => intro pre _ _; rfl
  | cons e suf ih =>
    intro pre hx hp
    have h := ih (pre ++ [e]) (by rw [← app_one]; exact hx) (by rw [← app_one]; exact hp)
    have hs : nearS (pre ++ [e]) v = nearStep v (nearS pre v) e := by unfold nearS; rw [List.foldl_append]; rfl
    rw [hs] at h
    rw [List.foldl_cons, h, List.countP_cons]
    have he := hx e (by simp)
    have hnew : ∀ y, ((e.f0 = v ∧ e.f1 = y) ∨ (e.f1 = v ∧ e.f0 = y)) → y ∉ nearS pre v := by
      intro y hy hm
      have h2 := ((foldNear v pre [] (by simp)).2 y).1 hm
      simp only [List.not_mem_nil, false_or] at h2
      obtain ⟨z, hz, hc⟩ := h2
      have hzx := hx z (List.mem_append_left _ hz)
      have := (List.pairwise_append.1 hp).2.2 z hz e (List.mem_cons_self ..)
      omega
    by_cases h1 : e.f0 = v
    · have h2 : ¬ e.f1 = v := by omega
      rw [show nearStep v (nearS pre v) e = putI (nearS pre v) e.f1 by simp only [nearStep, if_pos h1, if_neg h2], putI_new _ _ (hnew _ (.inl ⟨h1, rfl⟩)), show incid v e = true from decide_eq_true (.inl h1), if_pos rfl]
      omega
    · by_cases h2 : e.f1 = v
      · rw [show nearStep v (nearS pre v) e = putI (nearS pre v) e.f0 by simp only [nearStep, if_neg h1, if_pos h2], putI_new _ _ (hnew _ (.inr ⟨h2, rfl⟩)), show incid v e = true from decide_eq_true (.inr h2), if_pos rfl]
        omega
      · rw [show nearStep v (nearS pre v) e = nearS pre v by simp only [nearStep, if_neg h1, if_neg h2], show incid v e = false from decide_eq_false (fun c => c.elim h1 h2), if_neg Bool.false_ne_true]
        omega
theorem near_deg {n : Int} {l : List S52} (h : goodE n l = true) (v : Int) : (nearM n.toNat l v).length = l.countP (incid v) := by
  rw [← near_same (goodE_edge h) v]
  have := near_count (n := n) v l [] (fun x hm => by have := goodE_edge h x hm; omega) (goodE_pair h)
  have h0 : (nearS ([] : List S52) v).length = 0 := rfl
  rw [h0, Nat.zero_add] at this
  exact this
def sumTo (f : Int → Nat) : Nat → Nat
  | 0 => 0
  | n + 1 => sumTo f n + f n
theorem sumTo_add (f g : Int → Nat) : ∀ n, sumTo (fun v => f v + g v) n = sumTo f n + sumTo g n
  | 0 => rfl
  | n + 1 => by rw [sumTo, sumTo_add f g n, sumTo, sumTo]; omega
theorem sumTo_two (a b : Int) (h0 : 0 ≤ a) (h1 : a < b) : ∀ n : Nat, sumTo (fun v => if a = v ∨ b = v then 1 else 0) n = (if a < n then 1 else 0) + (if b < n then 1 else 0)
  | 0 => by rw [sumTo, if_neg (by omega), if_neg (by omega)]
  | n + 1 => by
    rw [sumTo, sumTo_two a b h0 h1 n]
    by_cases ha : a = n
    · rw [if_pos (show a = (n : Int) ∨ b = (n : Int) from .inl ha), if_neg (by omega), if_neg (by omega), if_pos (by omega), if_neg (by omega)]
    · by_cases hb : b = n
      · rw [if_pos (show a = (n : Int) ∨ b = (n : Int) from .inr hb), if_pos (by omega), if_neg (by omega), if_pos (by omega), if_pos (by omega)]
      · rw [if_neg (show ¬ (a = (n : Int) ∨ b = (n : Int)) from fun c => c.elim ha hb)]
        by_cases h2 : a < n
        · by_cases h3 : b < n
          · rw [if_pos h2, if_pos h3, if_pos (by omega), if_pos (by omega)]
          · rw [if_pos h2, if_neg h3, if_pos (by omega), if_neg (by omega)]
        · rw [if_neg h2, if_neg (by omega), if_neg (by omega), if_neg (by omega)]
theorem sumTo_zero : ∀ n, sumTo (fun _ => 0) n = 0
  | 0 => rfl
  | n + 1 => by rw [sumTo, sumTo_zero n]
theorem deg_sum (n : Nat) : ∀ (l : List S52), (∀ x ∈ l, 0 ≤ x.f0 ∧ x.f0 < x.f1 ∧ x.f1 < n) → sumTo (fun v => l.countP (incid v)) n = 2 * l.length
  | [], _ => by
    rw [show (fun v => List.countP (incid v) ([] : List S52)) = fun _ => 0 from rfl, sumTo_zero]
    rfl
  | e :: l, h => by
    have he := h e (List.mem_cons_self ..)
    have hi := deg_sum n l (fun x hm => h x (List.mem_cons_of_mem _ hm))
    rw [show (fun v => List.countP (incid v) (e :: l)) = fun v => l.countP (incid v) + (if e.f0 = v ∨ e.f1 = v then 1 else 0) from funext fun v => by
      rw [List.countP_cons]
      unfold incid
      by_cases c : e.f0 = v ∨ e.f1 = v
      · rw [decide_eq_true c, if_pos rfl, if_pos c]
      · rw [decide_eq_false c, if_neg Bool.false_ne_true, if_neg c], sumTo_add, hi, sumTo_two e.f0 e.f1 he.1 he.2.1 n, if_pos (by omega), if_pos he.2.2, List.length_cons]
    omega
end Go.Proofs.Ytpbnpepikkocmaa.P

namespace Go.Proofs.Ytpbnpepikkocmaa.P
open Go.RowKit Go.Proofs.YtpbnpepikkocmaaW.PrintWords Go.Proofs.YtpbnpepikkocmaaW.PrintLast
set_option linter.unusedVariables false
set_option linter.unusedSimpArgs false
-- the degrees of all nodes
def degs (n : Nat) (l : List S52) (c : Nat) : List Int := (own0 c).map fun v => ((nearM n l v).length : Int)
theorem degs_succ (n : Nat) (l : List S52) (c : Nat) : degs n l (c + 1) = degs n l c ++ [((nearM n l c).length : Int)] := by
  unfold degs
  rw [own0_succ, List.map_append]
  rfl
theorem degs_len (n : Nat) (l : List S52) (c : Nat) : (degs n l c).length = c := by
  unfold degs
  rw [List.length_map, own0_len]
theorem specDeg_l (n : Nat) (hn : n ≤ 1000) (l : List S52) (hb : (l.length : Int) ≤ 1099511627776) (hx : ∀ x ∈ l, 0 ≤ x.f0 ∧ x.f0 < x.f1 ∧ x.f1 < n ∧ 1 ≤ x.f2 ∧ x.f2 ≤ 100) (d : Nat) : ∀ (c : Nat), c + d = n →
    Ev (fun k => spec_DegreesOf.l0 k n l (degs n l c) c) (degs n l n, true) := by
  induction d with
  | zero =>
    intro c h
    refine Ev.succ ?_
    rw [Nat.add_zero] at h
    subst h
    simp only [spec_DegreesOf.l0, Int.lt_irrefl, if_false]
    exact Ev.now _
  | succ d ih =>
    intro c h
    refine Ev.succ ?_
    have := ih (c + 1) (by omega)
    have hl := degs_len n l c
    simp only [spec_DegreesOf.l0, if_pos (show (c : Int) < n by omega), wrap_id (show (-9223372036854775808 : Int) ≤ c + 1 by omega) (show ((c : Int) + 1 ≤ 9223372036854775807) by omega)]
    refine Ev.bind (specNear_ev l c hb) ?_
    simp only [if_pos (show (degs n l c).length < 17592186044416 by omega)]
    rw [near_same hx, Int.toNat_natCast, ← degs_succ]
    exact this
theorem implDeg_l (n : Nat) (hn : n ≤ 1000) (l : List S52) (hb : (l.length : Int) ≤ 1099511627776) (d : Nat) : ∀ (c : Nat), c + d = n →
    Ev (fun k => impl_DegreesOf.l0 k n l (degs n l c) n c) (degs n l n, true) := by
  induction d with
  | zero =>
    intro c h
    refine Ev.succ ?_
    rw [Nat.add_zero] at h
    subst h
    simp only [impl_DegreesOf.l0, Int.lt_irrefl, if_false]
    exact Ev.now _
  | succ d ih =>
    intro c h
    refine Ev.succ ?_
    have := ih (c + 1) (by omega)
    have hl := degs_len n l c
    simp only [impl_DegreesOf.l0, if_pos (show (c : Int) < n by omega), wrap_id (show (-9223372036854775808 : Int) ≤ c + 1 by omega) (show ((c : Int) + 1 ≤ 9223372036854775807) by omega)]
    refine Ev.bind (implNear_ev n l c (by omega) (by omega) hb) ?_
    simp only [if_pos (show (degs n l c).length < 17592186044416 by omega)]
    rw [Int.toNat_natCast, ← degs_succ]
    exact this
def degreesOf (n : Int) (l : List S52) : List Int × Bool := if goodE n l = true then (degs n.toNat l n.toNat, true) else ([], false)
theorem degreesOf_len (n : Int) (l : List S52) : (degreesOf n l).1.length ≤ 12 := by
  unfold degreesOf
  split
  · rename_i h
    have := goodE_n h
    have := degs_len n.toNat l n.toNat
    show (degs n.toNat l n.toNat).length ≤ 12
    omega
  · simp
theorem specDegreesOf_ev (n : Int) (l : List S52) (hl : l.length ≤ 1048576) : Ev (fun k => spec_DegreesOf.f k n l) (degreesOf n l) := by
  unfold spec_DegreesOf.f degreesOf
  refine Ev.bind (specGoodE_ev n l hl) ?_
  by_cases h : goodE n l = true
  · simp only [if_pos h]
    have hn := goodE_n h
    have := specDeg_l n.toNat (by omega) l (by omega) (by rw [show ((n.toNat : Nat) : Int) = n by omega]; exact goodE_edge h) n.toNat 0 (by omega)
    rw [show ((n.toNat : Nat) : Int) = n by omega] at this
    exact this
  · simp only [if_neg h]
    exact Ev.now _
theorem implDegreesOf_ev (n : Int) (l : List S52) (hl : l.length ≤ 1048576) : Ev (fun k => impl_DegreesOf.f k n l) (degreesOf n l) := by
  unfold impl_DegreesOf.f degreesOf
  refine Ev.bind (implGoodE_ev n l hl) ?_
  by_cases h : goodE n l = true
  · simp only [if_pos h]
    have hn := goodE_n h
    have := implDeg_l n.toNat (by omega) l (by omega) n.toNat 0 (by omega)
    rw [show ((n.toNat : Nat) : Int) = n by omega] at this
    exact this
  · simp only [if_neg h]
    exact Ev.now _
end Go.Proofs.Ytpbnpepikkocmaa.P

namespace Go.Proofs.Ytpbnpepikkocmaa.P
open Go.RowKit Go.Proofs.YtpbnpepikkocmaaW.PrintWords Go.Proofs.YtpbnpepikkocmaaW.PrintLast
set_option linter.unusedVariables false
set_option linter.unusedSimpArgs false
-- the given sweep over a list of numbers
theorem specAll_l (a b : Int) (suf : List Int) : ∀ (pre : List Int), ((pre ++ suf).length : Int) ≤ 1099511627776 → Ev (fun k => spec_l1All.l0 k a b (pre ++ suf) ((pre ++ suf).length : Int) pre.length) (allIn a b suf) := by
  induction suf with
  | nil =>
    intro pre h
    refine Ev.succ ?_
    simp only [spec_l1All.l0, List.append_nil, Int.lt_irrefl, if_false]
    exact Ev.now _
  | cons x suf ih =>
    intro pre h
    refine Ev.succ ?_
    rw [len_mid] at h ⊢
    simp only [spec_l1All.l0]
    simp only [if_pos (show ((pre.length : Int) < pre.length + suf.length + 1) by omega), if_pos (show (0 : Int) ≤ pre.length by omega), len_mid, rd_mid, specIn, Option.bind_some, wrap_id (show (-9223372036854775808 : Int) ≤ pre.length + 1 by omega) (show ((pre.length : Int) + 1 ≤ 9223372036854775807) by omega)]
    by_cases hx : a ≤ x ∧ x ≤ b
    · have := ih (pre ++ [x]) (by rw [← app_one, len_mid]; exact h)
      rw [← app_one, len_mid, len_one] at this
      simp only [hx, and_self, decide_true, if_true]
      rw [show allIn a b (x :: suf) = allIn a b suf by simp [allIn, hx]]
      exact this
    · simp only [decide_eq_true_eq, if_neg hx]
      rw [show allIn a b (x :: suf) = false by simp [allIn]; intro h1 h2; exact absurd ⟨h1, h2⟩ hx]
      exact Ev.now _
end Go.Proofs.Ytpbnpepikkocmaa.P

namespace Go.Proofs.Ytpbnpepikkocmaa.P
open Go.RowKit Go.Proofs.YtpbnpepikkocmaaW.PrintWords Go.Proofs.YtpbnpepikkocmaaW.PrintLast
set_option linter.unusedVariables false
set_option linter.unusedSimpArgs false
-- G(n, edges) is one group
def oneGroup (n : Int) (l : List S52) : Bool × Bool := if goodE n l = true then (allIn 0 0 (groupsM n l), true) else (false, false)
theorem specOneGroup_ev (n : Int) (l : List S52) (hl : l.length ≤ 1048576) : Ev (fun k => spec_IsOneGroup.f k n l) (oneGroup n l) := by
  unfold spec_IsOneGroup.f oneGroup
  refine Ev.bind (specGoodE_ev n l hl) ?_
  by_cases h : goodE n l = true
  · simp only [if_pos h]
    have hn := goodE_n h
    have hx := goodE_edge h
    refine Ev.bind (specGroups_ev n l (by omega) (by omega) (by omega) fun x hm => ⟨(hx x hm).1, (hx x hm).2.1, (hx x hm).2.2.1⟩) ?_
    have := specAll_l 0 0 (groupsM n l) [] (by simp only [List.nil_append, groupsM_len]; omega)
    refine Ev.bind (show Ev (fun k => spec_l1All.f k (groupsM n l) 0 0) _ from this) ?_
    exact Ev.now _
  · simp only [if_neg h]
    exact Ev.now _
theorem implOneGroup_ev (n : Int) (l : List S52) (hl : l.length ≤ 1048576) : Ev (fun k => impl_IsOneGroup.f k n l) (oneGroup n l) := by
  unfold impl_IsOneGroup.f oneGroup
  refine Ev.bind (implGoodE_ev n l hl) ?_
  by_cases h : goodE n l = true
  · simp only [if_pos h]
    have hn := goodE_n h
    have hx := goodE_edge h
    have h1 : Ev (fun k => impl_isOneGroup.f k n l) (allIn 0 0 (groupsM n l)) := by
      unfold impl_isOneGroup.f
      refine Ev.bind (implGroupsOf_ev n l (by omega) (by omega) (by omega) fun x hm => ⟨(hx x hm).1, (hx x hm).2.1, (hx x hm).2.2.1⟩) ?_
      have := implAll_l 0 0 (groupsM n l) [] (by simp only [List.nil_append, groupsM_len]; omega)
      exact Ev.bind (show Ev (fun k => impl_allIn.f k (groupsM n l) 0 0) _ from this) (Ev.now _)
    refine Ev.bind h1 ?_
    exact Ev.now _
  · simp only [if_neg h]
    exact Ev.now _
end Go.Proofs.Ytpbnpepikkocmaa.P

namespace Go.Proofs.Ytpbnpepikkocmaa.P
open Go.RowKit Go.Proofs.YtpbnpepikkocmaaW.PrintWords Go.Proofs.YtpbnpepikkocmaaW.PrintLast
set_option linter.unusedVariables false
set_option linter.unusedSimpArgs false
theorem and255 (x : Int) : 0 ≤ wrap64 (Go.bits .and .u64 x 255) ∧ wrap64 (Go.bits .and .u64 x 255) ≤ 255 := by
  have e : ∃ n : Nat, n ≤ 255 ∧ Go.bits .and .u64 x 255 = IntKind.u64.wrap (n : Int) := by
    refine ⟨(BitVec.ofInt 64 x &&& BitVec.ofInt 64 255).toNat, ?_, rfl⟩
    rw [BitVec.toNat_and]
    exact Nat.le_trans Nat.and_le_right (by decide)
  obtain ⟨n, hn, e⟩ := e
  rw [e]
  have e2 : IntKind.u64.wrap (n : Int) = (n : Int) := by
    simp only [IntKind.wrap, IntKind.bits, IntKind.signed, Bool.false_and, Bool.false_eq_true, if_false]
    omega
  rw [e2, wrap_id (by omega) (by omega)]
  omega
theorem next_ok (c : List Int) (hc : ∀ x ∈ c, 0 ≤ x ∧ x ≤ 255) (hl : c.length ≤ 1048576) (a s : Int) (h0 : 0 ≤ a) (h1 : a ≤ 1152921504606846976) :
    ∃ r s', spec_l1Cur_next.f c a s = some (r, a + 1, s') ∧ 0 ≤ r ∧ r ≤ 255 := by
  unfold spec_l1Cur_next.f
  rw [wrap_id (x := a + 1) (by omega) (by omega)]
  by_cases h : a < (c.length : Int)
  · have hm : rd c a ∈ c := by
      unfold rd
      rw [List.getD_eq_getElem?_getD, List.getElem?_eq_getElem (by omega)]
      exact List.getElem_mem _
    have hb := hc _ hm
    rw [if_pos h, if_pos h0]
    by_cases h2 : a + 1 ≤ (c.length : Int)
    · rw [if_pos h2, wrap_id (x := rd c a) (by omega) (by omega)]
      exact ⟨_, _, rfl, hb.1, hb.2⟩
    · omega
  · rw [if_neg h, if_neg (by omega)]
    exact ⟨_, _, rfl, (and255 _).1, (and255 _).2⟩
theorem pick_ok (c : List Int) (hc : ∀ x ∈ c, 0 ≤ x ∧ x ≤ 255) (hl : c.length ≤ 1048576) (a s n : Int) (h0 : 0 ≤ a) (h1 : a ≤ 1125899906842624) :
    ∃ r a' s', spec_l1Cur_pick.f c a s n = some (r, a', s') ∧ 0 ≤ r ∧ (n ≤ 1 → r = 0) ∧ (2 ≤ n → r < n) ∧ a ≤ a' ∧ a' ≤ a + 2 := by
  unfold spec_l1Cur_pick.f
  by_cases hn : n ≤ 1
  · rw [if_pos hn]
    exact ⟨0, a, s, rfl, by omega, fun _ => rfl, by omega, by omega, by omega⟩
  · rw [if_neg hn]
    obtain ⟨r, s', e, r0, r1⟩ := next_ok c hc hl a s h0 (by omega)
    rw [e]
    simp only [Option.bind_some]
    by_cases h2 : n > 200
    · rw [if_pos h2]
      obtain ⟨q, s2, e2, q0, q1⟩ := next_ok c hc hl (a + 1) s' (by omega) (by omega)
      rw [e2]
      simp only [Option.bind_some]
      rw [if_neg (by omega), wrap_id (x := r * 256) (by omega) (by omega), wrap_id (x := r * 256 + q) (by omega) (by omega), Int.tmod_eq_emod_of_nonneg (by omega)]
      exact ⟨_, _, _, rfl, Int.emod_nonneg _ (by omega), fun h => absurd h hn, fun _ => Int.emod_lt_of_pos _ (by omega), by omega, by omega⟩
    · rw [if_neg h2, if_neg (by omega), Int.tmod_eq_emod_of_nonneg r0]
      exact ⟨_, _, _, rfl, Int.emod_nonneg _ (by omega), fun h => absurd h hn, fun _ => Int.emod_lt_of_pos _ (by omega), by omega, by omega⟩
theorem one_ok (c : List Int) (hc : ∀ x ∈ c, 0 ≤ x ∧ x ≤ 255) (hl : c.length ≤ 1048576) (a s n : Int) (h0 : 0 ≤ a) (h1 : a ≤ 1125899906842624) :
    ∃ b a' s', spec_l1Cur_one.f c a s n = some (b, a', s') ∧ a ≤ a' ∧ a' ≤ a + 2 := by
  unfold spec_l1Cur_one.f
  obtain ⟨r, a', s', e, _, _, _, g1, g2⟩ := pick_ok c hc hl a s n h0 h1
  rw [e]
  exact ⟨_, _, _, rfl, g1, g2⟩
theorem among_ok (c : List Int) (hc : ∀ x ∈ c, 0 ≤ x ∧ x ≤ 255) (hl : c.length ≤ 1048576) (a s : Int) (l : List Int) (hn : 0 < l.length) (h0 : 0 ≤ a) (h1 : a ≤ 1125899906842624) :
    ∃ r a' s', spec_l1Cur_among.f c a s l = some (r, a', s') ∧ r ∈ l ∧ a ≤ a' ∧ a' ≤ a + 2 := by
  unfold spec_l1Cur_among.f
  obtain ⟨r, a', s', e, r0, r1, r2, g1, g2⟩ := pick_ok c hc hl a s (l.length : Int) h0 h1
  rw [e]
  simp only [Option.bind_some]
  have hlt : r < (l.length : Int) := by
    by_cases h : 2 ≤ (l.length : Int)
    · exact r2 h
    · have := r1 (by omega); omega
  rw [if_pos r0, if_pos hlt]
  refine ⟨_, _, _, rfl, ?_, g1, g2⟩
  unfold rd
  rw [List.getD_eq_getElem?_getD, List.getElem?_eq_getElem (by omega)]
  exact List.getElem_mem _
theorem bytes_ok {q : List Int} (hq : ∀ x ∈ q, (Lit.int .u8 x).wf = true) : ∀ x ∈ q, 0 ≤ x ∧ x ≤ 255 := fun x hx => by
  have := hq x hx
  simp only [Lit.wf, IntKind.has, IntKind.min, IntKind.max, IntKind.signed, IntKind.bits, Bool.and_eq_true, decide_eq_true_eq, Bool.false_eq_true, if_false] at this
  omega
end Go.Proofs.Ytpbnpepikkocmaa.P

namespace Go.Proofs.Ytpbnpepikkocmaa.P
open Go.RowKit Go.Proofs.YtpbnpepikkocmaaW.PrintWords Go.Proofs.YtpbnpepikkocmaaW.PrintLast
set_option linter.unusedVariables false
set_option linter.unusedSimpArgs false
-- The drawn lists of edges are short, whatever bytes they are drawn from.
theorem up1 (v : Nat) (h : v ≤ 1000) : wrap64 ((v : Int) + 1) = ((v + 1 : Nat) : Int) := by rw [wrap_id (by omega) (by omega)]; omega
theorem edges_l0 (c : List Int) (hc : ∀ x ∈ c, 0 ≤ x ∧ x ≤ 255) (hl : c.length ≤ 1048576) (n : Nat) (hn : n ≤ 13) (p : Int) (d : Nat) :
    ∀ (u : Nat) (l : List S52) (a s : Int), u + d = n → l.length ≤ 40 → 0 ≤ a → a ≤ 100000 - 60 * d → ∃ r a' s', Ev (fun k => spec_l1Cur_edges.l0 k n l p u c a s) ((n : Int), r, a', s') ∧ r.length ≤ 40 ∧ a ≤ a' ∧ a' ≤ a + 60 * d + 10 := by
  induction d with
  | zero =>
    intro u l a s hu hl2 h0 h1
    by_cases hp : (l.length : Int) > 0
    · obtain ⟨b, a1, s1, e1, g1, g1'⟩ := one_ok c hc hl a s 30 h0 (by omega)
      cases b with
      | true =>
        obtain ⟨r2, a2, s2, e2, _, g2, g2'⟩ := among_ok c hc hl a1 s1 [0, 100, 101] (by decide) (by omega) (by omega)
        refine ⟨l.set (0 : Int).toNat ⟨(rd_T52 l 0).f0, (rd_T52 l 0).f1, r2⟩, a2, s2, Ev.succ ?_, by simpa using hl2, by omega, by omega⟩
        simp only [spec_l1Cur_edges.l0, if_neg (show ¬ (u : Int) < n by omega), if_pos hp, e1, Option.bind_some, if_true]
        rw [e2]
        simp only [Option.bind_some, if_pos (show (0 : Int) < (l.length : Int) from hp)]
        exact Ev.now _
      | false =>
        refine ⟨l, a1, s1, Ev.succ ?_, hl2, by omega, by omega⟩
        simp only [spec_l1Cur_edges.l0, if_neg (show ¬ (u : Int) < n by omega), if_pos hp, e1, Option.bind_some, Bool.false_eq_true, if_false]
        exact Ev.now _
    · refine ⟨l, a, s, Ev.succ ?_, hl2, by omega, by omega⟩
      simp only [spec_l1Cur_edges.l0, if_neg (show ¬ (u : Int) < n by omega), if_neg hp]
      exact Ev.now _
  | succ d ih =>
    intro u l a s hu hl2 h0 h1
    have hd : d ≤ 12 := by omega
    have key : ∀ (d2 : Nat) (v : Nat) (l : List S52) (a s : Int), v + d2 = n → l.length ≤ 40 → 0 ≤ a → a + 4 * d2 ≤ 100000 - 60 * d → d2 ≤ 12 → ∃ r a' s', Ev (fun k => spec_l1Cur_edges.l1 k n l p u v c a s) ((n : Int), r, a', s') ∧ r.length ≤ 40 ∧ a ≤ a' ∧ a' ≤ a + 4 * d2 + (60 * d + 10) := by
      intro d2
      induction d2 with
      | zero =>
        intro v l a s hv hl2 h0 h1 _
        obtain ⟨r, a', s', e, hr, g, g'⟩ := ih (u + 1) l a s (by omega) hl2 h0 (by omega)
        refine ⟨r, a', s', Ev.succ ?_, hr, g, by omega⟩
        simp only [spec_l1Cur_edges.l1, if_neg (show ¬ (v : Int) < n by omega)]
        rw [up1 u (by omega)]
        exact e
      | succ d2 ih2 =>
        intro v l a s hv hl2 h0 h1 h12
        obtain ⟨b, a1, s1, e1, g1, g1'⟩ := one_ok c hc hl a s (wrap64 (1 + p)) h0 (by omega)
        have skip : ∃ r a' s', Ev (fun k => spec_l1Cur_edges.l1 k n l p u (wrap64 ((v : Int) + 1)) c a1 s1) ((n : Int), r, a', s') ∧ r.length ≤ 40 ∧ a ≤ a' ∧ a' ≤ a + 4 * ((d2 + 1 : Nat) : Int) + (60 * d + 10) := by
          obtain ⟨r, a', s', e, hr, g, g'⟩ := ih2 (v + 1) l a1 s1 (by omega) hl2 (by omega) (by omega) (by omega)
          rw [up1 v (by omega)]
          exact ⟨r, a', s', e, hr, by omega, by omega⟩
        cases b with
        | false =>
          obtain ⟨r, a', s', e, hr, g, g'⟩ := skip
          refine ⟨r, a', s', Ev.succ ?_, hr, g, g'⟩
          simp only [spec_l1Cur_edges.l1, if_pos (show (v : Int) < n by omega), e1, Option.bind_some, Bool.false_eq_true, if_false]
          exact e
        | true =>
          by_cases h40 : (l.length : Int) < 40
          · obtain ⟨q, a2, s2, e2, _, _, _, g2, g2'⟩ := pick_ok c hc hl a1 s1 5 (by omega) (by omega)
            obtain ⟨r, a', s', e, hr, g, g'⟩ := ih2 (v + 1) (l ++ [⟨(u : Int), (v : Int), wrap64 (1 + q)⟩]) a2 s2 (by omega) (by simp <;> omega) (by omega) (by omega) (by omega)
            refine ⟨r, a', s', Ev.succ ?_, hr, by omega, by omega⟩
            simp only [spec_l1Cur_edges.l1, if_pos (show (v : Int) < n by omega), e1, Option.bind_some, if_true, if_pos h40]
            rw [e2]
            simp only [Option.bind_some, if_pos (show l.length < 5864062014805 by omega)]
            rw [up1 v (by omega)]
            exact e
          · obtain ⟨r, a', s', e, hr, g, g'⟩ := skip
            refine ⟨r, a', s', Ev.succ ?_, hr, g, g'⟩
            simp only [spec_l1Cur_edges.l1, if_pos (show (v : Int) < n by omega), e1, Option.bind_some, if_true, if_neg h40]
            exact e
    obtain ⟨r, a', s', e, hr, g, g'⟩ := key d (u + 1) l a s (by omega) hl2 h0 (by omega) hd
    refine ⟨r, a', s', Ev.succ ?_, hr, g, by omega⟩
    simp only [spec_l1Cur_edges.l0, if_pos (show (u : Int) < n by omega)]
    rw [up1 u (by omega)]
    exact e
theorem edges_ok (c : List Int) (hc : ∀ x ∈ c, 0 ≤ x ∧ x ≤ 255) (hl : c.length ≤ 1048576) :
    ∃ (n : Int) (r : List S52) (a' s' : Int), Ev (fun k => spec_l1Cur_edges.f k c 0 0) (n, r, a', s') ∧ 0 ≤ n ∧ n ≤ 13 ∧ r.length ≤ 40 ∧ 0 ≤ a' ∧ a' ≤ 10000 := by
  obtain ⟨r1, a1, s1, e1, r10, _, r12, g1, g1'⟩ := pick_ok c hc hl 0 0 8 (by omega) (by omega)
  obtain ⟨b, a2, s2, e2, g2, g2'⟩ := one_ok c hc hl a1 s1 30 (by omega) (by omega)
  have := r12 (by omega)
  have fin : ∀ (n : Int) (a s : Int), 0 ≤ n → n ≤ 13 → 0 ≤ a → a ≤ 100 → ∃ (r : List S52) (a' s' : Int), Ev (fun k => spec_l1Cur_edges.j0 k n c a s) (n, r, a', s') ∧ r.length ≤ 40 ∧ 0 ≤ a' ∧ a' ≤ 10000 := by
    intro n a s h0 h1 ha ha1
    obtain ⟨m, rfl⟩ := Int.eq_ofNat_of_zero_le h0
    obtain ⟨q, a3, s3, e3, _, _, _, g3, g3'⟩ := pick_ok c hc hl a s 3 ha (by omega)
    obtain ⟨r, a4, s4, e4, hr, g4, g4'⟩ := edges_l0 c hc hl m (by omega) (wrap64 (1 + q)) m 0 [] a3 s3 (by omega) (by simp) (by omega) (by omega)
    refine ⟨r, a4, s4, Ev.succ ?_, hr, by omega, by omega⟩
    simp only [spec_l1Cur_edges.j0, e3, Option.bind_some]
    exact e4
  cases b with
  | true =>
    obtain ⟨r3, a3, s3, e3, m3, g3, g3'⟩ := among_ok c hc hl a2 s2 [0, 12, 13] (by decide) (by omega) (by omega)
    have hr3 : 0 ≤ r3 ∧ r3 ≤ 13 := by
      simp only [List.mem_cons, List.not_mem_nil, or_false] at m3
      omega
    obtain ⟨r, a4, s4, e4, hr, g4, g4'⟩ := fin r3 a3 s3 hr3.1 hr3.2 (by omega) (by omega)
    refine ⟨r3, r, a4, s4, ?_, hr3.1, hr3.2, hr, g4, g4'⟩
    unfold spec_l1Cur_edges.f
    simp only [e1, Option.bind_some]
    rw [e2]
    simp only [Option.bind_some, if_true]
    rw [e3]
    simp only [Option.bind_some]
    exact e4
  | false =>
    obtain ⟨r, a4, s4, e4, hr, g4, g4'⟩ := fin (1 + r1) a2 s2 (by omega) (by omega) (by omega) (by omega)
    refine ⟨1 + r1, r, a4, s4, ?_, by omega, by omega, hr, g4, g4'⟩
    unfold spec_l1Cur_edges.f
    simp only [e1, Option.bind_some]
    rw [e2]
    simp only [Option.bind_some, Bool.false_eq_true, if_false]
    rw [wrap_id (x := 1 + r1) (by omega) (by omega)]
    exact e4
end Go.Proofs.Ytpbnpepikkocmaa.P

namespace Go.Proofs.Ytpbnpepikkocmaa.P
open Go.RowKit Go.Proofs.YtpbnpepikkocmaaW.PrintWords Go.Proofs.YtpbnpepikkocmaaW.PrintLast
set_option linter.unusedVariables false
set_option linter.unusedSimpArgs false
-- the law's own comparison of two lists of numbers
theorem sameInts_l (s : List Int) : ∀ (t pre qre : List Int), pre.length = qre.length → s.length = t.length → (pre.length : Int) + s.length ≤ 1099511627776 →
    Ev (fun k => laws_sameInts.l0 k (pre ++ s) (qre ++ t) ((pre ++ s).length : Int) pre.length) (decide (s = t)) := by
  induction s with
  | nil =>
    intro t pre qre hq hl hb
    obtain rfl : t = [] := List.eq_nil_of_length_eq_zero (by simpa using hl.symm)
    refine Ev.succ ?_
    simp only [laws_sameInts.l0, List.append_nil, Int.lt_irrefl, if_false, decide_true]
    exact Ev.now _
  | cons x s ih =>
    intro t pre qre hq hl hb
    cases t with
    | nil => simp at hl
    | cons y t =>
      simp only [List.length_cons] at hl hb
      have h := ih t (pre ++ [x]) (qre ++ [y]) (by simp; omega) (by omega) (by simp; omega)
      rw [← app_one, ← app_one, len_mid, len_one] at h
      have hy : rd (qre ++ y :: t) (pre.length : Int) = y := by rw [hq]; exact rd_mid qre y t
      refine Ev.succ ?_
      simp only [laws_sameInts.l0]
      simp only [len_mid, if_pos (show ((pre.length : Int) < pre.length + s.length + 1) by omega), if_pos (show (0 : Int) ≤ pre.length by omega), if_pos (show ((pre.length : Int) < qre.length + t.length + 1) by omega), rd_mid, hy, wrap_id (show (-9223372036854775808 : Int) ≤ pre.length + 1 by omega) (show ((pre.length : Int) + 1 ≤ 9223372036854775807) by omega)]
      by_cases e : x = y
      · simp only [if_pos e]
        rw [show decide (x :: s = y :: t) = decide (s = t) by simp [e]]
        exact h
      · simp only [if_neg e]
        rw [show decide (x :: s = y :: t) = false by simp [e]]
        exact Ev.now _
theorem sameInts_ev (s t : List Int) (hs : s.length ≤ 1099511627776) : Ev (fun k => laws_sameInts.f k s t) (decide (s = t)) := by
  unfold laws_sameInts.f
  by_cases hl : s.length = t.length
  · simp only [if_pos (show (s.length : Int) = t.length by omega)]
    have := sameInts_l s t [] [] rfl hl (by simp; omega)
    exact this
  · simp only [if_neg (show ¬ (s.length : Int) = t.length by omega)]
    rw [decide_eq_false (fun e => hl (by rw [e]))]
    exact Ev.now _
end Go.Proofs.Ytpbnpepikkocmaa.P

namespace Go.Proofs.Ytpbnpepikkocmaa.P
open Go.RowKit Go.Proofs.YtpbnpepikkocmaaW.PrintWords Go.Proofs.YtpbnpepikkocmaaW.PrintLast
set_option linter.unusedVariables false
set_option linter.unusedSimpArgs false
-- what the law of groups asks of good edges
theorem goodEF_take {m : Int} : ∀ (l : List S52) (o : Option S52) (i : Nat), goodEF m o l = true → goodEF m o (l.take i) = true
  | _, o, 0, _ => by rw [List.take_zero]; cases o <;> rfl
  | [], _, i + 1, h => by rw [List.take_nil]; exact h
  | x :: l, o, i + 1, h => by
    rw [List.take_succ_cons]
    cases o with
    | none =>
      simp only [goodEF, Bool.and_eq_true] at h ⊢
      exact ⟨h.1, goodEF_take l (some x) i h.2⟩
    | some y =>
      simp only [goodEF, Bool.and_eq_true] at h ⊢
      exact ⟨h.1, h.2.1, goodEF_take l (some x) i h.2.2⟩
theorem goodE_take {n : Int} {l : List S52} (h : goodE n l = true) (i : Nat) : goodE n (l.take i) = true := by
  unfold goodE at h ⊢
  simp only [Bool.and_eq_true, decide_eq_true_eq] at h ⊢
  refine ⟨goodEF_take l none i h.1, h.2.1, ?_⟩
  rw [List.length_take]
  omega
theorem own0_getD (n : Nat) (f : Int → Int) (v : Int) (h0 : 0 ≤ v) (h1 : v < n) : rd ((own0 n).map f) v = f v := by
  unfold rd own0
  rw [List.getD_eq_getElem?_getD, List.map_map, List.getElem?_map, List.getElem?_range (show v.toNat < n by omega)]
  show f ((v.toNat : Nat) : Int) = f v
  rw [show ((v.toNat : Nat) : Int) = v by omega]
def labs (n : Nat) (E : List (Nat × Nat)) (c : Nat) : Nat := (List.range c).countP fun v => decide (lab n E v = v)
theorem labs_succ (n : Nat) (E : List (Nat × Nat)) (c : Nat) : labs n E (c + 1) = labs n E c + if lab n E c = c then 1 else 0 := by
  unfold labs
  rw [List.range_succ, List.countP_append, List.countP_cons, List.countP_nil, Nat.zero_add]
  by_cases h : lab n E c = c
  · rw [decide_eq_true h, if_pos rfl, if_pos h]
  · rw [decide_eq_false h, if_neg Bool.false_ne_true, if_neg h]
theorem labs_le (n : Nat) (E : List (Nat × Nat)) (c : Nat) : labs n E c ≤ c := by
  have := List.countP_le_length (p := fun v => decide (lab n E v = v)) (l := List.range c)
  rw [List.length_range] at this
  exact this
theorem law_l0 (x1 : List Int) (b : Bool) (n : Nat) (l : List S52) (h : goodE n l = true) (R : Bool)
    (hR : Ev (fun k => laws_FnGroups.l1 k x1 n l (groupsM n l) b (sumTo (fun v => l.countP (incid v)) n : Nat) (labs n (prs l) n : Nat) l l.length 0) R) (d : Nat) :
    ∀ (c : Nat), c + d = n → Ev (fun k => laws_FnGroups.l0 k x1 n l (groupsM n l) (degs n l n) b (sumTo (fun v => l.countP (incid v)) c : Nat) (labs n (prs l) c : Nat) (groupsM n l) (groupsM n l).length c) R := by
  have hgl : (groupsM n l).length = n := by rw [groupsM_len]; exact Int.toNat_natCast n
  have hn := goodE_n h
  have hi : InG n (prs l) := by
    have := prs_in (fun x hm => ⟨(goodE_edge h x hm).1, (goodE_edge h x hm).2.1, (goodE_edge h x hm).2.2.1⟩)
    rw [Int.toNat_natCast] at this
    exact this
  have hG : ∀ v : Int, 0 ≤ v → v < n → rd (groupsM n l) v = (lab n (prs l) v.toNat : Int) := fun v h0 h1 => by
    have := groupsM_at h v h0 h1
    rw [Int.toNat_natCast] at this
    exact this
  have hD : ∀ v : Int, 0 ≤ v → v < n → rd (degs n l n) v = (l.countP (incid v) : Int) := fun v h0 h1 => by
    rw [degs, own0_getD n _ v h0 h1]
    have := near_deg h v
    rw [Int.toNat_natCast] at this
    rw [this]
  have hS : ∀ c, c ≤ n → sumTo (fun v => l.countP (incid v)) c ≤ 40 * c := by
    intro c
    induction c with
    | zero => intro _; exact Nat.le_refl 0
    | succ c ih =>
      intro hc
      have := ih (by omega)
      have h2 := List.countP_le_length (p := incid (c : Int)) (l := l)
      rw [sumTo]
      omega
  induction d with
  | zero =>
    intro c hc
    obtain rfl : c = n := by omega
    refine Ev.succ ?_
    simp only [laws_FnGroups.l0, hgl, Int.lt_irrefl, if_false]
    exact hR
  | succ d ih =>
    intro c hc
    refine Ev.succ ?_
    have hi2 := ih (c + 1) (by omega)
    have hl := labs_le n (prs l) c
    have hs := hS (c + 1) (by omega)
    rw [sumTo] at hs
    have hdl : (degs n l n).length = n := degs_len n l n
    have lk := lab_ok hi (show c < n by omega)
    have hle := lk.2.2.2 c (.refl c)
    have hgc := hG c (by omega) (by omega)
    rw [Int.toNat_natCast] at hgc
    have hgg := hG (lab n (prs l) c : Int) (by omega) (by omega)
    rw [Int.toNat_natCast, ← lab_same hi (show c < n by omega) lk.2.1] at hgg
    have hdc := hD c (by omega) (by omega)
    simp only [laws_FnGroups.l0, hgl, hdl, hgc, hgg, hdc, if_pos (show (c : Int) < n by omega), if_pos (show (0 : Int) ≤ c by omega), if_neg (show ¬ (lab n (prs l) c : Int) > c by omega), if_pos (show (0 : Int) ≤ (lab n (prs l) c : Int) by omega), if_pos (show (lab n (prs l) c : Int) < n by omega), if_true]
    rw [sumTo, labs_succ] at hi2
    rw [wrap_id (x := ((sumTo (fun v => l.countP (incid v)) c : Nat) : Int) + (l.countP (incid c) : Int)) (by omega) (by omega), up1 c (by omega)]
    by_cases e : lab n (prs l) c = c
    · rw [if_pos e] at hi2
      simp only [if_pos (show (lab n (prs l) c : Int) = c by omega)]
      rw [wrap_id (x := ((labs n (prs l) c : Nat) : Int) + 1) (by omega) (by omega)]
      rw [hgl] at hi2
      exact_mod_cast hi2
    · rw [if_neg e] at hi2
      simp only [if_neg (show ¬ (lab n (prs l) c : Int) = c by omega)]
      rw [hgl] at hi2
      exact_mod_cast hi2
end Go.Proofs.Ytpbnpepikkocmaa.P

namespace Go.Proofs.Ytpbnpepikkocmaa.P
open Go.RowKit Go.Proofs.YtpbnpepikkocmaaW.PrintWords Go.Proofs.YtpbnpepikkocmaaW.PrintLast
set_option linter.unusedVariables false
set_option linter.unusedSimpArgs false
-- the law of groups: the second and the third loop
theorem law_l1 (x1 : List Int) (b : Bool) (n : Nat) (l : List S52) (h : goodE n l = true) (S C : Int) (R : Bool)
    (hR : Ev (fun k => laws_FnGroups.l2 k x1 n l b S C 0 l.length 0) R) (suf : List S52) :
    ∀ (pre : List S52), pre ++ suf = l → Ev (fun k => laws_FnGroups.l1 k x1 n l (groupsM n l) b S C l l.length pre.length) R := by
  have hgl : (groupsM n l).length = n := by rw [groupsM_len]; exact Int.toNat_natCast n
  have hn := goodE_n h
  have hi : InG n (prs l) := by
    have := prs_in (fun x hm => ⟨(goodE_edge h x hm).1, (goodE_edge h x hm).2.1, (goodE_edge h x hm).2.2.1⟩)
    rw [Int.toNat_natCast] at this
    exact this
  have hG : ∀ v : Int, 0 ≤ v → v < n → rd (groupsM n l) v = (lab n (prs l) v.toNat : Int) := fun v h0 h1 => by
    have := groupsM_at h v h0 h1
    rw [Int.toNat_natCast] at this
    exact this
  induction suf with
  | nil =>
    intro pre hp
    rw [List.append_nil] at hp
    subst hp
    refine Ev.succ ?_
    simp only [laws_FnGroups.l1, Int.lt_irrefl, if_false]
    exact hR
  | cons e suf ih =>
    intro pre hp
    refine Ev.succ ?_
    have hlen : (l.length : Int) = pre.length + suf.length + 1 := by rw [← hp, len_mid]
    have hx : rd_T52 l (pre.length : Int) = e := by rw [← hp, rdEdge_mid]
    have hm : e ∈ l := by rw [← hp]; simp
    have he := goodE_edge h e hm
    have hi2 := ih (pre ++ [e]) (by rw [← app_one]; exact hp)
    rw [len_one] at hi2
    have hs : lab n (prs l) e.f0.toNat = lab n (prs l) e.f1.toNat := lab_same hi (by omega) (.fwd (.refl _) (List.mem_map.2 ⟨e, hm, rfl⟩))
    simp only [laws_FnGroups.l1, hx, hgl, if_pos (show (pre.length : Int) < l.length by omega), if_pos (show (0 : Int) ≤ pre.length by omega), if_pos he.1, if_pos (show e.f0 < (n : Int) by omega), if_pos (show 0 ≤ e.f1 by omega), if_pos he.2.2.1, hG e.f0 he.1 (by omega), hG e.f1 (by omega) he.2.2.1, hs, if_true, up1 pre.length (by omega)]
    exact_mod_cast hi2
theorem law_l2 (x1 : List Int) (b : Bool) (n : Nat) (l : List S52) (h : goodE n l = true) (S C : Int) (R : Bool)
    (hR : Ev (fun k => laws_FnGroups.l2 k x1 n l b S C ((n - selfs n (prs l) : Nat) : Int) l.length l.length) R) (suf : List S52) :
    ∀ (pre : List S52), pre ++ suf = l → Ev (fun k => laws_FnGroups.l2 k x1 n l b S C ((n - selfs n (prs pre) : Nat) : Int) l.length pre.length) R := by
  have hn := goodE_n h
  induction suf with
  | nil =>
    intro pre hp
    rw [List.append_nil] at hp
    subst hp
    exact hR
  | cons e suf ih =>
    intro pre hp
    refine Ev.succ ?_
    have hlen : (l.length : Int) = pre.length + suf.length + 1 := by rw [← hp, len_mid]
    have hx : rd_T52 l (pre.length : Int) = e := by rw [← hp, rdEdge_mid]
    have hm : e ∈ l := by rw [← hp]; simp
    have he := goodE_edge h e hm
    have hi2 := ih (pre ++ [e]) (by rw [← app_one]; exact hp)
    rw [len_one] at hi2
    have ht : l.take (pre.length : Int).toNat = pre := by rw [Int.toNat_natCast, ← hp]; exact List.take_left ..
    have hg : goodE n pre = true := by
      have := goodE_take h (pre.length : Int).toNat
      rw [ht] at this
      exact this
    have hi : InG n (prs pre) := by
      have := prs_in (fun x hm => ⟨(goodE_edge hg x hm).1, (goodE_edge hg x hm).2.1, (goodE_edge hg x hm).2.2.1⟩)
      rw [Int.toNat_natCast] at this
      exact this
    have hG : ∀ v : Int, 0 ≤ v → v < n → rd (groupsM n pre) v = (lab n (prs pre) v.toNat : Int) := fun v h0 h1 => by
      have := groupsM_at hg v h0 h1
      rw [Int.toNat_natCast] at this
      exact this
    have hgl : (groupsM n pre).length = n := by rw [groupsM_len]; exact Int.toNat_natCast n
    have hadd := selfs_add hi (show e.f0.toNat < n by omega) (show e.f1.toNat < n by omega)
    have hpe : prs (pre ++ [e]) = prs pre ++ [(e.f0.toNat, e.f1.toNat)] := by unfold prs; rw [List.map_append]; rfl
    rw [← hpe] at hadd
    have hsn : selfs n (prs pre) ≤ n := labs_le n (prs pre) n
    have hev := implGroupsOfTop_ev n pre (by have := goodE_n hg; omega)
    rw [groupsOf, if_pos hg] at hev
    simp only [laws_FnGroups.l2, hx, ht, if_pos (show (pre.length : Int) < l.length by omega), if_pos (show (0 : Int) ≤ pre.length by omega), if_pos (show (pre.length : Int) ≤ l.length by omega)]
    refine Ev.bind hev ?_
    simp only [if_true, hgl, if_pos he.1, if_pos (show e.f0 < (n : Int) by omega), if_pos (show 0 ≤ e.f1 by omega), if_pos he.2.2.1, hG e.f0 he.1 (by omega), hG e.f1 (by omega) he.2.2.1, up1 pre.length (by omega)]
    by_cases hl : lab n (prs pre) e.f0.toNat = lab n (prs pre) e.f1.toNat
    · rw [if_pos hl] at hadd
      simp only [if_pos (show (lab n (prs pre) e.f0.toNat : Int) = lab n (prs pre) e.f1.toNat by omega)]
      rw [show selfs n (prs (pre ++ [e])) = selfs n (prs pre) by omega] at hi2
      exact_mod_cast hi2
    · rw [if_neg hl] at hadd
      simp only [if_neg (show ¬ (lab n (prs pre) e.f0.toNat : Int) = lab n (prs pre) e.f1.toNat by omega)]
      rw [wrap_id (x := ((n - selfs n (prs pre) : Nat) : Int) + 1) (by omega) (by omega)]
      rw [show ((n - selfs n (prs (pre ++ [e])) : Nat) : Int) = ((n - selfs n (prs pre) : Nat) : Int) + 1 by omega] at hi2
      exact_mod_cast hi2
end Go.Proofs.Ytpbnpepikkocmaa.P

namespace Go.Proofs.Ytpbnpepikkocmaa.P
open Go.RowKit Go.Proofs.YtpbnpepikkocmaaW.PrintWords Go.Proofs.YtpbnpepikkocmaaW.PrintLast
set_option linter.unusedVariables false
set_option linter.unusedSimpArgs false
-- one group iff one node is its own label
theorem one_iff {n : Nat} {l : List S52} (h : goodE n l = true) : allIn 0 0 (groupsM n l) = (((labs n (prs l) n : Nat) : Int) == 1) := by
  have hn := goodE_n h
  have hgl : (groupsM n l).length = n := by rw [groupsM_len]; exact Int.toNat_natCast n
  have hi : InG n (prs l) := by
    have := prs_in (fun x hm => ⟨(goodE_edge h x hm).1, (goodE_edge h x hm).2.1, (goodE_edge h x hm).2.2.1⟩)
    rw [Int.toNat_natCast] at this
    exact this
  have hG : ∀ v : Nat, v < n → rd (groupsM n l) v = (lab n (prs l) v : Int) := fun v h1 => by
    have := groupsM_at h v (by omega) (by omega)
    rw [Int.toNat_natCast, Int.toNat_natCast] at this
    exact this
  have l0 : lab n (prs l) 0 = 0 := by
    have := (lab_ok hi (show 0 < n by omega)).2.2.2 0 (.refl 0)
    omega
  have hd := countP_drop (p := fun v => decide (lab n (prs l) v = v)) (m := 0) n (by omega) (decide_eq_true l0)
  have hall : allIn 0 0 (groupsM n l) = true ↔ ∀ v, v < n → lab n (prs l) v = 0 := by
    unfold allIn
    rw [List.all_eq_true]
    constructor
    · intro hx v hv
      have hm : rd (groupsM n l) v ∈ groupsM n l := by
        unfold rd
        rw [List.getD_eq_getElem?_getD, List.getElem?_eq_getElem (show (v : Int).toNat < (groupsM n l).length by omega)]
        exact List.getElem_mem _
      have := hx _ hm
      rw [decide_eq_true_eq, hG v hv] at this
      omega
    · intro hx x hm
      obtain ⟨i, hi1, rfl⟩ := List.getElem_of_mem hm
      have := hG i (by omega)
      unfold rd at this
      rw [List.getD_eq_getElem?_getD, Int.toNat_natCast, List.getElem?_eq_getElem hi1, Option.getD_some, hx i (by omega)] at this
      rw [decide_eq_true_eq, this]
      omega
  rw [Bool.eq_iff_iff, hall, beq_iff_eq]
  show _ ↔ ((labs n (prs l) n : Nat) : Int) = 1
  unfold labs
  constructor
  · intro ha
    have : (List.range n).countP (fun v => decide (lab n (prs l) v = v) && !decide (v = 0)) = 0 := by
      rw [List.countP_eq_zero]
      intro v hv
      have := ha v (List.mem_range.1 hv)
      simp only [this, Bool.and_eq_true, decide_eq_true_eq, Bool.not_eq_true', decide_eq_false_iff_not]
      omega
    omega
  · intro hc v hv
    have h0 : (List.range n).countP (fun v => decide (lab n (prs l) v = v) && !decide (v = 0)) = 0 := by omega
    rw [List.countP_eq_zero] at h0
    have lv := lab_ok hi hv
    have := h0 (lab n (prs l) v) (List.mem_range.2 lv.2.2.1)
    simp only [(lab_same hi hv lv.2.1).symm, Bool.and_eq_true, decide_eq_true_eq, true_and, Bool.not_eq_true', decide_eq_false_iff_not, Classical.not_not] at this
    exact this
end Go.Proofs.Ytpbnpepikkocmaa.P

namespace Go.Proofs.Ytpbnpepikkocmaa.Pure
open Go.RowKit Go.Proofs.Ytpbnpepikkocmaa.P Go.Proofs.YtpbnpepikkocmaaW.PrintWords Go.Proofs.YtpbnpepikkocmaaW.PrintLast
set_option linter.unusedVariables false
set_option linter.unusedSimpArgs false
theorem FnGroups : laws_FnGroups.Pure := by
  intro c d hc1 hc2 hc3 hd1 hd2 hd3
  refine Ev.rounds ?_
  unfold laws_FnGroups.f
  by_cases h : (wrap64 ((c.length : Int) + (d.length : Int))) > 1048576
  · simp only [if_pos h]
    exact Ev.now _
  simp only [if_neg h]
  rw [wrap_id (by omega) (by omega)] at h
  have hcb := bytes_ok hc3
  have hdb := bytes_ok hd3
  obtain ⟨n', l, a, s, e, hn0, hn1, hl, _, _⟩ := edges_ok c hcb (by omega)
  obtain ⟨n, rfl⟩ := Int.eq_ofNat_of_zero_le hn0
  have hdraw : Ev (fun k => spec_DrawGroupsOf.f k c) ((n : Int), l) := by
    unfold spec_DrawGroupsOf.f spec_DrawGoodEdges.f
    exact Ev.bind (Ev.bind e (Ev.now _)) (Ev.now _)
  obtain ⟨m, q, a2, s2, e2, hm0, hm1, hq, _, _⟩ := edges_ok d hdb (by omega)
  have hdraw2 : Ev (fun k => spec_DrawIsOneGroup.f k d) (m, q) := by
    unfold spec_DrawIsOneGroup.f spec_DrawGoodEdges.f
    exact Ev.bind (Ev.bind e2 (Ev.now _)) (Ev.now _)
  have i1 := implOneGroup_ev m q (by omega)
  have i2 := specOneGroup_ev m q (by omega)
  have hj4 : Ev (fun k => laws_FnGroups.j4 k d false) true := by
    refine Ev.succ ?_
    simp only [laws_FnGroups.j4, Bool.false_eq_true, if_false]
    refine Ev.bind hdraw2 ?_
    refine Ev.bind i1 ?_
    refine Ev.bind i2 ?_
    simp only [beq_self_eq_true, if_true]
    exact Ev.now _
  have gl := groupsOf_len n l
  have dl := degreesOf_len n l
  refine Ev.bind hdraw ?_
  refine Ev.bind (implGroupsOfTop_ev n l (by omega)) ?_
  refine Ev.bind (specGroupsOf_ev n l (by omega)) ?_
  refine Ev.bind (implDegreesOf_ev n l (by omega)) ?_
  refine Ev.bind (specDegreesOf_ev n l (by omega)) ?_
  simp only [bne_self_eq_false, Bool.false_eq_true, if_false]
  refine Ev.bind (sameInts_ev _ _ (by omega)) ?_
  simp only [decide_true, if_true, bne_self_eq_false, Bool.false_eq_true, if_false]
  refine Ev.bind (sameInts_ev _ _ (by omega)) ?_
  simp only [decide_true, if_true]
  refine Ev.bind (implGoodE_ev n l (by omega)) ?_
  by_cases hg : goodE n l = true
  · have hn := goodE_n hg
    rw [show groupsOf n l = (groupsM n l, true) by unfold groupsOf; rw [if_pos hg], show degreesOf n l = (degs n l n, true) by unfold degreesOf; rw [if_pos hg, Int.toNat_natCast], hg]
    simp only [bne_self_eq_false]
    refine Ev.succ ?_
    simp only [laws_FnGroups.j0, Bool.false_eq_true, if_false, if_true]
    have hsum := deg_sum n l (fun x hx => ⟨(goodE_edge hg x hx).1, (goodE_edge hg x hx).2.1, (goodE_edge hg x hx).2.2.1⟩)
    have hle : labs n (prs l) n ≤ n := labs_le n (prs l) n
    have hend : Ev (fun k => laws_FnGroups.l2 k d n l true ((sumTo (fun v => l.countP (incid v)) n : Nat) : Int) ((labs n (prs l) n : Nat) : Int) ((n - selfs n (prs l) : Nat) : Int) l.length l.length) true := by
      refine Ev.succ ?_
      simp only [laws_FnGroups.l2, Int.lt_irrefl, if_false]
      refine Ev.bind (implOneGroup_ev n l (by omega)) ?_
      rw [show oneGroup n l = (allIn 0 0 (groupsM n l), true) by unfold oneGroup; rw [if_pos hg], one_iff hg]
      rw [wrap_id (x := 2 * (l.length : Int)) (by omega) (by omega), wrap_id (x := (n : Int) - ((n - selfs n (prs l) : Nat) : Int)) (by omega) (by omega)]
      have hs : selfs n (prs l) = labs n (prs l) n := rfl
      simp only [if_true, if_pos (show ((sumTo (fun v => l.countP (incid v)) n : Nat) : Int) = 2 * (l.length : Int) by omega), if_pos (show ((labs n (prs l) n : Nat) : Int) = (n : Int) - ((n - selfs n (prs l) : Nat) : Int) by omega), bne_self_eq_false]
      exact hj4
    have h2 := law_l2 d true n l hg _ _ true hend l [] rfl
    have hz : selfs n (prs ([] : List S52)) = n := by
      unfold selfs
      have hin : InG n (prs ([] : List S52)) := fun x hx => by simp [prs] at hx
      rw [List.countP_eq_length.2 (fun v hv => decide_eq_true (by
        have lv := lab_ok hin (List.mem_range.1 hv)
        have hc : ∀ {x y : Nat}, Conn (prs ([] : List S52)) x y → x = y := by
          intro x y hc
          induction hc with
          | refl => rfl
          | fwd _ he _ => simp [prs] at he
          | bwd _ he _ => simp [prs] at he
        exact (hc lv.2.1).symm)), List.length_range]
    rw [hz, Nat.sub_self] at h2
    have h1 := law_l1 d true n l hg _ _ true h2 l [] rfl
    have h0 := law_l0 d true n l hg true h1 n 0 (by omega)
    exact h0
  · rw [show groupsOf n l = ([], false) by unfold groupsOf; rw [if_neg hg], Bool.eq_false_iff.2 hg]
    simp only [bne_self_eq_false]
    refine Ev.succ ?_
    simp only [laws_FnGroups.j0, Bool.false_eq_true, if_false]
    refine Ev.bind hdraw2 ?_
    refine Ev.bind i1 ?_
    refine Ev.bind i2 ?_
    simp only [beq_self_eq_true, if_true]
    exact Ev.now _
end Go.Proofs.Ytpbnpepikkocmaa.Pure
