/- Functions, walks and plain lemmas that the law FnExactBlockingIn reaches, part 5. -/
import Derived.Test.YtoipbblhmcpneaaCFnExactBlockingIn4
import Derived.WalkKit
import Derived.ProofKit
import Derived.OpenShut
import Derived.ChangeOld
import Derived.Below
import Derived.SizedLaws
import Derived.ChangeArms
import Derived.DataElems
import Derived.Deep.Draws
import Derived.Deep.AppendLies
import Derived.Maps.AppendAt
import Derived.OwnWalk
import Derived.Laws.BytesArg
import Derived.Laws.MakeOwn
import Derived.Laws.OwnMore
import Derived.Deep.OwnRows
import Derived.Tactics
import Derived.Lib.ConvBytes
import Derived.Laws.Slices
import Derived.KernelRfl
import Derived.RowKit3
import Derived.Deep.LoopGhost
import Derived.Deep.QuietTactic
import Derived.BigQuiet
import Derived.WideLaws
import Derived.Deep.DeepCutAuto
import Derived.Deep.CutBlock
import Derived.Deep.RegionHeld3
import Derived.Laws.Rows
import Derived.Lib.AppendStr
import Derived.ArgAppend
import Derived.Laws.IdiomCopy
import Derived.OrdersHeld
import Derived.Laws.BitsLemmas
import Derived.RowKit
import Derived.WalkSpells
import Derived.Lib.SliceRun
import Derived.Shelf.Abstract
import Derived.ShutString
namespace Go.Proofs.Ytoipbblhmcpneaa.P
open Go.RowKit Go.Proofs.YtoipbblhmcpneaaW.PrintWords Go.Proofs.YtoipbblhmcpneaaW.PrintLast
set_option linter.unusedVariables false
set_option linter.unusedSimpArgs false
-- who a server would take, and who is in the way: the program and the reference
theorem rowL_is (f : List (List Int)) (i : Int) : rd_L1 f i = row_ f i := rfl
theorem row_mem {f : List (List Int)} {i : Int} (h0 : 0 ≤ i) (h1 : i < f.length) : row_ f i ∈ f := by
 unfold row_
 rw [List.getD_eq_getElem?_getD, List.getElem?_eq_getElem (by omega)]
 exact List.getElem_mem _
theorem wOk_of {f0 f1 : List (List Int)} {f2 : List Int} (h : goodW f0 f1 f2 = true) : WOk f0 f1 f2 f0.length f1.length := by
 have hl := goodW_len h
 unfold goodW at h
 simp only [Bool.and_eq_true] at h
 refine ⟨rfl, rfl, by omega, fun g h0 h1 => ?_, fun s h0 h1 => ?_⟩
 ·exact rowOk_perm (List.all_eq_true.1 h.1 _ (row_mem h0 h1))
 ·exact rowOk_perm (List.all_eq_true.1 h.2.1 _ (row_mem h0 h1))
theorem plEv (x : Int) (l : List Int) (h : (l.length : Int) ≤ 1099511627776) : Ev (fun k => spec_l12Place.f k l x) (pl l x) := place_ev x l h
theorem ixEv {m : Int} {l : List Int} (hp : Perm_ m l) (hm : m ≤ 1000) {x : Int} (h0 : 0 ≤ x) (h1 : x < m) : Ev (fun k => slices_Index_int.f k l x) (pl l x) := by
 have hl := hp.len
 have := index_ev x l (by omega)
 obtain ⟨k, _, h2, _⟩ := placeGo_some x l 0 (hp.mem h0 h1)
 unfold pl
 rw [h2] at this ⊢
 exact this
/-- who has a server, rising -/
theorem hasGo_mem (s : Int) : ∀ (l : List Int) (i x : Int), x ∈ hasGo s l i ↔ ∃ j : Nat, j < l.length ∧ x = i + j ∧ rd l j = s
 | [], i, x => by simp [hasGo]
 | y :: r, i, x => by
  have ih := hasGo_mem s r (i + 1) x
  have e : (∃ j : Nat, j < (y :: r).length ∧ x = i + j ∧ rd (y :: r) j = s) ↔ (x = i ∧ y = s) ∨ ∃ j : Nat, j < r.length ∧ x = i + 1 + j ∧ rd r j = s := by
   constructor
   ·rintro ⟨j, h1, h2, h3⟩
    cases j with
    | zero => exact .inl ⟨by simpa using h2, h3⟩
    | succ j => exact .inr ⟨j, by simpa using h1, by omega, h3⟩
   ·rintro (⟨h1, h2⟩ | ⟨j, h1, h2, h3⟩)
    ·exact ⟨0, by simp, by simpa using h1, h2⟩
    ·exact ⟨j + 1, by simpa using h1, by omega, h3⟩
  rw [e, ← ih, show hasGo s (y :: r) i = (if y = s then i :: hasGo s r (i + 1) else hasGo s r (i + 1)) from rfl]
  split
  ·rename_i h
   rw [List.mem_cons]
   simp [h]
  ·rename_i h
   simp [h]
theorem has_iff {m : List Int} {s x : Int} : x ∈ hasGo s m 0 ↔ 0 ≤ x ∧ x < m.length ∧ rd m x = s := by
 rw [hasGo_mem]
 constructor
 ·rintro ⟨j, h1, h2, h3⟩
  rw [Int.zero_add] at h2
  subst h2
  exact ⟨by omega, by omega, h3⟩
 ·rintro ⟨h1, h2, h3⟩
  exact ⟨x.toNat, by omega, by omega, by rw [show ((x.toNat : Nat) : Int) = x by omega]; exact h3⟩
def worstGo (P : List Int) : Int → List Int → Int
 | w, [] => w
 | w, g :: r => worstGo P (if w < 0 then g else if pl P g > pl P w then g else w) r
def worstM (f1 : List (List Int)) (m : List Int) (s : Int) : Int := worstGo (row_ f1 s) (-1) (hasGo s m 0)
theorem worstGo_ok (P : List Int) : ∀ (l : List Int) (w : Int), (∀ x ∈ l, 0 ≤ x) → (w < 0 → worstGo P w l = w ∧ l = [] ∨ worstGo P w l ∈ l ∧ ∀ x ∈ l, pl P x ≤ pl P (worstGo P w l)) ∧ (0 ≤ w → (worstGo P w l = w ∨ worstGo P w l ∈ l) ∧ pl P w ≤ pl P (worstGo P w l) ∧ ∀ x ∈ l, pl P x ≤ pl P (worstGo P w l))
 | [], w, _ => ⟨fun _ => .inl ⟨rfl, rfl⟩, fun _ => ⟨.inl rfl, Int.le_refl _, fun x hx => by simp at hx⟩⟩
 | g :: r, w, h => by
  have hg := h g (List.mem_cons_self ..)
  have hr : ∀ x ∈ r, 0 ≤ x := fun x hx => h x (List.mem_cons_of_mem _ hx)
  rw [worstGo]
  constructor
  ·intro hw
   rw [if_pos hw]
   obtain ⟨h1, h2, h3⟩ := (worstGo_ok P r g hr).2 hg
   refine .inr ⟨?_, fun x hx => ?_⟩
   ·rcases h1 with h1 | h1
    ·rw [h1]; exact List.mem_cons_self ..
    ·exact List.mem_cons_of_mem _ h1
   ·rcases List.mem_cons.1 hx with rfl | hx
    ·exact h2
    ·exact h3 x hx
  ·intro hw
   rw [if_neg (by omega)]
   by_cases hp : pl P g > pl P w
   ·rw [if_pos hp]
    obtain ⟨h1, h2, h3⟩ := (worstGo_ok P r g hr).2 hg
    refine ⟨.inr ?_, by omega, fun x hx => ?_⟩
    ·rcases h1 with h1 | h1
     ·rw [h1]; exact List.mem_cons_self ..
     ·exact List.mem_cons_of_mem _ h1
    ·rcases List.mem_cons.1 hx with rfl | hx
     ·exact h2
     ·exact h3 x hx
   ·rw [if_neg hp]
    obtain ⟨h1, h2, h3⟩ := (worstGo_ok P r w hr).2 hw
    refine ⟨?_, h2, fun x hx => ?_⟩
    ·rcases h1 with h1 | h1
     ·exact .inl h1
     ·exact .inr (List.mem_cons_of_mem _ h1)
    ·rcases List.mem_cons.1 hx with rfl | hx
     ·omega
     ·exact h3 x hx
/-- nobody, or the last in the server's list of all who have it -/
theorem worst_ok (f1 : List (List Int)) (m : List Int) (s : Int) : (worstM f1 m s = -1 ∧ ∀ x : Int, 0 ≤ x → x < m.length → rd m x ≠ s) ∨ (0 ≤ worstM f1 m s ∧ worstM f1 m s < m.length ∧ rd m (worstM f1 m s) = s ∧ ∀ x : Int, 0 ≤ x → x < m.length → rd m x = s → pl (row_ f1 s) x ≤ pl (row_ f1 s) (worstM f1 m s)) := by
 have h := (worstGo_ok (row_ f1 s) (hasGo s m 0) (-1) (fun x hx => (has_iff.1 hx).1)).1 (by omega)
 rcases h with ⟨h1, h2⟩ | ⟨h1, h2⟩
 ·refine .inl ⟨h1, fun x h0 hx e => ?_⟩
  have : x ∈ hasGo s m 0 := has_iff.2 ⟨h0, hx, e⟩
  rw [h2] at this
  simp at this
 ·have := has_iff.1 h1
  exact .inr ⟨this.1, this.2.1, this.2.2, fun x h0 hx e => h2 x (has_iff.2 ⟨h0, hx, e⟩)⟩
theorem specWorst_l (f0 f1 : List (List Int)) (f2 : List Int) (s : Int) (h0 : 0 ≤ s) (h1 : s < f1.length) (hb : (row_ f1 s).length ≤ 1048576) (suf : List Int) : ∀ (pre : List Int) (w : Int), ((pre ++ suf).length : Int) ≤ 1048576 →
  Ev (fun k => spec_l12Worst.l0 k s w (pre ++ suf) ((pre ++ suf).length : Int) pre.length f0 f1 f2) (worstGo (row_ f1 s) w suf) := by
 induction suf with
 | nil =>
  intro pre w h
  refine Ev.succ ?_
  simp only [spec_l12Worst.l0, List.append_nil, Int.lt_irrefl, if_false, worstGo]
  exact Ev.now _
 | cons g suf ih =>
  intro pre w h
  refine Ev.succ ?_
  rw [len_mid] at h ⊢
  have := fun w => ih (pre ++ [g]) w (by rw [← app_one, len_mid]; exact h)
  rw [← app_one, len_mid, len_one] at this
  simp only [spec_l12Worst.l0, worstGo]
  simp only [if_pos (show ((pre.length : Int) < pre.length + suf.length + 1) by omega), if_pos (show (0 : Int) ≤ pre.length by omega), len_mid, rd_mid, wrap_id (show (-9223372036854775808 : Int) ≤ pre.length + 1 by omega) (show ((pre.length : Int) + 1 ≤ 9223372036854775807) by omega), rowL_is]
  by_cases hw : w < 0
  ·simp only [if_pos hw]
   exact this g
  ·simp only [if_neg hw, if_pos h0, if_pos h1]
   refine Ev.bind (plEv g _ (by omega)) ?_
   refine Ev.bind (plEv w _ (by omega)) ?_
   by_cases hp : pl (row_ f1 s) g > pl (row_ f1 s) w
   ·simp only [if_pos hp]
    exact this g
   ·simp only [if_neg hp]
    exact this w
theorem specWorst_ev (f0 f1 : List (List Int)) (f2 m : List Int) (s : Int) (h0 : 0 ≤ s) (h1 : s < f1.length) (hb : (row_ f1 s).length ≤ 1048576) (hm : m.length ≤ 1000) : Ev (fun k => spec_l12Worst.f k f0 f1 f2 m s) (worstM f1 m s) := by
 unfold spec_l12Worst.f
 refine Ev.bind (l12Has_ev m s (by omega)) ?_
 have hl := hasGo_len s m 0
 have hc := cnt_le m s
 have := specWorst_l f0 f1 f2 s h0 h1 hb (hasGo s m 0) [] (-1) (by rw [List.nil_append, hl]; omega)
 exact this
def wouldM (f1 : List (List Int)) (f2 m : List Int) (s g : Int) : Bool := decide ((cnt m s : Int) < rd f2 s) || (decide (worstM f1 m s ≥ 0) && decide (pl (row_ f1 s) g < pl (row_ f1 s) (worstM f1 m s)))
theorem specWould_ev (f0 f1 : List (List Int)) (f2 m : List Int) (s g : Int) (h0 : 0 ≤ s) (h1 : s < f1.length) (h2 : s < f2.length) (hb : (row_ f1 s).length ≤ 1048576) (hm : m.length ≤ 1000) : Ev (fun k => spec_l12Would.f k f0 f1 f2 m s g) (wouldM f1 f2 m s g) := by
 unfold spec_l12Would.f wouldM
 refine Ev.bind (l12Has_ev m s (by omega)) ?_
 simp only [if_pos h0, if_pos h2, hasGo_len]
 by_cases hc : (cnt m s : Int) < rd f2 s
 ·simp only [if_pos hc, decide_eq_true hc, Bool.true_or]
  exact Ev.now _
 ·simp only [if_neg hc, decide_eq_false hc, Bool.false_or]
  refine Ev.bind (specWorst_ev f0 f1 f2 m s h0 h1 hb hm) ?_
  by_cases hw : worstM f1 m s ≥ 0
  ·simp only [if_pos hw, if_pos h1, decide_eq_true hw, Bool.true_and, rowL_is]
   refine Ev.bind (plEv g _ (by omega)) ?_
   exact Ev.bind (plEv _ _ (by omega)) (Ev.now _)
  ·simp only [if_neg hw, decide_eq_false hw, Bool.false_and]
   exact Ev.now _
/-- the last of a list who has the server -/
def lastGo (m : List Int) (s : Int) : Int → List Int → Int
 | w, [] => w
 | w, g :: r => lastGo m s (if rd m g = s then g else w) r
theorem implLast_l (m : List Int) (s : Int) (suf : List Int) : ∀ (pre : List Int) (w : Int), ((pre ++ suf).length : Int) ≤ 1048576 → (∀ x ∈ suf, 0 ≤ x ∧ x < m.length) →
  Ev (fun k => impl_last.l0 k m s w (pre ++ suf) ((pre ++ suf).length : Int) pre.length) (lastGo m s w suf) := by
 induction suf with
 | nil =>
  intro pre w h hx
  refine Ev.succ ?_
  simp only [impl_last.l0, List.append_nil, Int.lt_irrefl, if_false, lastGo]
  exact Ev.now _
 | cons g suf ih =>
  intro pre w h hx
  refine Ev.succ ?_
  rw [len_mid] at h ⊢
  have hg := hx g (List.mem_cons_self ..)
  have := fun w => ih (pre ++ [g]) w (by rw [← app_one, len_mid]; exact h) (fun x hm => hx x (List.mem_cons_of_mem _ hm))
  rw [← app_one, len_mid, len_one] at this
  simp only [impl_last.l0, lastGo]
  simp only [if_pos (show ((pre.length : Int) < pre.length + suf.length + 1) by omega), if_pos (show (0 : Int) ≤ pre.length by omega), len_mid, rd_mid, wrap_id (show (-9223372036854775808 : Int) ≤ pre.length + 1 by omega) (show ((pre.length : Int) + 1 ≤ 9223372036854775807) by omega), if_pos hg.1, if_pos hg.2]
  by_cases hs : rd m g = s
  ·simp only [if_pos hs]
   exact this g
  ·simp only [if_neg hs]
   exact this w
theorem rd_of_mid (pre : List Int) (x : Int) (suf : List Int) : rd (pre ++ x :: suf) (pre.length : Int) = x := rd_mid pre x suf
theorem lastGo_ok {n : Int} {P : List Int} (hp : Perm_ n P) (m : List Int) (s : Int) (suf : List Int) : ∀ (pre : List Int) (w : Int), pre ++ suf = P →
  ((w = -1 ∧ ∀ x ∈ pre, rd m x ≠ s) ∨ (w ∈ pre ∧ rd m w = s ∧ ∀ x ∈ pre, rd m x = s → pl P x ≤ pl P w)) →
  (lastGo m s w suf = -1 ∧ ∀ x ∈ P, rd m x ≠ s) ∨ (lastGo m s w suf ∈ P ∧ rd m (lastGo m s w suf) = s ∧ ∀ x ∈ P, rd m x = s → pl P x ≤ pl P (lastGo m s w suf)) := by
 induction suf with
 | nil =>
  intro pre w h hw
  rw [List.append_nil] at h
  subst h
  exact hw
 | cons g suf ih =>
  intro pre w h hw
  rw [lastGo]
  refine ih (pre ++ [g]) _ (by rw [← app_one]; exact h) ?_
  have hgP : g ∈ P := by rw [← h]; simp
  have hlg := hp.low g hgP
  have hplg : pl P g = pre.length := by
   have hk : (pre.length : Int) < n := by
    have := hp.len
    rw [← h, len_mid] at this
    omega
   have e := hp.pl_rd (k := (pre.length : Int)) (by omega) hk
   rwa [show rd P (pre.length : Int) = g by rw [← h]; exact rd_of_mid pre g suf] at e
  have hpre : ∀ x ∈ pre, pl P x ≤ pre.length := by
   intro x hx
   obtain ⟨i, hi, hxi⟩ := List.getElem_of_mem hx
   have hi2 : (i : Int) < n := by
    have := hp.len
    rw [← h, len_mid] at this
    omega
   have e := hp.pl_rd (k := (i : Int)) (by omega) hi2
   have hr : rd P (i : Int) = x := by
    rw [← h]
    unfold rd
    rw [Int.toNat_natCast, List.getD_eq_getElem?_getD, List.getElem?_append_left hi, List.getElem?_eq_getElem hi, hxi]
    rfl
   rw [hr] at e
   omega
  by_cases hs : rd m g = s
  ·rw [if_pos hs]
   refine .inr ⟨by simp, hs, fun x hx _ => ?_⟩
   rcases List.mem_append.1 hx with hx | hx
   ·rw [hplg]
    exact hpre x hx
   ·rw [List.mem_singleton.1 hx]
    exact Int.le_refl _
  ·rw [if_neg hs]
   rcases hw with ⟨h1, h2⟩ | ⟨h1, h2, h3⟩
   ·refine .inl ⟨h1, fun x hx => ?_⟩
    rcases List.mem_append.1 hx with hx | hx
    ·exact h2 x hx
    ·rw [List.mem_singleton.1 hx]
     exact hs
   ·refine .inr ⟨List.mem_append_left _ h1, h2, fun x hx e => ?_⟩
    rcases List.mem_append.1 hx with hx | hx
    ·exact h3 x hx e
    ·rw [List.mem_singleton.1 hx] at e
     exact absurd e hs
/-- both tell the same -/
theorem last_worst {f1 : List (List Int)} {m : List Int} {s n : Int} (hp : Perm_ n (row_ f1 s)) (hm : (m.length : Int) = n) : lastGo m s (-1) (row_ f1 s) = worstM f1 m s := by
 have h1 := lastGo_ok hp m s (row_ f1 s) [] (-1) rfl (.inl ⟨rfl, fun x hx => by simp at hx⟩)
 rcases h1 with ⟨a1, a2⟩ | ⟨a1, a2, a3⟩
 ·rcases worst_ok f1 m s with ⟨b1, _⟩ | ⟨b1, b2, b3, _⟩
  ·rw [a1, b1]
  ·exact absurd b3 (a2 _ (hp.mem b1 (by omega)))
 ·have al := hp.low _ a1
  rcases worst_ok f1 m s with ⟨b1, b2⟩ | ⟨b1, b2, b3, b4⟩
  ·exact absurd a2 (b2 _ al.1 (by omega))
  ·have c1 := a3 _ (hp.mem b1 (by omega)) b3
   have c2 := b4 _ al.1 (by omega) a2
   exact hp.pl_inj al.1 al.2 b1 (by omega) (by omega)
theorem implLast_ev (f0 f1 : List (List Int)) (f2 m : List Int) (s : Int) (h0 : 0 ≤ s) (h1 : s < f1.length) {n : Int} (hp : Perm_ n (row_ f1 s)) (hn : n ≤ 1000) (hm : (m.length : Int) = n) : Ev (fun k => impl_last.f k f0 f1 f2 m s) (worstM f1 m s) := by
 have hl := hp.len
 unfold impl_last.f
 simp only [if_pos h0, if_pos h1, rowL_is]
 rw [← last_worst hp hm]
 have := implLast_l m s (row_ f1 s) [] (-1) (by rw [List.nil_append]; omega) (fun x hx => by have := hp.low x hx; omega)
 exact this
def takesM (f1 : List (List Int)) (f2 m : List Int) (s g : Int) : Int × Bool := if (cnt m s : Int) < rd f2 s then (-1, true) else if worstM f1 m s < 0 then (-1, false) else if pl (row_ f1 s) (worstM f1 m s) < pl (row_ f1 s) g then (-1, false) else (worstM f1 m s, true)
theorem implTakes_ev {f0 f1 : List (List Int)} {f2 m : List Int} {G S : Int} (w : WOk f0 f1 f2 G S) (hG : G ≤ 1000) (hS : S ≤ 1000) (hm : (m.length : Int) = G) (hs : ∀ x ∈ m, -1 ≤ x ∧ x < f1.length) (s g : Int) (h0 : 0 ≤ s) (h1 : s < S) (hg : 0 ≤ g) (hg1 : g < G) : Ev (fun k => impl_takes.f k f0 f1 f2 m s g) (takesM f1 f2 m s g) := by
 have ws := w.s
 have wr := w.r
 have hp := w.ps s h0 h1
 obtain ⟨r, e, hr, hrd⟩ := loads_ev f0 f1 f2 m (by omega) (by omega) hs
 unfold impl_takes.f takesM
 refine Ev.bind e ?_
 simp only [if_pos h0, if_pos (show s < (r.length : Int) by omega), if_pos (show s < (f2.length : Int) by omega), hrd s h0]
 by_cases hc : (cnt m s : Int) < rd f2 s
 ·simp only [if_pos hc]
  exact Ev.now _
 ·simp only [if_neg hc]
  refine Ev.bind (implLast_ev f0 f1 f2 m s h0 (by omega) hp hG hm) ?_
  by_cases hw : worstM f1 m s < 0
  ·simp only [if_pos hw]
   exact Ev.now _
  ·simp only [if_neg hw, if_pos (show s < (f1.length : Int) by omega), rowL_is]
   have hb : worstM f1 m s < G := by
    rcases worst_ok f1 m s with ⟨b1, _⟩ | ⟨_, b2, _, _⟩ <;> omega
   refine Ev.bind (ixEv hp hG (by omega) hb) ?_
   refine Ev.bind (ixEv hp hG hg hg1) ?_
   by_cases hq : pl (row_ f1 s) (worstM f1 m s) < pl (row_ f1 s) g
   ·simp only [if_pos hq]
    exact Ev.now _
   ·simp only [if_neg hq]
    exact Ev.now _
theorem takes_would {f0 f1 : List (List Int)} {f2 m : List Int} {G S : Int} (w : WOk f0 f1 f2 G S) (hm : (m.length : Int) = G) {s g : Int} (h0 : 0 ≤ s) (h1 : s < S) (hg : 0 ≤ g) (hg1 : g < G) (hne : rd m g ≠ s) : (takesM f1 f2 m s g).2 = wouldM f1 f2 m s g := by
 have hp := w.ps s h0 h1
 unfold takesM wouldM
 by_cases hc : (cnt m s : Int) < rd f2 s
 ·rw [if_pos hc, decide_eq_true hc, Bool.true_or]
 ·rw [if_neg hc, decide_eq_false hc, Bool.false_or]
  by_cases hw : worstM f1 m s < 0
  ·rw [if_pos hw, decide_eq_false (show ¬ worstM f1 m s ≥ 0 by omega), Bool.false_and]
  ·rw [if_neg hw, decide_eq_true (show worstM f1 m s ≥ 0 by omega), Bool.true_and]
   have hb : worstM f1 m s < G ∧ rd m (worstM f1 m s) = s := by
    rcases worst_ok f1 m s with ⟨b1, _⟩ | ⟨_, b2, b3, _⟩
    ·omega
    ·exact ⟨by omega, b3⟩
   have hq : pl (row_ f1 s) g ≠ pl (row_ f1 s) (worstM f1 m s) := fun c => hne (by rw [hp.pl_inj hg hg1 (by omega) hb.1 c]; exact hb.2)
   by_cases hlt : pl (row_ f1 s) (worstM f1 m s) < pl (row_ f1 s) g
   ·rw [if_pos hlt, decide_eq_false (by omega)]
   ·rw [if_neg hlt, decide_eq_true (by omega)]
end Go.Proofs.Ytoipbblhmcpneaa.P

namespace Go.Proofs.Ytoipbblhmcpneaa.P
open Go.RowKit Go.Proofs.YtoipbblhmcpneaaW.PrintWords Go.Proofs.YtoipbblhmcpneaaW.PrintLast
set_option linter.unusedVariables false
set_option linter.unusedSimpArgs false
-- who is in the way of a match: the program and the reference
def blk (f0 f1 : List (List Int)) (f2 m : List Int) (g s : Int) : Bool := decide (pl (row_ f0 g) s < pl (row_ f0 g) (rd m g)) && wouldM f1 f2 m s g
/-- the first from j on, d of them, that a test takes -/
def blkS (p : Int → Bool) : Nat → Int → Option Int
 | 0, _ => none
 | d + 1, j => if p j = true then some j else blkS p d (j + 1)
def blkG (p : Int → Int → Bool) (S : Nat) : Nat → Int → Option (Int × Int)
 | 0, _ => none
 | d + 1, g => match blkS (p g) S 0 with
  | some s => some (g, s)
  | none => blkG p S d (g + 1)
theorem blkS_ok (p : Int → Bool) : ∀ (d : Nat) (j : Int), match blkS p d j with
  | some s => p s = true ∧ j ≤ s ∧ s < j + d
  | none => ∀ s : Int, j ≤ s → s < j + d → p s = false
 | 0, j => fun s h0 h1 => by omega
 | d + 1, j => by
  have ih := blkS_ok p d (j + 1)
  rw [blkS]
  by_cases h : p j = true
  ·rw [if_pos h]
   exact ⟨h, by omega, by omega⟩
  ·rw [if_neg h]
   cases hb : blkS p d (j + 1) with
   | some s =>
    rw [hb] at ih
    exact ⟨ih.1, by have := ih.2.1; omega, by have := ih.2.2; omega⟩
   | none =>
    rw [hb] at ih
    intro s h0 h1
    by_cases e : s = j
    ·subst e
     exact Bool.eq_false_iff.2 h
    ·exact ih s (by omega) (by omega)
theorem blkG_ok (p : Int → Int → Bool) (S : Nat) : ∀ (d : Nat) (g : Int), match blkG p S d g with
  | some (x, s) => p x s = true ∧ g ≤ x ∧ x < g + d ∧ 0 ≤ s ∧ s < S
  | none => ∀ x s : Int, g ≤ x → x < g + d → 0 ≤ s → s < S → p x s = false
 | 0, g => fun x s h0 h1 => by omega
 | d + 1, g => by
  have ih := blkG_ok p S d (g + 1)
  have hs := blkS_ok (p g) S 0
  rw [blkG]
  cases hb : blkS (p g) S 0 with
  | some s =>
   rw [hb] at hs
   exact ⟨hs.1, by omega, by omega, hs.2.1, by have := hs.2.2; omega⟩
  | none =>
   rw [hb] at hs
   dsimp only
   cases hq : blkG p S d (g + 1) with
   | some q =>
    obtain ⟨x, s⟩ := q
    rw [hq] at ih
    exact ⟨ih.1, by have := ih.2.1; omega, by have := ih.2.2.1; omega, ih.2.2.2⟩
   | none =>
    rw [hq] at ih
    intro x s h0 h1 h2 h3
    by_cases e : x = g
    ·subst e
     exact hs s h2 (by omega)
    ·exact ih x s (by omega) (by omega) h2 h3
def blockM (f0 f1 : List (List Int)) (f2 m : List Int) : Option (Int × Int) := blkG (blk f0 f1 f2 m) f1.length f0.length 0
structure Bd (f0 f1 : List (List Int)) (f2 m : List Int) : Prop where
 w : WOk f0 f1 f2 f0.length f1.length
 lg : f0.length ≤ 8
 ls : f1.length ≤ 8
 lm : m.length = f0.length
 lr : f2.length = f1.length
 low : ∀ x ∈ m, -1 ≤ x ∧ x < f1.length
theorem bd_of {f0 f1 : List (List Int)} {f2 m : List Int} (h : goodM f0 f1 f2 m = true) : Bd f0 f1 f2 m := by
 have h' := h
 unfold goodM at h'
 rw [Bool.and_eq_true, Bool.and_eq_true, Bool.and_eq_true, decide_eq_true_eq] at h'
 have hl := goodW_len h'.1
 refine ⟨wOk_of h'.1, by omega, by omega, by omega, by omega, fun x hx => ?_⟩
 have := allIn_mem h'.2.2.1 x hx
 rw [wrap_id (by omega) (by omega)] at this
 omega
theorem bd_at {f0 f1 : List (List Int)} {f2 m : List Int} (h : Bd f0 f1 f2 m) {g : Int} (h0 : 0 ≤ g) (h1 : g < m.length) : -1 ≤ rd m g ∧ rd m g < f1.length := by
 have hm := rd_mem (l := m) (k := g.toNat) (by omega)
 rw [show ((g.toNat : Nat) : Int) = g by omega] at hm
 exact h.low _ hm
theorem specBlock_l1 {f0 f1 : List (List Int)} {f2 m : List Int} (h : Bd f0 f1 f2 m) {g : Int} (h0 : 0 ≤ g) (h1 : g < f0.length) (R : Int × Int)
  (hR : Ev (fun k => spec_l12Block.l0 k m (f0.length : Int) (wrap64 (g + 1)) f0 f1 f2) R) (d : Nat) : ∀ (j : Int), 0 ≤ j → j + d = f1.length →
  Ev (fun k => spec_l12Block.l1 k m g (f0.length : Int) g (f1.length : Int) j f0 f1 f2) (match blkS (blk f0 f1 f2 m g) d j with
   | some s => (g, s)
   | none => R) := by
 have hg := h.lg
 have hs := h.ls
 have hm := h.lm
 have hr := h.lr
 have hp := h.w.pg g h0 h1
 have hpl := hp.len
 induction d with
 | zero =>
  intro j hj hd
  refine Ev.succ ?_
  simp only [spec_l12Block.l1, if_neg (show ¬ j < (f1.length : Int) by omega), blkS]
  exact hR
 | succ d ih =>
  intro j hj hd
  refine Ev.succ ?_
  have h' := ih (j + 1) (by omega) (by omega)
  have hps := h.w.ps j hj (by omega)
  have hpsl := hps.len
  simp only [spec_l12Block.l1, if_pos (show j < (f1.length : Int) by omega), if_pos h0, if_pos h1, rowL_is, wrap_id (show (-9223372036854775808 : Int) ≤ j + 1 by omega) (show (j + 1 ≤ 9223372036854775807) by omega)]
  refine Ev.bind (plEv j _ (by omega)) ?_
  simp only [if_pos (show g < (m.length : Int) by omega)]
  refine Ev.bind (plEv (rd m g) _ (by omega)) ?_
  rw [blkS]
  unfold blk at h' ⊢
  by_cases hlt : pl (row_ f0 g) j < pl (row_ f0 g) (rd m g)
  ·simp only [if_pos hlt, decide_eq_true hlt, Bool.true_and]
   refine Ev.bind (specWould_ev f0 f1 f2 m j g hj (by omega) (by omega) (by omega) (by omega)) ?_
   by_cases hw : wouldM f1 f2 m j g = true
   ·simp only [if_pos hw]
    exact Ev.now _
   ·simp only [if_neg hw]
    exact h'
  ·simp only [if_neg hlt, decide_eq_false hlt, Bool.false_and, Bool.false_eq_true, if_false]
   exact h'
theorem specBlock_l0 {f0 f1 : List (List Int)} {f2 m : List Int} (h : Bd f0 f1 f2 m) (d : Nat) : ∀ (g : Int), 0 ≤ g → g + d = f0.length →
  Ev (fun k => spec_l12Block.l0 k m (f0.length : Int) g f0 f1 f2) ((blkG (blk f0 f1 f2 m) f1.length d g).getD (-1, -1)) := by
 have hg := h.lg
 induction d with
 | zero =>
  intro g h0 hd
  refine Ev.succ ?_
  simp only [spec_l12Block.l0, if_neg (show ¬ g < (f0.length : Int) by omega), blkG]
  exact Ev.now _
 | succ d ih =>
  intro g h0 hd
  refine Ev.succ ?_
  have h' := ih (g + 1) (by omega) (by omega)
  simp only [spec_l12Block.l0, if_pos (show g < (f0.length : Int) by omega)]
  have := specBlock_l1 h h0 (by omega) _ (by rw [wrap_id (show (-9223372036854775808 : Int) ≤ g + 1 by omega) (show (g + 1 ≤ 9223372036854775807) by omega)]; exact h') f1.length 0 (by omega) (by omega)
  rw [blkG]
  cases hb : blkS (blk f0 f1 f2 m g) f1.length 0 with
  | some s =>
   rw [hb] at this
   exact this
  | none =>
   rw [hb] at this
   exact this
theorem specBlock_ev {f0 f1 : List (List Int)} {f2 m : List Int} (h : Bd f0 f1 f2 m) : Ev (fun k => spec_l12Block.f k f0 f1 f2 m) ((blockM f0 f1 f2 m).getD (-1, -1)) := specBlock_l0 h f0.length 0 (by omega) (by omega)
/-- the places of all groups' servers in their lists -/
def ranksGo (f0 : List (List Int)) : Int → List Int → List Int
 | _, [] => []
 | g, x :: r => pl (row_ f0 g) x :: ranksGo f0 (g + 1) r
theorem ranksGo_len (f0 : List (List Int)) : ∀ (l : List Int) (g : Int), (ranksGo f0 g l).length = l.length
 | [], _ => rfl
 | x :: r, g => by rw [ranksGo, List.length_cons, ranksGo_len f0 r, List.length_cons]
theorem ranksGo_at (f0 : List (List Int)) : ∀ (l : List Int) (g : Int) (j : Nat), j < l.length → rd (ranksGo f0 g l) j = pl (row_ f0 (g + j)) (rd l j)
 | [], _, j, h => by simp at h
 | x :: r, g, 0, _ => by
  show pl (row_ f0 g) x = pl (row_ f0 (g + 0)) x
  rw [Int.add_zero]
 | x :: r, g, j + 1, h => by
  have := ranksGo_at f0 r (g + 1) j (by simpa using h)
  rw [show g + 1 + (j : Int) = g + ((j + 1 : Nat) : Int) by omega] at this
  exact this
theorem implRanks_l {f0 f1 : List (List Int)} {f2 : List Int} (w : WOk f0 f1 f2 f0.length f1.length) (hg8 : f0.length ≤ 8) (hs8 : f1.length ≤ 8) (suf : List Int) : ∀ (pre out : List Int), ((pre ++ suf).length : Int) = f0.length → out.length ≤ pre.length → (∀ x ∈ suf, -1 ≤ x ∧ x < f1.length) →
  Ev (fun k => impl_ranks.l0 k out (pre ++ suf) ((pre ++ suf).length : Int) pre.length f0 f1 f2) (out ++ ranksGo f0 pre.length suf) := by
 induction suf with
 | nil =>
  intro pre out h ho hx
  refine Ev.succ ?_
  simp only [impl_ranks.l0, List.append_nil, Int.lt_irrefl, if_false, ranksGo]
  exact Ev.now _
 | cons x suf ih =>
  intro pre out h ho hx
  refine Ev.succ ?_
  rw [len_mid] at h ⊢
  have hxx := hx x (List.mem_cons_self ..)
  have := fun o ho => ih (pre ++ [x]) o (by rw [← app_one, len_mid]; exact h) ho (fun y hm => hx y (List.mem_cons_of_mem _ hm))
  rw [← app_one, len_mid, len_one] at this
  have hp := w.pg pre.length (by omega) (by omega)
  have h2 := this (out ++ [pl (row_ f0 pre.length) x]) (by simp only [List.length_append, List.length_singleton]; omega)
  rw [← app_one] at h2
  simp only [impl_ranks.l0, ranksGo]
  simp only [if_pos (show ((pre.length : Int) < pre.length + suf.length + 1) by omega), if_pos (show (0 : Int) ≤ pre.length by omega), len_mid, rd_mid, wrap_id (show (-9223372036854775808 : Int) ≤ pre.length + 1 by omega) (show ((pre.length : Int) + 1 ≤ 9223372036854775807) by omega), rowL_is]
  by_cases hn : x ≥ 0
  ·simp only [if_pos hn, if_pos (show (pre.length : Int) < (f0.length : Int) by omega)]
   refine Ev.bind (ixEv hp (by omega) hn hxx.2) ?_
   simp only [if_pos (show out.length < 17592186044416 by omega)]
   exact h2
  ·simp only [if_neg hn, if_pos (show out.length < 17592186044416 by omega)]
   rw [hp.pl_out (by omega)] at h2 ⊢
   exact h2
def ranksM (f0 : List (List Int)) (m : List Int) : List Int := ranksGo f0 0 m
theorem ranksM_len (f0 : List (List Int)) (m : List Int) : (ranksM f0 m).length = m.length := ranksGo_len f0 m 0
theorem ranksM_at (f0 : List (List Int)) (m : List Int) {g : Int} (h0 : 0 ≤ g) (h1 : g < m.length) : rd (ranksM f0 m) g = pl (row_ f0 g) (rd m g) := by
 have := ranksGo_at f0 m 0 g.toNat (by omega)
 rw [show (0 : Int) + ((g.toNat : Nat) : Int) = g by omega, show ((g.toNat : Nat) : Int) = g by omega] at this
 exact this
theorem implRanks_ev {f0 f1 : List (List Int)} {f2 m : List Int} (h : Bd f0 f1 f2 m) : Ev (fun k => impl_ranks.f k f0 f1 f2 m) (ranksM f0 m) := by
 have := implRanks_l h.w h.lg h.ls m [] [] (by have := h.lm; simp only [List.nil_append]; omega) (by simp) h.low
 exact this
theorem implBlock_l1 {f0 f1 : List (List Int)} {f2 m : List Int} (h : Bd f0 f1 f2 m) {g : Int} (h0 : 0 ≤ g) (h1 : g < f0.length) (R : Int × Int × Bool)
  (hR : Ev (fun k => impl_blocking.l0 k m (ranksM f0 m) (f0.length : Int) (wrap64 (g + 1)) f0 f1 f2) R) (d : Nat) : ∀ (j : Int), 0 ≤ j → j + d = f1.length →
  Ev (fun k => impl_blocking.l1 k m (ranksM f0 m) g (f0.length : Int) g (f1.length : Int) j f0 f1 f2) (match blkS (blk f0 f1 f2 m g) d j with
   | some s => (g, s, true)
   | none => R) := by
 have hg := h.lg
 have hs := h.ls
 have hm := h.lm
 have hr := h.lr
 have hp := h.w.pg g h0 h1
 have hpl := hp.len
 have hat := bd_at h h0 (show g < m.length by omega)
 induction d with
 | zero =>
  intro j hj hd
  refine Ev.succ ?_
  simp only [impl_blocking.l1, if_neg (show ¬ j < (f1.length : Int) by omega), blkS]
  exact hR
 | succ d ih =>
  intro j hj hd
  refine Ev.succ ?_
  have h' := ih (j + 1) (by omega) (by omega)
  simp only [impl_blocking.l1, if_pos (show j < (f1.length : Int) by omega), if_pos h0, if_pos h1, rowL_is, wrap_id (show (-9223372036854775808 : Int) ≤ j + 1 by omega) (show (j + 1 ≤ 9223372036854775807) by omega)]
  refine Ev.bind (ixEv hp (by omega) hj (by omega)) ?_
  simp only [ranksM_len, if_pos (show g < (m.length : Int) by omega), ranksM_at f0 m h0 (show g < m.length by omega)]
  rw [blkS]
  unfold blk at h' ⊢
  by_cases hlt : pl (row_ f0 g) j < pl (row_ f0 g) (rd m g)
  ·have hne : rd m g ≠ j := fun e => by rw [e] at hlt; omega
   simp only [if_neg (show ¬ pl (row_ f0 g) j ≥ pl (row_ f0 g) (rd m g) by omega), decide_eq_true hlt, Bool.true_and]
   refine Ev.bind (implTakes_ev h.w (by omega) (by omega) (by omega) h.low j g hj (by omega) h0 h1) ?_
   rw [takes_would h.w (by omega) hj (by omega) h0 h1 hne]
   by_cases hw : wouldM f1 f2 m j g = true
   ·simp only [if_pos hw]
    exact Ev.now _
   ·simp only [if_neg hw]
    exact h'
  ·simp only [if_pos (show pl (row_ f0 g) j ≥ pl (row_ f0 g) (rd m g) by omega), decide_eq_false hlt, Bool.false_and, Bool.false_eq_true, if_false]
   exact h'
theorem implBlock_l0 {f0 f1 : List (List Int)} {f2 m : List Int} (h : Bd f0 f1 f2 m) (d : Nat) : ∀ (g : Int), 0 ≤ g → g + d = f0.length →
  Ev (fun k => impl_blocking.l0 k m (ranksM f0 m) (f0.length : Int) g f0 f1 f2) (match blkG (blk f0 f1 f2 m) f1.length d g with
   | some p => (p.1, p.2, true)
   | none => (0, 0, false)) := by
 have hg := h.lg
 induction d with
 | zero =>
  intro g h0 hd
  refine Ev.succ ?_
  simp only [impl_blocking.l0, if_neg (show ¬ g < (f0.length : Int) by omega), blkG]
  exact Ev.now _
 | succ d ih =>
  intro g h0 hd
  refine Ev.succ ?_
  have h' := ih (g + 1) (by omega) (by omega)
  simp only [impl_blocking.l0, if_pos (show g < (f0.length : Int) by omega)]
  have := implBlock_l1 h h0 (by omega) _ (by rw [wrap_id (show (-9223372036854775808 : Int) ≤ g + 1 by omega) (show (g + 1 ≤ 9223372036854775807) by omega)]; exact h') f1.length 0 (by omega) (by omega)
  rw [blkG]
  cases hb : blkS (blk f0 f1 f2 m g) f1.length 0 with
  | some s =>
   rw [hb] at this
   exact this
  | none =>
   rw [hb] at this
   exact this
def blockR (f0 f1 : List (List Int)) (f2 m : List Int) : Int × Int × Bool := match blockM f0 f1 f2 m with
 | some p => (p.1, p.2, true)
 | none => (0, 0, false)
theorem implBlocking_ev {f0 f1 : List (List Int)} {f2 m : List Int} (h : Bd f0 f1 f2 m) : Ev (fun k => impl_blocking.f k f0 f1 f2 m) (blockR f0 f1 f2 m) := by
 unfold impl_blocking.f
 refine Ev.bind (implRanks_ev h) ?_
 exact implBlock_l0 h f0.length 0 (by omega) (by omega)
theorem block_low {f0 f1 : List (List Int)} {f2 m : List Int} {p : Int × Int} (h : blockM f0 f1 f2 m = some p) : blk f0 f1 f2 m p.1 p.2 = true ∧ 0 ≤ p.1 ∧ p.1 < f0.length ∧ 0 ≤ p.2 ∧ p.2 < f1.length := by
 have := blkG_ok (blk f0 f1 f2 m) f1.length f0.length 0
 unfold blockM at h
 rw [h] at this
 obtain ⟨x, s⟩ := p
 obtain ⟨h1, h2, h3, h4, h5⟩ := this
 exact ⟨h1, h2, by show x < _; omega, h4, h5⟩
def blockingIn (f0 f1 : List (List Int)) (f2 m : List Int) : Int × Int × Bool := if goodM f0 f1 f2 m = true then blockR f0 f1 f2 m else (0, 0, false)
theorem specBlockingIn_ev {f0 f1 : List (List Int)} {f2 : List Int} (ok : okW f0 f1 f2) (m : List Int) (hm : m.length ≤ 1048576) : Ev (fun k => spec_BlockingIn.f k f0 f1 f2 m) (blockingIn f0 f1 f2 m) := by
 unfold spec_BlockingIn.f blockingIn
 refine Ev.bind (specGoodM_ev ok m hm) ?_
 by_cases h : goodM f0 f1 f2 m = true
 ·simp only [if_pos h]
  refine Ev.bind (specBlock_ev (bd_of h)) ?_
  unfold blockR
  cases hb : blockM f0 f1 f2 m with
  | some p =>
   have := block_low hb
   simp only [Option.getD_some, if_neg (show ¬ p.1 < 0 by omega)]
   exact Ev.now _
  | none =>
   simp only [Option.getD_none, if_pos (show (-1 : Int) < 0 by omega)]
   exact Ev.now _
 ·simp only [if_neg h]
  exact Ev.now _
theorem implBlockingIn_ev {f0 f1 : List (List Int)} {f2 : List Int} (ok : okW f0 f1 f2) (m : List Int) (hm : m.length ≤ 1048576) : Ev (fun k => impl_BlockingIn.f k f0 f1 f2 m) (blockingIn f0 f1 f2 m) := by
 unfold impl_BlockingIn.f blockingIn
 refine Ev.bind (implGoodM_ev ok m hm) ?_
 by_cases h : goodM f0 f1 f2 m = true
 ·simp only [if_pos h]
  exact Ev.bind (implBlocking_ev (bd_of h)) (Ev.now _)
 ·simp only [if_neg h]
  exact Ev.now _
end Go.Proofs.Ytoipbblhmcpneaa.P

namespace Go.Proofs.Ytoipbblhmcpneaa.Pure
open Go.RowKit Go.Proofs.Ytoipbblhmcpneaa.P Go.Proofs.YtoipbblhmcpneaaW.PrintWords Go.Proofs.YtoipbblhmcpneaaW.PrintLast
set_option linter.unusedVariables false
set_option linter.unusedSimpArgs false
theorem FnExactBlockingIn : laws_FnExactBlockingIn.Pure := by
 intro s l hs _
 obtain ⟨⟨h0, h0'⟩, ⟨h1, h1'⟩, h2, h2'⟩ := hs
 refine Ev.rounds ?_
 unfold laws_FnExactBlockingIn.f
 by_cases hq : (l.length : Int) > 1048576
 ·simp only [if_pos hq]
  exact Ev.now _
 simp only [if_neg hq]
 have hl : l.length ≤ 1048576 := by omega
 obtain ⟨r, er, hr⟩ := szWishes_ev s.f0 s.f1 s.f2 h0 (fun x hx => (h0' x hx).1) h1 (fun x hx => (h1' x hx).1) h2
 refine Ev.bind er ?_
 by_cases h : r < 0
 ·simp only [if_pos h]
  exact Ev.now _
 ·simp only [if_neg h]
  have ok := hr h
  refine Ev.bind (toWishes_ev ok) ?_
  refine Ev.bind (toIntS_ev l hl) ?_
  refine Ev.bind (specBlockingIn_ev ok l hl) ?_
  refine Ev.bind (toWishes_ev ok) ?_
  refine Ev.bind (toIntS_ev l hl) ?_
  refine Ev.bind (implBlockingIn_ev ok l hl) ?_
  simp only [if_true, bne_self_eq_false]
  refine Ev.succ ?_
  simp only [laws_FnExactBlockingIn.j0, Bool.false_eq_true, if_false]
  refine Ev.bind (toWishes_ev ok) ?_
  refine Ev.bind (eqWishes_ev ok) ?_
  simp only [if_true]
  refine Ev.bind (toIntS_ev l hl) ?_
  refine Ev.bind (eqIntS_ev _ _ (by omega)) ?_
  simp only [decide_true, if_true]
  exact Ev.now _
end Go.Proofs.Ytoipbblhmcpneaa.Pure
