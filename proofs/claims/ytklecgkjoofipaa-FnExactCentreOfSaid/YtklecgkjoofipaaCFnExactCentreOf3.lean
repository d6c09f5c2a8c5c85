/- Functions, walks and plain lemmas that the law FnExactCentreOf reaches, part 3. -/
import Derived.Test.YtklecgkjoofipaaCFnExactCentreOf2
import Derived.WalkKit
import Derived.ProofKit
import Derived.OpenShut
import Derived.ChangeOld
import Derived.Below
import Derived.SizedLaws
import Derived.ChangeArms
import Derived.DataElems
import Derived.Deep.Draws
import Derived.Deep.AppendLies
import Derived.Maps.AppendAt
import Derived.OwnWalk
import Derived.Laws.BytesArg
import Derived.Laws.MakeOwn
import Derived.Laws.OwnMore
import Derived.Deep.OwnRows
import Derived.Tactics
import Derived.Lib.ConvBytes
import Derived.Laws.Slices
import Derived.KernelRfl
import Derived.RowKit3
import Derived.Deep.LoopGhost
import Derived.Deep.QuietTactic
import Derived.BigQuiet
import Derived.WideLaws
import Derived.Deep.DeepCutAuto
import Derived.Deep.CutBlock
import Derived.Deep.RegionHeld3
import Derived.Laws.Rows
import Derived.Lib.AppendStr
import Derived.ArgAppend
import Derived.Laws.IdiomCopy
import Derived.OrdersHeld
import Derived.Laws.BitsLemmas
import Derived.RowKit
import Derived.WalkSpells
import Derived.Lib.SliceRun
import Derived.Shelf.Abstract
import Derived.ShutString
import Derived.Test.YtklecgkjoofipaaWWords
import Derived.Test.YtklecgkjoofipaaWLast
import Derived.Test.YtklecgkjoofipaaWTab
import Derived.Test.YtklecgkjoofipaaWGuard
import Derived.Test.YtklecgkjoofipaaWMore
namespace Go.Proofs.Ytklecgkjoofipaa.P
open Go.RowKit Go.Proofs.YtklecgkjoofipaaW.PrintWords Go.Proofs.YtklecgkjoofipaaW.PrintLast
set_option linter.unusedVariables false
set_option linter.unusedSimpArgs false
-- all the shortest ways from a node, both sides
def farsIt (l : List S67) : Nat → List Int → List Int
  | 0, x => x
  | d + 1, x => farsIt l d (relaxM l x)
theorem farsIt_len (l : List S67) : ∀ (d : Nat) (x : List Int), (farsIt l d x).length = x.length
  | 0, _ => rfl
  | d + 1, x => by rw [farsIt, farsIt_len l d, relaxM_len]
def fars0 (n : Nat) (a : Int) : List Int := (List.replicate n (100000 : Int)).set a.toNat 0
theorem fars0_len (n : Nat) (a : Int) : (fars0 n a).length = n := by simp [fars0]
def farsM (n : Nat) (l : List S67) (a : Int) : List Int := farsIt l n (fars0 n a)
theorem farsM_len (n : Nat) (l : List S67) (a : Int) : (farsM n l a).length = n := by rw [farsM, farsIt_len, fars0_len]
theorem specFars_l1 (n : Nat) (hn : n ≤ 1000) (l : List S67) (hb : (l.length : Int) ≤ 1099511627776) (hx : ∀ x ∈ l, 0 ≤ x.f0 ∧ x.f0 < x.f1 ∧ x.f1 < n) (d : Nat) : ∀ (c : Nat) (x : List Int), c + d = n → x.length = n →
    Ev (fun k => spec_l9Fars.l1 k n l x c) (farsIt l d x) := by
  induction d with
  | zero =>
    intro c x h hl
    refine Ev.succ ?_
    simp only [spec_l9Fars.l1, if_neg (show ¬ (c : Int) < n by omega)]
    exact Ev.now _
  | succ d ih =>
    intro c x h hl
    refine Ev.succ ?_
    have := ih (c + 1) (relaxM l x) (by omega) (by rw [relaxM_len, hl])
    simp only [spec_l9Fars.l1, if_pos (show (c : Int) < n by omega), wrap_id (show (-9223372036854775808 : Int) ≤ c + 1 by omega) (show ((c : Int) + 1 ≤ 9223372036854775807) by omega)]
    refine Ev.bind (specRelax_ev l x hb (by omega) (by rw [hl]; exact hx)) ?_
    exact this
theorem implFars_l1 (n : Nat) (hn : n ≤ 1000) (l : List S67) (hb : (l.length : Int) ≤ 1099511627776) (hx : ∀ x ∈ l, 0 ≤ x.f0 ∧ x.f0 < x.f1 ∧ x.f1 < n) (d : Nat) : ∀ (c : Nat) (x : List Int), c + d = n → x.length = n →
    Ev (fun k => impl_fars.l1 k l x n c) (farsIt l d x) := by
  induction d with
  | zero =>
    intro c x h hl
    refine Ev.succ ?_
    simp only [impl_fars.l1, if_neg (show ¬ (c : Int) < n by omega)]
    exact Ev.now _
  | succ d ih =>
    intro c x h hl
    refine Ev.succ ?_
    have := ih (c + 1) (relaxM l x) (by omega) (by rw [relaxM_len, hl])
    simp only [impl_fars.l1, if_pos (show (c : Int) < n by omega), wrap_id (show (-9223372036854775808 : Int) ≤ c + 1 by omega) (show ((c : Int) + 1 ≤ 9223372036854775807) by omega)]
    refine Ev.bind (implRelax_ev l x hb (by omega) (by rw [hl]; exact hx)) ?_
    exact this
theorem rep_succ (c : Nat) (x : Int) : List.replicate c x ++ [x] = List.replicate (c + 1) x := by
  rw [List.replicate_succ']
theorem specFars_l0 (n : Nat) (hn : n ≤ 1000) (l : List S67) (a : Int) (R : List Int) (ha : 0 ≤ a) (ha1 : a < n) (hR : Ev (fun k => spec_l9Fars.l1 k n l (fars0 n a) 0) R) (d : Nat) : ∀ (c : Nat), c + d = n →
    Ev (fun k => spec_l9Fars.l0 k n l a (List.replicate c 100000) c) R := by
  induction d with
  | zero =>
    intro c h
    refine Ev.succ ?_
    have hc : c = n := by omega
    subst hc
    simp only [spec_l9Fars.l0, Int.lt_irrefl, if_false, if_pos ha, List.length_replicate, if_pos ha1]
    exact hR
  | succ d ih =>
    intro c h
    refine Ev.succ ?_
    have := ih (c + 1) (by omega)
    simp only [spec_l9Fars.l0, if_pos (show (c : Int) < n by omega), List.length_replicate, if_pos (show c < 17592186044416 by omega), wrap_id (show (-9223372036854775808 : Int) ≤ c + 1 by omega) (show ((c : Int) + 1 ≤ 9223372036854775807) by omega)]
    rw [rep_succ]
    exact this
theorem specFars_ev (n : Int) (l : List S67) (a : Int) (hn : n ≤ 1000) (hb : (l.length : Int) ≤ 1099511627776) (hx : ∀ x ∈ l, 0 ≤ x.f0 ∧ x.f0 < x.f1 ∧ x.f1 < n) (ha : 0 ≤ a) (ha1 : a < n) : Ev (fun k => spec_l9Fars.f k n l a) (farsM n.toNat l a) := by
  obtain ⟨m, rfl⟩ := Int.eq_ofNat_of_zero_le (show 0 ≤ n by omega)
  rw [Int.toNat_natCast]
  have := specFars_l0 m (by omega) l a _ ha ha1 (specFars_l1 m (by omega) l hb hx m 0 _ (by omega) (fars0_len m a)) m 0 (by omega)
  exact this
theorem implFars_l0 (n : Nat) (hn : n ≤ 1000) (l : List S67) (a : Int) (R : List Int) (ha : 0 ≤ a) (ha1 : a < n) (hR : Ev (fun k => impl_fars.l1 k l (fars0 n a) n 0) R) (d : Nat) : ∀ (c : Nat), c + d = n →
    Ev (fun k => impl_fars.l0 k n l a (List.replicate c 100000 ++ List.replicate d 0) n c) R := by
  induction d with
  | zero =>
    intro c h
    refine Ev.succ ?_
    have hc : c = n := by omega
    subst hc
    simp only [impl_fars.l0, Int.lt_irrefl, if_false, if_pos ha, List.replicate_zero, List.append_nil, List.length_replicate, if_pos ha1]
    exact hR
  | succ d ih =>
    intro c h
    refine Ev.succ ?_
    have := ih (c + 1) (by omega)
    have hl : ((List.replicate c (100000 : Int) ++ List.replicate (d + 1) (0 : Int)).length : Int) = n := by simp; omega
    simp only [impl_fars.l0, hl, if_pos (show (c : Int) < n by omega), if_pos (show (0 : Int) ≤ c by omega), wrap_id (show (-9223372036854775808 : Int) ≤ c + 1 by omega) (show ((c : Int) + 1 ≤ 9223372036854775807) by omega)]
    have hs := set_mid (List.replicate c (100000 : Int)) 0 100000 (List.replicate d 0)
    rw [List.length_replicate] at hs
    rw [List.replicate_succ, hs, app_one, rep_succ]
    exact this
theorem implFars_ev (n : Int) (l : List S67) (a : Int) (hn : n ≤ 1000) (hb : (l.length : Int) ≤ 1099511627776) (hx : ∀ x ∈ l, 0 ≤ x.f0 ∧ x.f0 < x.f1 ∧ x.f1 < n) (ha : 0 ≤ a) (ha1 : a < n) : Ev (fun k => impl_fars.f k n l a) (farsM n.toNat l a) := by
  obtain ⟨m, rfl⟩ := Int.eq_ofNat_of_zero_le (show 0 ≤ n by omega)
  rw [Int.toNat_natCast]
  unfold impl_fars.f
  simp only [Int.toNat_natCast, if_pos (show (0 : Int) ≤ (m : Int) by omega), if_pos (show m ≤ 35184372088832 by omega), Option.bind_some, List.length_replicate]
  have := implFars_l0 m (by omega) l a _ ha ha1 (implFars_l1 m (by omega) l hb hx m 0 _ (by omega) (fars0_len m a)) m 0 (by omega)
  exact this
theorem edge3 {n : Int} {l : List S67} (h : goodE n l = true) : ∀ x ∈ l, 0 ≤ x.f0 ∧ x.f0 < x.f1 ∧ x.f1 < n := fun x hm => ⟨(goodE_edge h x hm).1, (goodE_edge h x hm).2.1, (goodE_edge h x hm).2.2.1⟩
end Go.Proofs.Ytklecgkjoofipaa.P

namespace Go.Proofs.Ytklecgkjoofipaa.P
open Go.RowKit Go.Proofs.YtklecgkjoofipaaW.PrintWords Go.Proofs.YtklecgkjoofipaaW.PrintLast
set_option linter.unusedVariables false
set_option linter.unusedSimpArgs false
-- CentreOf, both sides
def eccM (x : List Int) (s : Int) : Int := x.foldl max s
def centreGo (n : Nat) (l : List S67) : Nat → Int → Int → Int → Int × Int × Bool
  | 0, _, b, f => (b, f, true)
  | d + 1, v, b, f => if eccM (farsM n l v) 0 < f then centreGo n l d (v + 1) v (eccM (farsM n l v) 0) else centreGo n l d (v + 1) b f
theorem specCentre_l1 (n : Int) (l : List S67) (b f v : Int) (R : Int × Int × Bool) (suf : List Int) : ∀ (pre : List Int) (s : Int), ((pre ++ suf).length : Int) ≤ 1099511627776 →
    Ev (fun k => if b < 0 then spec_CentreOf.l0 k n l v (eccM suf s) (wrap64 (v + 1)) else if eccM suf s < f then spec_CentreOf.l0 k n l v (eccM suf s) (wrap64 (v + 1)) else spec_CentreOf.l0 k n l b f (wrap64 (v + 1))) R →
    Ev (fun k => spec_CentreOf.l1 k n l b f v s (pre ++ suf) ((pre ++ suf).length : Int) pre.length) R := by
  induction suf with
  | nil =>
    intro pre s h hR
    refine Ev.succ ?_
    simp only [spec_CentreOf.l1, List.append_nil, Int.lt_irrefl, if_false]
    exact hR
  | cons x suf ih =>
    intro pre s h hR
    refine Ev.succ ?_
    rw [len_mid] at h ⊢
    have := ih (pre ++ [x]) (max s x) (by rw [← app_one, len_mid]; exact h) hR
    rw [← app_one, len_mid, len_one] at this
    simp only [spec_CentreOf.l1]
    simp only [if_pos (show ((pre.length : Int) < pre.length + suf.length + 1) by omega), if_pos (show (0 : Int) ≤ pre.length by omega), len_mid, rd_mid, wrap_id (show (-9223372036854775808 : Int) ≤ pre.length + 1 by omega) (show ((pre.length : Int) + 1 ≤ 9223372036854775807) by omega)]
    by_cases h1 : x > s
    · simp only [if_pos h1]
      rw [show max s x = x by omega] at this
      exact this
    · simp only [if_neg h1]
      rw [show max s x = s by omega] at this
      exact this
theorem implCentre_l1 (n : Int) (l : List S67) (b f v m v' : Int) (R : Int × Int × Bool) (suf : List Int) : ∀ (pre : List Int) (s : Int), ((pre ++ suf).length : Int) ≤ 1099511627776 →
    Ev (fun k => if eccM suf s < f then impl_CentreOf.l0 k n l v (eccM suf s) m (wrap64 (v' + 1)) else impl_CentreOf.l0 k n l b f m (wrap64 (v' + 1))) R →
    Ev (fun k => impl_CentreOf.l1 k n l b f v s m v' (pre ++ suf) ((pre ++ suf).length : Int) pre.length) R := by
  induction suf with
  | nil =>
    intro pre s h hR
    refine Ev.succ ?_
    simp only [impl_CentreOf.l1, List.append_nil, Int.lt_irrefl, if_false]
    exact hR
  | cons x suf ih =>
    intro pre s h hR
    refine Ev.succ ?_
    rw [len_mid] at h ⊢
    have := ih (pre ++ [x]) (max s x) (by rw [← app_one, len_mid]; exact h) hR
    rw [← app_one, len_mid, len_one] at this
    simp only [impl_CentreOf.l1]
    simp only [if_pos (show ((pre.length : Int) < pre.length + suf.length + 1) by omega), if_pos (show (0 : Int) ≤ pre.length by omega), len_mid, rd_mid, wrap_id (show (-9223372036854775808 : Int) ≤ pre.length + 1 by omega) (show ((pre.length : Int) + 1 ≤ 9223372036854775807) by omega), mx_is]
    exact this
theorem specCentre_l0 (n : Nat) (hn : n ≤ 1000) (l : List S67) (hb : (l.length : Int) ≤ 1099511627776) (hx : ∀ x ∈ l, 0 ≤ x.f0 ∧ x.f0 < x.f1 ∧ x.f1 < n) (d : Nat) : ∀ (c : Nat) (b f : Int), c + d = n → 0 ≤ b →
    Ev (fun k => spec_CentreOf.l0 k n l b f c) (centreGo n l d c b f) := by
  induction d with
  | zero =>
    intro c b f h hb0
    refine Ev.succ ?_
    simp only [spec_CentreOf.l0, if_neg (show ¬ (c : Int) < n by omega), centreGo]
    exact Ev.now _
  | succ d ih =>
    intro c b f h hb0
    refine Ev.succ ?_
    simp only [spec_CentreOf.l0, if_pos (show (c : Int) < n by omega)]
    refine Ev.bind (specFars_ev n l c (by omega) hb hx (by omega) (by omega)) ?_
    rw [Int.toNat_natCast]
    have hl := farsM_len n l c
    refine specCentre_l1 n l b f c _ (farsM n l c) [] 0 (by rw [List.nil_append, hl]; omega) ?_
    simp only [if_neg (show ¬ b < 0 by omega), wrap_id (show (-9223372036854775808 : Int) ≤ c + 1 by omega) (show ((c : Int) + 1 ≤ 9223372036854775807) by omega), centreGo]
    by_cases h1 : eccM (farsM n l c) 0 < f
    · simp only [if_pos h1]
      exact ih (c + 1) _ _ (by omega) (by omega)
    · simp only [if_neg h1]
      exact ih (c + 1) _ _ (by omega) hb0
theorem implCentre_l0 (n : Nat) (hn : n ≤ 1000) (l : List S67) (hb : (l.length : Int) ≤ 1099511627776) (hx : ∀ x ∈ l, 0 ≤ x.f0 ∧ x.f0 < x.f1 ∧ x.f1 < n) (d : Nat) : ∀ (c : Nat) (b f : Int), c + d = n →
    Ev (fun k => impl_CentreOf.l0 k n l b f n c) (centreGo n l d c b f) := by
  induction d with
  | zero =>
    intro c b f h
    refine Ev.succ ?_
    simp only [impl_CentreOf.l0, if_neg (show ¬ (c : Int) < n by omega), centreGo]
    exact Ev.now _
  | succ d ih =>
    intro c b f h
    refine Ev.succ ?_
    simp only [impl_CentreOf.l0, if_pos (show (c : Int) < n by omega)]
    refine Ev.bind (implFars_ev n l c (by omega) hb hx (by omega) (by omega)) ?_
    rw [Int.toNat_natCast]
    have hl := farsM_len n l c
    refine implCentre_l1 n l b f c n c _ (farsM n l c) [] 0 (by rw [List.nil_append, hl]; omega) ?_
    simp only [wrap_id (show (-9223372036854775808 : Int) ≤ c + 1 by omega) (show ((c : Int) + 1 ≤ 9223372036854775807) by omega), centreGo]
    by_cases h1 : eccM (farsM n l c) 0 < f
    · simp only [if_pos h1]
      exact ih (c + 1) _ _ (by omega)
    · simp only [if_neg h1]
      exact ih (c + 1) _ _ (by omega)
def capped (x : List Int) : Prop := ∀ y ∈ x, y ≤ 100000
theorem capped_set {x : List Int} (h : capped x) (i : Nat) (y z : Int) (hz : z ≤ 100000) : capped (x.set i (min z y)) := by
  intro w hw
  rcases List.mem_or_eq_of_mem_set hw with h1 | h1
  · exact h w h1
  · omega
theorem rd_capped {x : List Int} (h : capped x) (i : Int) : rd x i ≤ 100000 := by
  unfold rd
  rw [List.getD_eq_getElem?_getD]
  cases hx : x[i.toNat]? with
  | none => simp
  | some y => exact h y (List.mem_of_getElem? hx)
theorem relStep_capped {old out : List Int} (e : S67) (h : capped out) : capped (relStep old out e) := by
  have h1 := capped_set h e.f0.toNat (wrap64 (rd old e.f1 + e.f2)) (rd out e.f0) (rd_capped h e.f0)
  exact capped_set h1 _ _ _ (rd_capped h1 _)
theorem relFold_capped {old : List Int} : ∀ (l : List S67) (out : List Int), capped out → capped (l.foldl (relStep old) out)
  | [], _, h => h
  | e :: l, out, h => relFold_capped l _ (relStep_capped e h)
theorem farsIt_capped (l : List S67) : ∀ (d : Nat) (x : List Int), capped x → capped (farsIt l d x)
  | 0, _, h => h
  | d + 1, x, h => farsIt_capped l d _ (relFold_capped l x h)
theorem farsM_capped (n : Nat) (l : List S67) (a : Int) : capped (farsM n l a) := by
  refine farsIt_capped l n _ fun y hy => ?_
  rcases List.mem_or_eq_of_mem_set hy with h1 | h1
  · rw [List.eq_of_mem_replicate h1]
    omega
  · omega
theorem ecc_le : ∀ (x : List Int) (s : Int), capped x → s ≤ 100000 → eccM x s ≤ 100000
  | [], _, _, h => h
  | y :: x, s, h, hs => ecc_le x (max s y) (fun z hz => h z (List.mem_cons_of_mem _ hz)) (by have := h y (List.mem_cons_self ..); omega)
def centreOf (n : Int) (l : List S67) : Int × Int × Bool := if goodE n l = true then centreGo n.toNat l n.toNat 0 0 100001 else (0, 0, false)
theorem implCentreOf_ev (n : Int) (l : List S67) (hl : l.length ≤ 1048576) : Ev (fun k => impl_CentreOf.f k n l) (centreOf n l) := by
  unfold impl_CentreOf.f centreOf
  refine Ev.bind (implGoodE_ev n l hl) ?_
  by_cases h : goodE n l = true
  · have hn := goodE_n h
    simp only [if_pos h]
    obtain ⟨m, rfl⟩ := Int.eq_ofNat_of_zero_le (show 0 ≤ n by omega)
    rw [Int.toNat_natCast]
    exact implCentre_l0 m (by omega) l (by omega) (edge3 h) m 0 0 100001 (by omega)
  · simp only [if_neg h]
    exact Ev.now _
theorem specCentreOf_ev (n : Int) (l : List S67) (hl : l.length ≤ 1048576) : Ev (fun k => spec_CentreOf.f k n l) (centreOf n l) := by
  unfold spec_CentreOf.f centreOf
  refine Ev.bind (specGoodE_ev n l hl) ?_
  by_cases h : goodE n l = true
  · have hn := goodE_n h
    have he := edge3 h
    simp only [if_pos h]
    obtain ⟨m, rfl⟩ := Int.eq_ofNat_of_zero_le (show 0 ≤ n by omega)
    rw [Int.toNat_natCast]
    obtain ⟨d, rfl⟩ : ∃ d, m = d + 1 := ⟨m - 1, by omega⟩
    refine Ev.succ ?_
    simp only [spec_CentreOf.l0, if_pos (show (0 : Int) < ((d + 1 : Nat) : Int) by omega)]
    refine Ev.bind (specFars_ev ((d + 1 : Nat) : Int) l 0 (by omega) (by omega) he (by omega) (by omega)) ?_
    rw [Int.toNat_natCast]
    have hlen := farsM_len (d + 1) l 0
    refine specCentre_l1 _ l (-1) 0 0 _ (farsM (d + 1) l 0) [] 0 (by rw [List.nil_append, hlen]; omega) ?_
    have hc := ecc_le _ 0 (farsM_capped (d + 1) l 0) (by omega)
    simp only [if_pos (show (-1 : Int) < 0 by omega), centreGo, if_pos (show eccM (farsM (d + 1) l 0) 0 < 100001 by omega)]
    rw [wrap_id (show (-9223372036854775808 : Int) ≤ 0 + 1 by omega) (show ((0 : Int) + 1 ≤ 9223372036854775807) by omega)]
    exact specCentre_l0 (d + 1) (by omega) l (by omega) he d 1 0 (eccM (farsM (d + 1) l 0) 0) (by omega) (by omega)
  · simp only [if_neg h]
    exact Ev.now _
end Go.Proofs.Ytklecgkjoofipaa.P

namespace Go.Proofs.Ytklecgkjoofipaa.Pure
open Go.RowKit Go.Proofs.Ytklecgkjoofipaa.P Go.Proofs.YtklecgkjoofipaaW.PrintWords Go.Proofs.YtklecgkjoofipaaW.PrintLast
set_option linter.unusedVariables false
set_option linter.unusedSimpArgs false
theorem FnExactCentreOf : laws_FnExactCentreOf.Pure := by
  intro a0 l _ ⟨hm, _⟩
  refine Ev.rounds ?_
  unfold laws_FnExactCentreOf.f
  rw [szEdgeS_is l hm 1048576 (by omega) (by omega)]
  simp only [Option.bind_some]
  by_cases h : (1048576 : Int) - l.length < 0
  · simp only [if_pos h]
    exact Ev.now _
  · have hl : l.length ≤ 1048576 := by omega
    have hl2 : (l.map cvEdge).length ≤ 1048576 := by simpa using hl
    simp only [if_neg h]
    refine Ev.bind (toEdgeS_ev l hl) ?_
    refine Ev.bind (specCentreOf_ev a0 _ hl2) ?_
    refine Ev.bind (toEdgeS_ev l hl) ?_
    refine Ev.bind (implCentreOf_ev a0 _ hl2) ?_
    simp only [if_true, bne_self_eq_false]
    refine Ev.succ ?_
    simp only [laws_FnExactCentreOf.j0, Bool.false_eq_true, if_false]
    refine Ev.bind (toEdgeS_ev l hl) ?_
    refine Ev.bind (eqEdgeS_ev _ _ (by omega)) ?_
    simp only [decide_true, if_true]
    exact Ev.now _
end Go.Proofs.Ytklecgkjoofipaa.Pure
