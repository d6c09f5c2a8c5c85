/- Labels that go round by edges: after as many rounds as there are spots each spot has the least one that is joined with it. -/
import Derived.Test.YtpbnpepikkocmaaQBase
namespace Go.Proofs.Ytpbnpepikkocmaa.P
open Go.RowKit Go.Proofs.YtpbnpepikkocmaaW.PrintWords Go.Proofs.YtpbnpepikkocmaaW.PrintLast
set_option linter.unusedVariables false
set_option linter.unusedSimpArgs false
def at_ (out : List Int) (v : Nat) : Int := out.getD v 0
def stepG (out : List Int) (e : Nat × Nat) : List Int := (out.set e.1 (min (at_ out e.1) (at_ out e.2))).set e.2 (min (at_ out e.1) (at_ out e.2))
def roundG (E : List (Nat × Nat)) (out : List Int) : List Int := E.foldl stepG out
def iterG (E : List (Nat × Nat)) (out : List Int) : Nat → List Int
  | 0 => out
  | k + 1 => roundG E (iterG E out k)
def InG (n : Nat) (E : List (Nat × Nat)) : Prop := ∀ e ∈ E, e.1 < n ∧ e.2 < n
inductive Conn (E : List (Nat × Nat)) : Nat → Nat → Prop
  | refl (v : Nat) : Conn E v v
  | fwd {v a b : Nat} : Conn E v a → (a, b) ∈ E → Conn E v b
  | bwd {v a b : Nat} : Conn E v b → (a, b) ∈ E → Conn E v a
theorem Conn.trans {E : List (Nat × Nat)} {u v w : Nat} (h : Conn E u v) (k : Conn E v w) : Conn E u w := by
  induction k with
  | refl => exact h
  | fwd _ he ih => exact .fwd ih he
  | bwd _ he ih => exact .bwd ih he
theorem Conn.symm {E : List (Nat × Nat)} {u v : Nat} (h : Conn E u v) : Conn E v u := by
  induction h with
  | refl => exact .refl _
  | fwd _ he ih => exact (Conn.bwd (.refl _) he).trans ih
  | bwd _ he ih => exact (Conn.fwd (.refl _) he).trans ih
theorem Conn.lt {n : Nat} {E : List (Nat × Nat)} (hE : InG n E) {u v : Nat} (h : Conn E u v) (hu : u < n) : v < n := by
  induction h with
  | refl => exact hu
  | fwd _ he _ => exact (hE _ he).2
  | bwd _ he _ => exact (hE _ he).1
theorem stepG_len (out : List Int) (e : Nat × Nat) : (stepG out e).length = out.length := by simp [stepG]
theorem at_set (out : List Int) (a v : Nat) (x : Int) (ha : a < out.length) : at_ (out.set a x) v = if v = a then x else at_ out v := by
  unfold at_
  rw [List.getD_eq_getElem?_getD, List.getD_eq_getElem?_getD]
  by_cases h : v = a
  · subst h; rw [List.getElem?_set_self ha, if_pos rfl]; rfl
  · rw [List.getElem?_set_ne (fun e => h e.symm), if_neg h]
theorem stepG_at (out : List Int) (e : Nat × Nat) (h1 : e.1 < out.length) (h2 : e.2 < out.length) (v : Nat) : at_ (stepG out e) v = if v = e.1 ∨ v = e.2 then min (at_ out e.1) (at_ out e.2) else at_ out v := by
  unfold stepG
  rw [at_set _ _ _ _ (by simpa using h2), at_set _ _ _ _ h1]
  by_cases h : v = e.2
  · simp [h]
  · by_cases h' : v = e.1 <;> simp [h, h']
theorem stepG_le (out : List Int) (e : Nat × Nat) (h1 : e.1 < out.length) (h2 : e.2 < out.length) (v : Nat) : at_ (stepG out e) v ≤ at_ out v := by
  rw [stepG_at out e h1 h2]
  split
  · rename_i h
    rcases h with rfl | rfl <;> omega
  · exact Int.le_refl _
theorem roundG_len : ∀ (E : List (Nat × Nat)) (out : List Int), (roundG E out).length = out.length
  | [], _ => rfl
  | e :: E, out => by
    show (roundG E (stepG out e)).length = _
    rw [roundG_len E, stepG_len]
theorem roundG_le : ∀ (E : List (Nat × Nat)) (out : List Int), InG out.length E → ∀ v, at_ (roundG E out) v ≤ at_ out v
  | [], _, _, v => Int.le_refl _
  | e :: E, out, h, v => by
    have he := h e (by simp)
    have h1 := roundG_le E (stepG out e) (by rw [stepG_len]; exact fun x hx => h x (by simp [hx])) v
    have h2 := stepG_le out e he.1 he.2 v
    show at_ (roundG E (stepG out e)) v ≤ _
    omega
/-- Behind a round both ends of an edge have no more than either had. -/
theorem roundG_edge : ∀ (E : List (Nat × Nat)) (out : List Int), InG out.length E → ∀ a b, (a, b) ∈ E → at_ (roundG E out) a ≤ at_ out b ∧ at_ (roundG E out) b ≤ at_ out a
  | [], _, _, a, b, h => by simp at h
  | e :: E, out, h, a, b, hab => by
    have he := h e (by simp)
    have hE : InG (stepG out e).length E := by rw [stepG_len]; exact fun x hx => h x (by simp [hx])
    show at_ (roundG E (stepG out e)) a ≤ _ ∧ at_ (roundG E (stepG out e)) b ≤ _
    rcases List.mem_cons.1 hab with rfl | hab
    · have ha := roundG_le E (stepG out (a, b)) hE a
      have hb := roundG_le E (stepG out (a, b)) hE b
      rw [stepG_at out (a, b) he.1 he.2] at ha hb
      simp only [true_or, or_true, if_true] at ha hb
      omega
    · have h1 := roundG_edge E (stepG out e) hE a b hab
      have h2 := stepG_le out e he.1 he.2 a
      have h3 := stepG_le out e he.1 he.2 b
      omega
theorem iterG_len (E : List (Nat × Nat)) (out : List Int) : ∀ k, (iterG E out k).length = out.length
  | 0 => rfl
  | k + 1 => by simp only [iterG]; rw [roundG_len, iterG_len E out k]
/-- Each label is a spot that is joined. -/
def LabG (E : List (Nat × Nat)) (out : List Int) : Prop := ∀ v, v < out.length → ∃ u : Nat, at_ out v = u ∧ Conn E v u
theorem stepG_lab {E : List (Nat × Nat)} {out : List Int} (e : Nat × Nat) (he : e ∈ E) (h1 : e.1 < out.length) (h2 : e.2 < out.length) (h : LabG E out) : LabG E (stepG out e) := by
  intro v hv
  rw [stepG_len] at hv
  rw [stepG_at out e h1 h2]
  split
  · rename_i hve
    obtain ⟨x, y⟩ := e
    obtain ⟨u1, e1, c1⟩ := h x h1
    obtain ⟨u2, e2, c2⟩ := h y h2
    have cxy : Conn E x y := .fwd (.refl _) he
    have cv : Conn E v x ∧ Conn E v y := by
      rcases hve with rfl | rfl
      · exact ⟨.refl _, cxy⟩
      · exact ⟨cxy.symm, .refl _⟩
    simp only
    rw [e1, e2]
    rcases Int.le_total (u1 : Int) u2 with hle | hle
    · exact ⟨u1, by omega, cv.1.trans c1⟩
    · exact ⟨u2, by omega, cv.2.trans c2⟩
  · exact h v hv
theorem foldl_lab {E : List (Nat × Nat)} : ∀ (D : List (Nat × Nat)) (out : List Int), (∀ e ∈ D, e ∈ E) → InG out.length D → LabG E out → LabG E (D.foldl stepG out)
  | [], _, _, _, h => h
  | e :: D, out, hD, hin, h => by
    have he := hin e (by simp)
    exact foldl_lab D (stepG out e) (fun x hx => hD x (by simp [hx])) (by rw [stepG_len]; exact fun x hx => hin x (by simp [hx])) (stepG_lab e (hD e (by simp)) he.1 he.2 h)
theorem iterG_lab {E : List (Nat × Nat)} {out : List Int} (hin : InG out.length E) (h : LabG E out) : ∀ k, LabG E (iterG E out k)
  | 0 => h
  | k + 1 => foldl_lab E _ (fun _ he => he) (by rw [iterG_len]; exact hin) (iterG_lab hin h k)
/-- How many spots have at most m. -/
def cntG (out : List Int) (m : Int) : Nat := (List.range out.length).countP fun v => decide (at_ out v ≤ m)
theorem countP_mono {α : Type} (p q : α → Bool) (l : List α) (h : ∀ x ∈ l, p x = true → q x = true) : l.countP p ≤ l.countP q := List.countP_mono_left h
theorem countP_lt {α : Type} (p q : α → Bool) : ∀ (l : List α), (∀ x ∈ l, p x = true → q x = true) → (∃ x ∈ l, p x = false ∧ q x = true) → l.countP p < l.countP q
  | [], _, ⟨x, hx, _⟩ => by simp at hx
  | y :: l, h, ⟨x, hx, hp, hq⟩ => by
    have h1 := countP_mono p q l (fun z hz => h z (by simp [hz]))
    rw [List.countP_cons, List.countP_cons]
    rcases List.mem_cons.1 hx with rfl | hx
    · simp only [hp, hq, if_true, Bool.false_eq_true, if_false]
      omega
    · have h2 := countP_lt p q l (fun z hz => h z (by simp [hz])) ⟨x, hx, hp, hq⟩
      have h3 := h y (by simp)
      cases hy : p y with
      | false => simp only [Bool.false_eq_true, if_false]; omega
      | true => simp only [h3 hy, if_true]; omega
/-- The spots that have at most m: all that are joined with m, or they grow. -/
theorem spread_one {E : List (Nat × Nat)} {out : List Int} (hin : InG out.length E) (m : Nat) (hm : at_ out m ≤ m) (hmn : m < out.length) :
    (∀ v, Conn E m v → at_ out v ≤ m) ∨ cntG out m < cntG (roundG E out) m := by
  by_cases hc : ∀ a b, (a, b) ∈ E → (at_ out a ≤ m ↔ at_ out b ≤ m)
  · left
    intro v hv
    induction hv with
    | refl => exact hm
    | fwd _ he ih => exact (hc _ _ he).1 ih
    | bwd _ he ih => exact (hc _ _ he).2 ih
  · right
    have hc2 : ∃ a b, (a, b) ∈ E ∧ ¬ (at_ out a ≤ m ↔ at_ out b ≤ m) := Classical.byContradiction fun hn => hc fun a b he => Classical.byContradiction fun h => hn ⟨a, b, he, h⟩
    obtain ⟨a, b, he, hne⟩ := hc2
    have hlen := roundG_len E out
    unfold cntG
    rw [hlen]
    have hab := hin _ he
    have hr := roundG_edge E out hin a b he
    refine countP_lt _ _ _ (fun v _ hv => ?_) ?_
    · simp only [decide_eq_true_eq] at hv ⊢
      have := roundG_le E out hin v
      omega
    · by_cases ha : at_ out a ≤ m
      · have hb : ¬ at_ out b ≤ m := fun hb => hne ⟨fun _ => hb, fun _ => ha⟩
        exact ⟨b, List.mem_range.2 hab.2, by simpa using hb, by simp only [decide_eq_true_eq]; omega⟩
      · have hb : at_ out b ≤ m := Classical.byContradiction fun hb => hne ⟨fun h => absurd h ha, fun h => absurd h hb⟩
        exact ⟨a, List.mem_range.2 hab.1, by simpa using ha, by simp only [decide_eq_true_eq]; omega⟩
theorem iterG_le {E : List (Nat × Nat)} {out : List Int} (hin : InG out.length E) (v : Nat) (k : Nat) : at_ (iterG E out (k + 1)) v ≤ at_ (iterG E out k) v :=
  roundG_le E _ (by rw [iterG_len]; exact hin) v
theorem spread_all {E : List (Nat × Nat)} {out : List Int} (hin : InG out.length E) (m : Nat) (hm : at_ out m ≤ m) (hmn : m < out.length) : ∀ k, at_ (iterG E out k) m ≤ m ∧ ((∀ v, Conn E m v → at_ (iterG E out k) v ≤ m) ∨ k + 1 ≤ cntG (iterG E out k) m)
  | 0 => by
    refine ⟨hm, .inr ?_⟩
    have : 0 < cntG out m := by
      unfold cntG
      rw [List.countP_pos_iff]
      exact ⟨m, List.mem_range.2 hmn, by simpa using hm⟩
    show 0 + 1 ≤ cntG out m
    omega
  | k + 1 => by
    obtain ⟨h1, h2⟩ := spread_all hin m hm hmn k
    have hin2 : InG (iterG E out k).length E := by rw [iterG_len]; exact hin
    refine ⟨Int.le_trans (iterG_le hin m k) h1, ?_⟩
    rcases h2 with h2 | h2
    · exact .inl fun v hv => Int.le_trans (iterG_le hin v k) (h2 v hv)
    · rcases spread_one hin2 m h1 (by rw [iterG_len]; exact hmn) with h3 | h3
      · exact .inl fun v hv => Int.le_trans (iterG_le hin v k) (h3 v hv)
      · right
        show k + 1 + 1 ≤ cntG (roundG E (iterG E out k)) m
        omega
theorem spread_done {E : List (Nat × Nat)} {out : List Int} (hin : InG out.length E) (m : Nat) (hm : at_ out m ≤ m) (hmn : m < out.length) {k : Nat} (hk : out.length ≤ k + 1) : ∀ v, Conn E m v → at_ (iterG E out k) v ≤ m := by
  rcases (spread_all hin m hm hmn k).2 with h | h
  · exact h
  · intro v hv
    refine Classical.byContradiction fun hn => ?_
    have hv2 := hv.lt hin hmn
    have : cntG (iterG E out k) m < (List.range out.length).countP (fun _ => true) := by
      unfold cntG
      rw [iterG_len]
      refine countP_lt _ _ _ (fun _ _ _ => rfl) ⟨v, List.mem_range.2 hv2, by simpa using hn, rfl⟩
    rw [show (List.range out.length).countP (fun _ => true) = out.length by simp] at this
    omega
/-- The spots' own numbers. -/
def own0 (n : Nat) : List Int := (List.range n).map fun (i : Nat) => (i : Int)
theorem own0_len (n : Nat) : (own0 n).length = n := by simp [own0]
theorem own0_at {n v : Nat} (h : v < n) : at_ (own0 n) v = v := by
  unfold at_ own0
  rw [List.getD_eq_getElem?_getD, List.getElem?_map, List.getElem?_range h]
  rfl
/-- The groups: to each spot the least one that edges lead to from it. -/
def grp (n : Nat) (E : List (Nat × Nat)) : List Int := iterG E (own0 n) n
theorem grp_len (n : Nat) (E : List (Nat × Nat)) : (grp n E).length = n := by unfold grp; rw [iterG_len, own0_len]
theorem grp_ok {n : Nat} {E : List (Nat × Nat)} (hE : InG n E) {v : Nat} (hv : v < n) : ∃ u : Nat, at_ (grp n E) v = u ∧ Conn E v u ∧ u < n ∧ ∀ m, Conn E v m → u ≤ m := by
  have hin : InG (own0 n).length E := by rw [own0_len]; exact hE
  have hlab : LabG E (own0 n) := fun v hv => by
    rw [own0_len] at hv
    exact ⟨v, own0_at hv, .refl _⟩
  obtain ⟨u, e, c⟩ := iterG_lab hin hlab n v (by rw [iterG_len, own0_len]; exact hv)
  refine ⟨u, e, c, c.lt hE hv, fun m hm => ?_⟩
  have hmn := hm.lt hE hv
  have := spread_done hin m (by rw [own0_at hmn]; exact Int.le_refl _) (by rw [own0_len]; exact hmn) (k := n) (by rw [own0_len]; omega) v hm.symm
  rw [e] at this
  omega
/-- From as many rounds on as there are spots nothing changes. -/
theorem iterG_fix {n : Nat} {E : List (Nat × Nat)} (hE : InG n E) : roundG E (grp n E) = grp n E := by
  have hin : InG (own0 n).length E := by rw [own0_len]; exact hE
  apply List.ext_getElem?
  intro v
  by_cases hv : v < n
  · have l1 : v < (roundG E (grp n E)).length := by rw [roundG_len, grp_len]; exact hv
    have l2 : v < (grp n E).length := by rw [grp_len]; exact hv
    obtain ⟨u, e, c, hu, _⟩ := grp_ok hE hv
    have hlab : LabG E (own0 n) := fun v hv => by
      rw [own0_len] at hv
      exact ⟨v, own0_at hv, .refl _⟩
    obtain ⟨u2, e2, c2⟩ := iterG_lab hin hlab (n + 1) v (by rw [iterG_len, own0_len]; exact hv)
    have e2' : at_ (roundG E (grp n E)) v = u2 := e2
    obtain ⟨u3, e3, _, _, h3⟩ := grp_ok hE hv
    have h4 := roundG_le E (grp n E) (by rw [grp_len]; exact hE) v
    have h5 := h3 u2 c2
    have : at_ (roundG E (grp n E)) v = at_ (grp n E) v := by
      rw [e2', e3]
      rw [e2', e3] at h4
      omega
    unfold at_ at this
    rw [List.getD_eq_getElem?_getD, List.getD_eq_getElem?_getD, List.getElem?_eq_getElem l1, List.getElem?_eq_getElem l2] at this
    rw [List.getElem?_eq_getElem l1, List.getElem?_eq_getElem l2]
    exact congrArg some this
  · rw [List.getElem?_eq_none (by rw [roundG_len, grp_len]; omega), List.getElem?_eq_none (by rw [grp_len]; omega)]

end Go.Proofs.Ytpbnpepikkocmaa.P
