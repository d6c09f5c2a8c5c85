/- What reads as data of a type reads by a kind of the print: numbers, slices, structs of two and of three fields. Plain lemmas over any program. -/
import Derived.WalkKit
import Derived.ProofKit
import Derived.OpenShut
import Derived.ChangeOld
import Derived.Below
import Derived.SizedLaws
import Derived.ChangeArms
import Derived.DataElems
import Derived.Test.YtcbofebikbbknaaWWords
namespace Go.Proofs.YtcbofebikbbknaaOpen
open Go.ChangeShapes Go.WideShapes Go.ChangeAt Go.RowKit Go.Proofs.YtcbofebikbbknaaW.PrintWords
variable {H : Type} {enc : TypeId × Value → H} {P : Program} {W : World}

/-- Whatever reads as data of type t reads by the kind d, and is as wf says. -/
def Opens {H : Type} (enc : TypeId × Value → H) (P : Program) (W : World) (t : TypeId) {α : Type} (d : Kd α) (wf : α → Prop) : Prop :=
  ∀ (fuel : Nat) (cs : List Value) (x : DataW H × List MemPlace), DataW.trod enc P W 0 (fun _ => true) true fuel t cs = some x → ∃ a, d.K W a cs ∧ wf a

theorem opens_int {t : TypeId} {k : IntKind} (hu : P.underlying t = some (.int k)) : Opens enc P W t (Kd.int k) (fun n => (Lit.int k n).wf = true) := by
  intro fuel cs x h
  obtain ⟨n, rfl, _, hw⟩ := DataW.trod_int hu h
  exact ⟨n, rfl, hw⟩

theorem list_of {α : Type} {Q : Nat → α → Prop} : ∀ (n : Nat), (∀ i, i < n → ∃ a, Q i a) → ∃ l : List α, l.length = n ∧ ∀ i a, l[i]? = some a → Q i a
  | 0, _ => ⟨[], rfl, fun i a h => by simp at h⟩
  | n + 1, h => by
    obtain ⟨l, hl, hq⟩ := list_of n (fun i hi => h i (by omega))
    obtain ⟨a, ha⟩ := h n (by omega)
    refine ⟨l ++ [a], by simp [hl], fun i b hb => ?_⟩
    by_cases hi : i < l.length
    · rw [List.getElem?_append_left hi] at hb
      exact hq i b hb
    · rw [List.getElem?_append_right (by omega)] at hb
      have hz : i - l.length = 0 := by
        by_cases hz : i - l.length = 0
        · exact hz
        · rw [List.getElem?_eq_none (by simp; omega)] at hb
          cases hb
      rw [hz] at hb
      simp only [List.getElem?_cons_zero, Option.some.injEq] at hb
      subst hb
      have : i = n := by omega
      subst this
      exact ha

theorem opens_slice {t e : TypeId} {α : Type} {d : Kd α} {wf : α → Prop} (hu : P.underlying t = some (.slice e)) (hc : P.cellsOf e = d.sz) (hd : Opens enc P W e d wf) :
    Opens enc P W t (Kd.slice e d) (fun l => l.length ≤ maxLen ∧ ∀ x ∈ l, wf x) := by
  intro fuel cs x h
  rcases DataW.trod_slice hu h with ⟨rfl, _⟩ | ⟨a, len, cap, elems, rest, n, _, rfl, _, _, hl, hm, hlen, hel, _, _⟩
  · refine ⟨[], ⟨none, 0, rfl, Nat.le_refl _, rfl, by simp, fun hp => absurd hp (by simp)⟩, by simp, by simp⟩
  · have each : ∀ i, i < len → ∃ b : α, (∃ c : List Value, c.length = d.sz ∧ d.K W b c ∧ ∀ j u, c[j]? = some u → W.cell? (a.add (i * d.sz + j)) = some u) ∧ wf b := by
      intro i hi
      have h1 := hel i hi
      have hi' : i < elems.length := by omega
      rw [List.getElem?_eq_getElem hi', Option.bind_eq_some_iff] at h1
      obtain ⟨c, hcs, ht⟩ := h1
      obtain ⟨b, hb, hwf⟩ := hd _ _ _ ht
      obtain ⟨_, hclen, hcell⟩ := World.cells?_some hcs
      refine ⟨b, ⟨c, by rw [hclen, hc], hb, fun j u hj => ?_⟩, hwf⟩
      have hj' : j < P.cellsOf e := by
        have := (List.getElem?_eq_some_iff.1 hj).1
        omega
      have h2 := hcell j hj'
      rw [Addr.add_add, hj, hc] at h2
      exact h2
    obtain ⟨l, hll, hq⟩ := list_of len each
    subst hll
    refine ⟨l, ⟨some a, cap, rfl, hl, rfl, ?_, fun _ => ⟨a, rfl, fun j p hj => ?_⟩⟩, ?_, fun y hy => ?_⟩
    · have : cap ≤ 9223372036854775807 := by unfold maxLen at hm; exact hm
      omega
    · obtain ⟨⟨c, h1, h2, h3⟩, _⟩ := hq j p hj
      exact ⟨c, h1, h2, h3⟩
    · omega
    · obtain ⟨j, hj⟩ := List.getElem?_of_mem hy
      exact (hq j y hj).2

theorem piece {cs : List Value} {o m : Nat} {α : Type} {d : Kd α} {a : α} (h : d.K W a ((cs.drop o).take m)) (hm : m = d.sz) : d.K W a ((cs.drop o).take d.sz) := hm ▸ h

theorem cut2 {cs : List Value} {a b : Nat} (h : cs.length = a + b) : cs = cs.take a ++ (cs.drop a).take b := by
  rw [List.take_of_length_le (by simp; omega : (cs.drop a).length ≤ b), List.take_append_drop]

theorem cut3 {cs : List Value} {a b c : Nat} (h : cs.length = a + (b + c)) : cs = cs.take a ++ ((cs.drop a).take b ++ (cs.drop (a + b)).take c) := by
  rw [List.take_of_length_le (by simp; omega : (cs.drop (a + b)).length ≤ c), ← List.drop_drop, List.take_append_drop, List.take_append_drop]

theorem opens_struct2 {t : TypeId} {f0 f1 : Field} {α β S : Type} {d0 : Kd α} {d1 : Kd β} {w0 : α → Prop} {w1 : β → Prop} {f : S → α × β} (g : α × β → S)
    (hu : P.underlying t = some (.struct #[f0, f1])) (hg : ∀ x, f (g x) = x) (hC : P.cellsOf t = d0.sz + d1.sz)
    (o0 : f0.offset = 0) (o1 : f1.offset = d0.sz) (c0 : P.cellsOf f0.type = d0.sz) (c1 : P.cellsOf f1.type = d1.sz)
    (h0 : Opens enc P W f0.type d0 w0) (h1 : Opens enc P W f1.type d1 w1) :
    Opens enc P W t (Kd.iso (Kd.pair d0 d1) f) (fun s => w0 (f s).1 ∧ w1 (f s).2) := by
  intro fuel cs x h
  obtain ⟨xs, n, _, _, hl, hlen, hf⟩ := DataW.trod_struct hu h
  have e0 := hf 0 f0 rfl
  have e1 := hf 1 f1 rfl
  have hlen2 : xs.length = 2 := hlen
  rw [List.getElem?_eq_getElem (by omega)] at e0 e1
  obtain ⟨a, ha, wa⟩ := h0 _ _ _ e0
  obtain ⟨b, hb, wb⟩ := h1 _ _ _ e1
  rw [o0, c0, List.drop_zero] at ha
  rw [o1, c1] at hb
  refine ⟨g (a, b), ?_, ?_⟩
  · show (Kd.pair d0 d1).K W (f (g (a, b))) cs
    rw [hg]
    exact ⟨_, _, cut2 (by rw [hl, hC]), ha, hb⟩
  · simp only [hg]
    exact ⟨wa, wb⟩

theorem opens_struct3 {t : TypeId} {f0 f1 f2 : Field} {α β γ S : Type} {d0 : Kd α} {d1 : Kd β} {d2 : Kd γ} {w0 : α → Prop} {w1 : β → Prop} {w2 : γ → Prop} {f : S → α × (β × γ)} (g : α × (β × γ) → S)
    (hu : P.underlying t = some (.struct #[f0, f1, f2])) (hg : ∀ x, f (g x) = x) (hC : P.cellsOf t = d0.sz + (d1.sz + d2.sz))
    (o0 : f0.offset = 0) (o1 : f1.offset = d0.sz) (o2 : f2.offset = d0.sz + d1.sz) (c0 : P.cellsOf f0.type = d0.sz) (c1 : P.cellsOf f1.type = d1.sz) (c2 : P.cellsOf f2.type = d2.sz)
    (h0 : Opens enc P W f0.type d0 w0) (h1 : Opens enc P W f1.type d1 w1) (h2 : Opens enc P W f2.type d2 w2) :
    Opens enc P W t (Kd.iso (Kd.pair d0 (Kd.pair d1 d2)) f) (fun s => w0 (f s).1 ∧ w1 (f s).2.1 ∧ w2 (f s).2.2) := by
  intro fuel cs x h
  obtain ⟨xs, n, _, _, hl, hlen, hf⟩ := DataW.trod_struct hu h
  have e0 := hf 0 f0 rfl
  have e1 := hf 1 f1 rfl
  have e2 := hf 2 f2 rfl
  have hlen2 : xs.length = 3 := hlen
  rw [List.getElem?_eq_getElem (by omega)] at e0 e1 e2
  obtain ⟨a, ha, wa⟩ := h0 _ _ _ e0
  obtain ⟨b, hb, wb⟩ := h1 _ _ _ e1
  obtain ⟨c, hc, wc⟩ := h2 _ _ _ e2
  rw [o0, c0, List.drop_zero] at ha
  rw [o1, c1] at hb
  rw [o2, c2] at hc
  refine ⟨g (a, (b, c)), ?_, ?_⟩
  · show (Kd.pair d0 (Kd.pair d1 d2)).K W (f (g (a, (b, c)))) cs
    rw [hg]
    exact ⟨_, _, cut3 (by rw [hl, hC]), ha, ⟨_, _, rfl, hb, hc⟩⟩
  · simp only [hg]
    exact ⟨wa, wb, wc⟩
end Go.Proofs.YtcbofebikbbknaaOpen

