/- A list without repetitions whose members lie in another list is no longer than that. -/
import Derived.Test.YtljdenmmlkjapaaQBase
namespace Go.Proofs.Ytljdenmmlkjapaa.P
open Go.RowKit Go.Proofs.YtljdenmmlkjapaaW.PrintWords Go.Proofs.YtljdenmmlkjapaaW.PrintLast
set_option linter.unusedVariables false
set_option linter.unusedSimpArgs false
theorem erase_len_le {α : Type} [DecidableEq α] {x : α} : ∀ {M : List α}, x ∈ M → (M.erase x).length + 1 = M.length := by
  intro M h
  have := List.length_erase_of_mem h
  have h2 : 0 < M.length := List.length_pos_of_mem h
  omega
theorem nodup_le {α : Type} [DecidableEq α] : ∀ (L M : List α), L.Nodup → (∀ x ∈ L, x ∈ M) → L.length ≤ M.length
  | [], _, _, _ => Nat.zero_le _
  | x :: L, M, hn, hs => by
    have hx : x ∈ M := hs x (by simp)
    rw [List.nodup_cons] at hn
    have h := nodup_le L (M.erase x) hn.2 (fun y hy => by
      have : y ≠ x := fun e => hn.1 (e ▸ hy)
      exact (List.mem_erase_of_ne this).2 (hs y (by simp [hy])))
    have := erase_len_le hx
    simp only [List.length_cons]
    omega

end Go.Proofs.Ytljdenmmlkjapaa.P
