/- Lemmas towards this claim's statement: what the functions named here come to, each under the conditions that it states itself. -/
import Derived.Test.YtfndlpfceokloaaCells4
namespace Go.Proofs.Ytfndlpfceokloaa
open Go.RowKit YtfndlpfceokloaaB Go.Proofs.YtfndlpfceokloaaW.PrintWords
theorem setL_get (l : List (Bool × Int)) (i : Nat) (xs : List Int) (h : i + xs.length ≤ l.length) (k : Nat) : (setL l i xs)[k]? = if i ≤ k ∧ k - i < xs.length then (xs[k - i]?).map (fun x => (true, x)) else l[k]? := by
  unfold setL
  by_cases h1 : k < i
  · rw [if_neg (by omega), List.getElem?_append_left (by simp; omega), List.getElem?_take, if_pos h1]
  · rw [List.getElem?_append_right (by simp; omega)]
    have hl : (l.take i).length = i := by simp; omega
    rw [hl]
    by_cases h2 : k - i < xs.length
    · rw [if_pos ⟨by omega, h2⟩, List.getElem?_append_left (by simpa using h2), List.getElem?_map]
    · rw [if_neg (by omega), List.getElem?_append_right (by simp; omega), List.getElem?_drop, List.length_map]
      congr 1
      omega
end Go.Proofs.Ytfndlpfceokloaa
