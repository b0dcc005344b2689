/- Lemmas towards this claim's statement: what the functions named here come to, each under the conditions that it states itself. -/
import Derived.Test.YtfndlpfceokloaaDoorNum3
namespace Go.Proofs.YtfndlpfceokloaaDoor
open Go.RowKit Go.Shelf YtfndlpfceokloaaDoorB Go.Proofs.YtfndlpfceokloaaDoorW.PrintWords
def lenG (g : Nat) : Nat := [11, 11, 6, 6, 18, 18, 14, 14, 25].getD g 0
def cumG (g : Nat) : Nat := [0, 11, 22, 28, 34, 52, 70, 84, 98, 123].getD g 0
theorem cumG_succ (g : Nat) (hg : g ≤ 8) : cumG (g + 1) = cumG g + lenG g := by
  have : g = 0 ∨ g = 1 ∨ g = 2 ∨ g = 3 ∨ g = 4 ∨ g = 5 ∨ g = 6 ∨ g = 7 ∨ g = 8 := by omega
  rcases this with rfl | rfl | rfl | rfl | rfl | rfl | rfl | rfl | rfl <;> rfl
theorem lenG_le (g : Nat) (hg : g ≤ 8) : lenG g ≤ 25 := by
  have : g = 0 ∨ g = 1 ∨ g = 2 ∨ g = 3 ∨ g = 4 ∨ g = 5 ∨ g = 6 ∨ g = 7 ∨ g = 8 := by omega
  rcases this with rfl | rfl | rfl | rfl | rfl | rfl | rfl | rfl | rfl <;> decide
def numOp (op : Int) : Bool := decide (69 ≤ op ∧ op ≤ 191 ∨ 64512 ≤ op ∧ op ≤ 64519)
def lCodes : List Int := [0, 1, 2, 3, 4, 5, 11, 12, 13, 14, 15, 16, 17, 26, 27, 32, 33, 34, 35, 36, 63, 64, 65, 66, 67, 68]
def lImms : List Int := [0, 0, 1, 1, 1, 12, 12, 2, 2, 3, 0, 4, 5, 0, 0, 4, 4, 4, 4, 4, 7, 7, 8, 9, 10, 11]
def IntRow (W : World) (A : Option Addr) (L : List Int) : Prop := ∃ g, A = some ⟨g, 0, none⟩ ∧ ∀ j x, L[j]? = some x → W.cell? ⟨g, j, none⟩ = some (.int .i64 x)
set_option maxRecDepth 100000 in
theorem codes_any (W : World) : Calls Tryd.prog 16 #[] W fun E w' => (∃ A, E = .returned (.slice A 26 26) ∧ IntRow w' A lCodes) ∧ Below W.heap.size W w' := by
  go_enter Tryd.func16, Tryd.ntmps16
  go_wp2_with fail
  go_ret
  exact ⟨⟨_, rfl, W.heap.size, rfl, fun j x hx => ((Blk.new W (lCodes.map (Value.int .i64)).toArray 3).cell j).trans (by simp [hx])⟩, (Below.refl _ _).alloc (Nat.le_refl _) _⟩
set_option maxRecDepth 100000 in
theorem imms_any (W : World) : Calls Tryd.prog 17 #[] W fun E w' => (∃ A, E = .returned (.slice A 26 26) ∧ IntRow w' A lImms) ∧ Below W.heap.size W w' := by
  go_enter Tryd.func17, Tryd.ntmps17
  go_wp2_with fail
  go_ret
  exact ⟨⟨_, rfl, W.heap.size, rfl, fun j x hx => ((Blk.new W (lImms.map (Value.int .i64)).toArray 3).cell j).trans (by simp [hx])⟩, (Below.refl _ _).alloc (Nat.le_refl _) _⟩
def rImmV (op : Int) : Int := if (immM op).2 then (immM op).1 else -1
theorem rImm_code : ∀ j : Nat, j < 26 → rImmV (lCodes.getD j 0) = lImms.getD j 0 := by decide
theorem rImm_no (op : Int) (h : ∀ y ∈ lCodes, ¬ y = op) (h2 : ¬ (40 ≤ op ∧ op ≤ 62)) : rImmV op = if numOp op then 0 else -1 := by
  have h' : ∀ x ∈ lCodes, ¬ op = x := fun x hx e => h x hx e.symm
  simp only [lCodes, List.mem_cons, List.mem_nil_iff, or_false, forall_eq_or_imp, forall_eq] at h'
  unfold rImmV immM numOp
  simp [h', h2]
end Go.Proofs.YtfndlpfceokloaaDoor
