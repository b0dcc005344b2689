/- Lemmas towards this claim's statement: what the functions named here come to, each under the conditions that it states itself. -/
import Derived.Test.YtfndlpfceokloaaStN2
import Derived.Test.YtfndlpfceokloaaOwn
import Derived.Lib.BufferRead
namespace Go.Proofs.YtfndlpfceokloaaB
open Go.RowKit Go.Proofs.YtfndlpfceokloaaW.PrintWords
def zCells : List Value := [.int .i64 0, .slice none 0 0, .slice none 0 0, .int .u32 0, .int .u32 0, .bool false, .int .u8 0, .bool false]
end Go.Proofs.YtfndlpfceokloaaB
namespace Go.Proofs.Ytfndlpfceokloaa
open Go.RowKit Go.Shelf YtfndlpfceokloaaB Go.Proofs.YtfndlpfceokloaaW.PrintWords
/-- A row of one: nothing. -/
def OneZ (W : World) (A : Option Addr) : Prop := ∃ b o, A = some ⟨b, o, none⟩ ∧ ∀ j u, zCells[j]? = some u → W.cell? ⟨b, o + j, none⟩ = some u
theorem OneZ.below {W W' : World} {A : Option Addr} (h : OneZ W A) (hb : Below W.heap.size W W') : OneZ W' A := by
  obtain ⟨b, o, e, hc⟩ := h
  exact ⟨b, o, e, fun j u hj => pw_cell_below hb (hc j u hj)⟩
theorem OneZ.new (W : World) (t : TypeId) : OneZ (W.alloc (.cells zCells.toArray t)) (some ⟨W.heap.size, 0, none⟩) :=
  ⟨_, _, rfl, fun j u hj => by rw [Nat.zero_add, (Blk.new W zCells.toArray t).cell]; simpa using hj⟩
theorem OneZ.app (W : World) (zs : Array Value) (t : TypeId) (g : Nat) (hg : g = W.heap.size) : OneZ (W.alloc (.cells (zCells.toArray ++ zs) t)).drew (some ⟨g, 0, none⟩) := by
  subst hg
  refine ⟨_, _, rfl, fun j u hj => ?_⟩
  have hlt : j < zCells.toArray.size := by have := (List.getElem?_eq_some_iff.1 hj).1; simpa using this
  rw [Nat.zero_add, cell_drew_own, (Blk.new W (zCells.toArray ++ zs) t).cell, Array.getElem?_append_left hlt]
  simpa using hj
def Plain24Post (W : World) (E : Ending) (W' : World) : Prop := (∃ A c, E = .returned (.slice A 1 c) ∧ OneZ W' A) ∧ Below W.heap.size W W'
set_option maxRecDepth 100000 in
theorem plain24_one (W : World) (A : Option Addr) (c : Nat) (h : OneZ W A) : Calls Try.prog 85 #[.slice A 1 c] W (Plain24Post W) := by
  obtain ⟨b, o, rfl, hc⟩ := h
  have hb := World.block_lt_of_cell? _ _ (hc 0 _ rfl)
  have HC := Lib.hid hc
  clear hc
  go_enter Try.func85, Try.ntmps85
  go_wp2_with fail
  go_loopw [3, 8] (fun v i wr => (i = .int .i64 0 ∧ v = .slice none 0 0 ∧ wr = W) ∨ (i = .int .i64 1 ∧ ∃ A' c', v = .slice A' 1 c' ∧ Hid (OneZ wr A' ∧ Below W.heap.size W wr))) (fun _ i _ => 1 - (intOf i).toNat)
  case atStart => exact .inl ⟨rfl, rfl, rfl⟩
  case round =>
    rcases hrel with ⟨rfl, rfl, rfl⟩ | ⟨rfl, A', c', rfl, HZ⟩
    · have c0 := HC.out 0 _ rfl
      have c1 := HC.out 1 _ rfl
      have c2 := HC.out 2 _ rfl
      have c3 := HC.out 3 _ rfl
      have c4 := HC.out 4 _ rfl
      have c5 := HC.out 5 _ rfl
      have c6 := HC.out 6 _ rfl
      have c7 := HC.out 7 _ rfl
      simp only [Nat.add_zero] at c0
      go_wp2_with fail
      go_roundw
      case rel =>
        refine .inr ⟨rfl, _, _, rfl, ?_, ?_⟩
        · exact OneZ.app _ _ _ _ (by simp)
        · exact (((((Below.refl _ _).alloc (Nat.le_refl _) _).alloc (by simp) _).alloc (by simp; omega) _).trans ⟨rfl, rfl, rfl, Nat.le_refl _, fun _ _ => rfl⟩)
      case measure => simp [intOf]
    · go_wp2_with fail
      go_ret
      exact ⟨⟨_, _, rfl, HZ.out.1⟩, HZ.out.2⟩
set_option maxRecDepth 100000 in
theorem same24_zero (W : World) (A A' : Option Addr) (c c' : Nat) (h : OneZ W A) (h' : OneZ W A') : Calls Try.prog 84 #[.slice A 1 c, .slice A' 1 c'] W fun E w' => E = .returned (.bool true) ∧ Below W.heap.size W w' := by
  obtain ⟨b, o, rfl, hc⟩ := h
  obtain ⟨b', o', rfl, hc'⟩ := h'
  have hb := World.block_lt_of_cell? _ _ (hc 0 _ rfl)
  have hb' := World.block_lt_of_cell? _ _ (hc' 0 _ rfl)
  have HC := Lib.hid hc
  have HC' := Lib.hid hc'
  clear hc hc'
  have kc := fun w : World => Lib.run_convert_nil_bytes (P := Try.prog) w 85 9 5 0 Try.underlying85 Try.underlying5 Try.underlying9
  go_enter Try.func84, Try.ntmps84
  go_wp2_with fail
  go_loopw [5] (fun i wr => (i = .int .i64 0 ∧ wr = W) ∨ (i = .int .i64 1 ∧ Hid (Below W.heap.size W wr))) (fun i _ => 1 - (intOf i).toNat)
  case atStart => exact .inl ⟨rfl, rfl⟩
  case round =>
    rcases hrel with ⟨rfl, rfl⟩ | ⟨rfl, HZ⟩
    · have c0 := HC.out 0 _ rfl
      have c1 := HC.out 1 _ rfl
      have c2 := HC.out 2 _ rfl
      have c3 := HC.out 3 _ rfl
      have c4 := HC.out 4 _ rfl
      have c5 := HC.out 5 _ rfl
      have c6 := HC.out 6 _ rfl
      have c7 := HC.out 7 _ rfl
      have d0 := HC'.out 0 _ rfl
      have d1 := HC'.out 1 _ rfl
      have d2 := HC'.out 2 _ rfl
      have d3 := HC'.out 3 _ rfl
      have d4 := HC'.out 4 _ rfl
      have d5 := HC'.out 5 _ rfl
      have d6 := HC'.out 6 _ rfl
      have d7 := HC'.out 7 _ rfl
      simp only [Nat.add_zero] at c0 d0
      go_wp2_with fail
      go_quiet (fail)
      go_wp2_with fail
      go_roundw
      case rel => exact .inr ⟨rfl, ⟨rfl, rfl, rfl, Nat.le_refl _, fun _ _ => rfl⟩⟩
      case measure => simp [intOf]
    · go_wp2_with fail
      go_ret
      exact ⟨rfl, HZ.out⟩
end Go.Proofs.Ytfndlpfceokloaa
