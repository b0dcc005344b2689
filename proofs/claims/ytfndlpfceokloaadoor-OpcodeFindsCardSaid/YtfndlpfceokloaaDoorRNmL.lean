/- Lemmas towards this claim's statement: what the functions named here come to, each under the conditions that it states itself. -/
import Derived.Test.YtfndlpfceokloaaDoorOpAcc
namespace Go.Proofs.YtfndlpfceokloaaDoorB
open Go.RowKit
def rl_relations : List ByteArray := [⟨#[101, 113, 122]⟩, ⟨#[101, 113]⟩, ⟨#[110, 101]⟩, ⟨#[108, 116, 95, 115]⟩, ⟨#[108, 116, 95, 117]⟩, ⟨#[103, 116, 95, 115]⟩, ⟨#[103, 116, 95, 117]⟩, ⟨#[108, 101, 95, 115]⟩, ⟨#[108, 101, 95, 117]⟩, ⟨#[103, 101, 95, 115]⟩, ⟨#[103, 101, 95, 117]⟩]
def rl_floats : List ByteArray := [⟨#[101, 113]⟩, ⟨#[110, 101]⟩, ⟨#[108, 116]⟩, ⟨#[103, 116]⟩, ⟨#[108, 101]⟩, ⟨#[103, 101]⟩]
def rl_wholes : List ByteArray := [⟨#[99, 108, 122]⟩, ⟨#[99, 116, 122]⟩, ⟨#[112, 111, 112, 99, 110, 116]⟩, ⟨#[97, 100, 100]⟩, ⟨#[115, 117, 98]⟩, ⟨#[109, 117, 108]⟩, ⟨#[100, 105, 118, 95, 115]⟩, ⟨#[100, 105, 118, 95, 117]⟩, ⟨#[114, 101, 109, 95, 115]⟩, ⟨#[114, 101, 109, 95, 117]⟩, ⟨#[97, 110, 100]⟩, ⟨#[111, 114]⟩, ⟨#[120, 111, 114]⟩, ⟨#[115, 104, 108]⟩, ⟨#[115, 104, 114, 95, 115]⟩, ⟨#[115, 104, 114, 95, 117]⟩, ⟨#[114, 111, 116, 108]⟩, ⟨#[114, 111, 116, 114]⟩]
def rl_doubles : List ByteArray := [⟨#[97, 98, 115]⟩, ⟨#[110, 101, 103]⟩, ⟨#[99, 101, 105, 108]⟩, ⟨#[102, 108, 111, 111, 114]⟩, ⟨#[116, 114, 117, 110, 99]⟩, ⟨#[110, 101, 97, 114, 101, 115, 116]⟩, ⟨#[115, 113, 114, 116]⟩, ⟨#[97, 100, 100]⟩, ⟨#[115, 117, 98]⟩, ⟨#[109, 117, 108]⟩, ⟨#[100, 105, 118]⟩, ⟨#[109, 105, 110]⟩, ⟨#[109, 97, 120]⟩, ⟨#[99, 111, 112, 121, 115, 105, 103, 110]⟩]
def rl_turns : List ByteArray := [⟨#[105, 51, 50, 46, 119, 114, 97, 112, 95, 105, 54, 52]⟩, ⟨#[105, 51, 50, 46, 116, 114, 117, 110, 99, 95, 102, 51, 50, 95, 115]⟩, ⟨#[105, 51, 50, 46, 116, 114, 117, 110, 99, 95, 102, 51, 50, 95, 117]⟩, ⟨#[105, 51, 50, 46, 116, 114, 117, 110, 99, 95, 102, 54, 52, 95, 115]⟩, ⟨#[105, 51, 50, 46, 116, 114, 117, 110, 99, 95, 102, 54, 52, 95, 117]⟩, ⟨#[105, 54, 52, 46, 101, 120, 116, 101, 110, 100, 95, 105, 51, 50, 95, 115]⟩, ⟨#[105, 54, 52, 46, 101, 120, 116, 101, 110, 100, 95, 105, 51, 50, 95, 117]⟩, ⟨#[105, 54, 52, 46, 116, 114, 117, 110, 99, 95, 102, 51, 50, 95, 115]⟩, ⟨#[105, 54, 52, 46, 116, 114, 117, 110, 99, 95, 102, 51, 50, 95, 117]⟩, ⟨#[105, 54, 52, 46, 116, 114, 117, 110, 99, 95, 102, 54, 52, 95, 115]⟩, ⟨#[105, 54, 52, 46, 116, 114, 117, 110, 99, 95, 102, 54, 52, 95, 117]⟩, ⟨#[102, 51, 50, 46, 99, 111, 110, 118, 101, 114, 116, 95, 105, 51, 50, 95, 115]⟩, ⟨#[102, 51, 50, 46, 99, 111, 110, 118, 101, 114, 116, 95, 105, 51, 50, 95, 117]⟩, ⟨#[102, 51, 50, 46, 99, 111, 110, 118, 101, 114, 116, 95, 105, 54, 52, 95, 115]⟩, ⟨#[102, 51, 50, 46, 99, 111, 110, 118, 101, 114, 116, 95, 105, 54, 52, 95, 117]⟩, ⟨#[102, 51, 50, 46, 100, 101, 109, 111, 116, 101, 95, 102, 54, 52]⟩, ⟨#[102, 54, 52, 46, 99, 111, 110, 118, 101, 114, 116, 95, 105, 51, 50, 95, 115]⟩, ⟨#[102, 54, 52, 46, 99, 111, 110, 118, 101, 114, 116, 95, 105, 51, 50, 95, 117]⟩, ⟨#[102, 54, 52, 46, 99, 111, 110, 118, 101, 114, 116, 95, 105, 54, 52, 95, 115]⟩, ⟨#[102, 54, 52, 46, 99, 111, 110, 118, 101, 114, 116, 95, 105, 54, 52, 95, 117]⟩, ⟨#[102, 54, 52, 46, 112, 114, 111, 109, 111, 116, 101, 95, 102, 51, 50]⟩, ⟨#[105, 51, 50, 46, 114, 101, 105, 110, 116, 101, 114, 112, 114, 101, 116, 95, 102, 51, 50]⟩, ⟨#[105, 54, 52, 46, 114, 101, 105, 110, 116, 101, 114, 112, 114, 101, 116, 95, 102, 54, 52]⟩, ⟨#[102, 51, 50, 46, 114, 101, 105, 110, 116, 101, 114, 112, 114, 101, 116, 95, 105, 51, 50]⟩, ⟨#[102, 54, 52, 46, 114, 101, 105, 110, 116, 101, 114, 112, 114, 101, 116, 95, 105, 54, 52]⟩]
def rl_sats : List ByteArray := [⟨#[105, 51, 50, 46, 116, 114, 117, 110, 99, 95, 115, 97, 116, 95, 102, 51, 50, 95, 115]⟩, ⟨#[105, 51, 50, 46, 116, 114, 117, 110, 99, 95, 115, 97, 116, 95, 102, 51, 50, 95, 117]⟩, ⟨#[105, 51, 50, 46, 116, 114, 117, 110, 99, 95, 115, 97, 116, 95, 102, 54, 52, 95, 115]⟩, ⟨#[105, 51, 50, 46, 116, 114, 117, 110, 99, 95, 115, 97, 116, 95, 102, 54, 52, 95, 117]⟩, ⟨#[105, 54, 52, 46, 116, 114, 117, 110, 99, 95, 115, 97, 116, 95, 102, 51, 50, 95, 115]⟩, ⟨#[105, 54, 52, 46, 116, 114, 117, 110, 99, 95, 115, 97, 116, 95, 102, 51, 50, 95, 117]⟩, ⟨#[105, 54, 52, 46, 116, 114, 117, 110, 99, 95, 115, 97, 116, 95, 102, 54, 52, 95, 115]⟩, ⟨#[105, 54, 52, 46, 116, 114, 117, 110, 99, 95, 115, 97, 116, 95, 102, 54, 52, 95, 117]⟩]
def rl_controls : List ByteArray := [⟨#[117, 110, 114, 101, 97, 99, 104, 97, 98, 108, 101]⟩, ⟨#[110, 111, 112]⟩, ⟨#[98, 108, 111, 99, 107]⟩, ⟨#[108, 111, 111, 112]⟩, ⟨#[105, 102]⟩, ⟨#[101, 108, 115, 101]⟩, ⟨#[101, 110, 100]⟩, ⟨#[98, 114]⟩, ⟨#[98, 114, 95, 105, 102]⟩, ⟨#[98, 114, 95, 116, 97, 98, 108, 101]⟩, ⟨#[114, 101, 116, 117, 114, 110]⟩, ⟨#[99, 97, 108, 108]⟩, ⟨#[99, 97, 108, 108, 95, 105, 110, 100, 105, 114, 101, 99, 116]⟩, ⟨#[100, 114, 111, 112]⟩, ⟨#[115, 101, 108, 101, 99, 116]⟩, ⟨#[108, 111, 99, 97, 108, 46, 103, 101, 116]⟩, ⟨#[108, 111, 99, 97, 108, 46, 115, 101, 116]⟩, ⟨#[108, 111, 99, 97, 108, 46, 116, 101, 101]⟩, ⟨#[103, 108, 111, 98, 97, 108, 46, 103, 101, 116]⟩, ⟨#[103, 108, 111, 98, 97, 108, 46, 115, 101, 116]⟩, ⟨#[109, 101, 109, 111, 114, 121, 46, 115, 105, 122, 101]⟩, ⟨#[109, 101, 109, 111, 114, 121, 46, 103, 114, 111, 119]⟩, ⟨#[105, 51, 50, 46, 99, 111, 110, 115, 116]⟩, ⟨#[105, 54, 52, 46, 99, 111, 110, 115, 116]⟩, ⟨#[102, 51, 50, 46, 99, 111, 110, 115, 116]⟩, ⟨#[102, 54, 52, 46, 99, 111, 110, 115, 116]⟩]
def rl_accesses : List ByteArray := [⟨#[105, 51, 50, 46, 108, 111, 97, 100]⟩, ⟨#[105, 54, 52, 46, 108, 111, 97, 100]⟩, ⟨#[102, 51, 50, 46, 108, 111, 97, 100]⟩, ⟨#[102, 54, 52, 46, 108, 111, 97, 100]⟩, ⟨#[105, 51, 50, 46, 108, 111, 97, 100, 56, 95, 115]⟩, ⟨#[105, 51, 50, 46, 108, 111, 97, 100, 56, 95, 117]⟩, ⟨#[105, 51, 50, 46, 108, 111, 97, 100, 49, 54, 95, 115]⟩, ⟨#[105, 51, 50, 46, 108, 111, 97, 100, 49, 54, 95, 117]⟩, ⟨#[105, 54, 52, 46, 108, 111, 97, 100, 56, 95, 115]⟩, ⟨#[105, 54, 52, 46, 108, 111, 97, 100, 56, 95, 117]⟩, ⟨#[105, 54, 52, 46, 108, 111, 97, 100, 49, 54, 95, 115]⟩, ⟨#[105, 54, 52, 46, 108, 111, 97, 100, 49, 54, 95, 117]⟩, ⟨#[105, 54, 52, 46, 108, 111, 97, 100, 51, 50, 95, 115]⟩, ⟨#[105, 54, 52, 46, 108, 111, 97, 100, 51, 50, 95, 117]⟩, ⟨#[105, 51, 50, 46, 115, 116, 111, 114, 101]⟩, ⟨#[105, 54, 52, 46, 115, 116, 111, 114, 101]⟩, ⟨#[102, 51, 50, 46, 115, 116, 111, 114, 101]⟩, ⟨#[102, 54, 52, 46, 115, 116, 111, 114, 101]⟩, ⟨#[105, 51, 50, 46, 115, 116, 111, 114, 101, 56]⟩, ⟨#[105, 51, 50, 46, 115, 116, 111, 114, 101, 49, 54]⟩, ⟨#[105, 54, 52, 46, 115, 116, 111, 114, 101, 56]⟩, ⟨#[105, 54, 52, 46, 115, 116, 111, 114, 101, 49, 54]⟩, ⟨#[105, 54, 52, 46, 115, 116, 111, 114, 101, 51, 50]⟩]
/-- A slice of these strings. -/
def StrL (W : World) (A : Option Addr) (L : List ByteArray) : Prop := ∃ g, A = some ⟨g, 0, none⟩ ∧ ∃ t, Blk W g (L.map Value.string).toArray t
theorem StrL.at_ {W : World} {A : Option Addr} {L : List ByteArray} (h : StrL W A L) (i : Nat) (s : ByteArray) (hs : L[i]? = some s) : ∃ g, A = some ⟨g, 0, none⟩ ∧ W.cell? ⟨g, i, none⟩ = some (.string s) := by
  obtain ⟨g, e, t, hb⟩ := h
  exact ⟨g, e, by rw [hb.cell]; simp [hs]⟩
theorem StrL.below {W W' : World} {A : Option Addr} {L : List ByteArray} (h : StrL W A L) (hb : Below W.heap.size W W') : StrL W' A L := by
  obtain ⟨g, e, t, h⟩ := h
  exact ⟨g, e, t, h.below hb h.lt⟩
end Go.Proofs.YtfndlpfceokloaaDoorB
namespace Go.Proofs.YtfndlpfceokloaaDoor
open Go.RowKit Go.Shelf YtfndlpfceokloaaDoorB Go.Proofs.YtfndlpfceokloaaDoorW.PrintWords
set_option maxRecDepth 100000 in
theorem rl_relations_any (W : World) : Calls Tryd.prog 39 #[] W fun E w' => (∃ A, E = .returned (.slice A 11 11) ∧ StrL w' A rl_relations) ∧ Below W.heap.size W w' := by
  go_enter Tryd.func39, Tryd.ntmps39
  go_wp2_with fail
  go_ret
  exact ⟨⟨_, rfl, W.heap.size, rfl, 9, (heap_alloc_new W _).trans (by as_aux_lemma => kernel_rfl)⟩, (Below.refl _ _).alloc (Nat.le_refl _) _⟩
set_option maxRecDepth 100000 in
theorem rl_floats_any (W : World) : Calls Tryd.prog 40 #[] W fun E w' => (∃ A, E = .returned (.slice A 6 6) ∧ StrL w' A rl_floats) ∧ Below W.heap.size W w' := by
  go_enter Tryd.func40, Tryd.ntmps40
  go_wp2_with fail
  go_ret
  exact ⟨⟨_, rfl, W.heap.size, rfl, 9, (heap_alloc_new W _).trans (by as_aux_lemma => kernel_rfl)⟩, (Below.refl _ _).alloc (Nat.le_refl _) _⟩
set_option maxRecDepth 100000 in
theorem rl_wholes_any (W : World) : Calls Tryd.prog 41 #[] W fun E w' => (∃ A, E = .returned (.slice A 18 18) ∧ StrL w' A rl_wholes) ∧ Below W.heap.size W w' := by
  go_enter Tryd.func41, Tryd.ntmps41
  go_wp2_with fail
  go_ret
  exact ⟨⟨_, rfl, W.heap.size, rfl, 9, (heap_alloc_new W _).trans (by as_aux_lemma => kernel_rfl)⟩, (Below.refl _ _).alloc (Nat.le_refl _) _⟩
set_option maxRecDepth 100000 in
theorem rl_doubles_any (W : World) : Calls Tryd.prog 42 #[] W fun E w' => (∃ A, E = .returned (.slice A 14 14) ∧ StrL w' A rl_doubles) ∧ Below W.heap.size W w' := by
  go_enter Tryd.func42, Tryd.ntmps42
  go_wp2_with fail
  go_ret
  exact ⟨⟨_, rfl, W.heap.size, rfl, 9, (heap_alloc_new W _).trans (by as_aux_lemma => kernel_rfl)⟩, (Below.refl _ _).alloc (Nat.le_refl _) _⟩
set_option maxRecDepth 100000 in
theorem rl_turns_any (W : World) : Calls Tryd.prog 43 #[] W fun E w' => (∃ A, E = .returned (.slice A 25 25) ∧ StrL w' A rl_turns) ∧ Below W.heap.size W w' := by
  go_enter Tryd.func43, Tryd.ntmps43
  go_wp2_with fail
  go_ret
  exact ⟨⟨_, rfl, W.heap.size, rfl, 9, (heap_alloc_new W _).trans (by as_aux_lemma => kernel_rfl)⟩, (Below.refl _ _).alloc (Nat.le_refl _) _⟩
set_option maxRecDepth 100000 in
theorem rl_sats_any (W : World) : Calls Tryd.prog 31 #[] W fun E w' => (∃ A, E = .returned (.slice A 8 8) ∧ StrL w' A rl_sats) ∧ Below W.heap.size W w' := by
  go_enter Tryd.func31, Tryd.ntmps31
  go_wp2_with fail
  go_ret
  exact ⟨⟨_, rfl, W.heap.size, rfl, 9, (heap_alloc_new W _).trans (by as_aux_lemma => kernel_rfl)⟩, (Below.refl _ _).alloc (Nat.le_refl _) _⟩
set_option maxRecDepth 100000 in
theorem rl_controls_any (W : World) : Calls Tryd.prog 20 #[] W fun E w' => (∃ A, E = .returned (.slice A 26 26) ∧ StrL w' A rl_controls) ∧ Below W.heap.size W w' := by
  go_enter Tryd.func20, Tryd.ntmps20
  go_wp2_with fail
  go_ret
  exact ⟨⟨_, rfl, W.heap.size, rfl, 9, (heap_alloc_new W _).trans (by as_aux_lemma => kernel_rfl)⟩, (Below.refl _ _).alloc (Nat.le_refl _) _⟩
set_option maxRecDepth 100000 in
theorem rl_accesses_any (W : World) : Calls Tryd.prog 21 #[] W fun E w' => (∃ A, E = .returned (.slice A 23 23) ∧ StrL w' A rl_accesses) ∧ Below W.heap.size W w' := by
  go_enter Tryd.func21, Tryd.ntmps21
  go_wp2_with fail
  go_ret
  exact ⟨⟨_, rfl, W.heap.size, rfl, 9, (heap_alloc_new W _).trans (by as_aux_lemma => kernel_rfl)⟩, (Below.refl _ _).alloc (Nat.le_refl _) _⟩
end Go.Proofs.YtfndlpfceokloaaDoor
