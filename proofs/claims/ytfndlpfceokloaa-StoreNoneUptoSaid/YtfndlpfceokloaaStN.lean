/- Lemmas towards this claim's statement: what the functions named here come to, each under the conditions that it states itself. -/
import Derived.Test.YtfndlpfceokloaaCells3
import Derived.Test.YtfndlpfceokloaaKeep
namespace Go.Proofs.Ytfndlpfceokloaa
open Go.RowKit Go.Shelf YtfndlpfceokloaaB Go.Proofs.YtfndlpfceokloaaW.PrintWords
/-- A store that is none, or that New did not make. -/
def NoneS (W : World) (p : Value) : Prop := p = .pointer none ∨ ∃ g, p = .pointer (some ⟨g, 0, none⟩) ∧ W.cell? ⟨g, 0, none⟩ = some (.bool false)
theorem NoneS.below {W W' : World} {p : Value} (h : NoneS W p) (hb : Below W.heap.size W W') : NoneS W' p :=
  h.imp id (fun ⟨g, e, hc⟩ => ⟨g, e, pw_cell_below hb hc⟩)
theorem is_none (W : World) (p : Value) (h : NoneS W p) : Calls Try.prog 72 #[p] W fun E w' => E = .returned (.bool false) ∧ W = w' := by
  rcases h with rfl | ⟨g, rfl, hc⟩
  all_goals
    go_enter Try.func72, Try.ntmps72
    go_wp2
    go_ret
    exact ⟨rfl, rfl⟩
theorem made_none (W : World) (p : Value) (h : NoneS W p) : Calls Try.prog 51 #[p] W fun E w' => E = .returned (.bool false) ∧ W = w' := by
  have H := Lib.hid (is_none W p h)
  clear h
  go_enter Try.func51, Try.ntmps51
  go_wp2_with (go_at_call 72; refine H.out.mono ?_; rintro E w' ⟨rfl, rfl⟩)
  go_ret
  exact ⟨rfl, rfl⟩
theorem addFunc_none (W : World) (p : Value) (cs : Array Value) (h : NoneS W p) : Calls Try.prog 44 #[p, .agg cs] W fun E w' => E = .returned (.int .i64 (-1)) ∧ Below W.heap.size W w' := by
  have H := Lib.hid (fun X hX => is_none X p (h.below hX))
  clear h
  go_enter Try.func44, Try.ntmps44
  go_wp2_with (go_at_call 72; refine (H.out _ ((Below.refl _ _).alloc (Nat.le_refl _) _)).mono ?_; rintro E w' ⟨rfl, rfl⟩)
  go_ret
  exact ⟨rfl, (Below.refl _ _).alloc (Nat.le_refl _) _⟩
theorem addInst_none (W : World) (p : Value) (cs : Array Value) (h : NoneS W p) : Calls Try.prog 45 #[p, .agg cs] W fun E w' => E = .returned (.int .i64 (-1)) ∧ Below W.heap.size W w' := by
  have H := Lib.hid (fun X hX => is_none X p (h.below hX))
  clear h
  go_enter Try.func45, Try.ntmps45
  go_wp2_with (go_at_call 72; refine (H.out _ ((Below.refl _ _).alloc (Nat.le_refl _) _)).mono ?_; rintro E w' ⟨rfl, rfl⟩)
  go_ret
  exact ⟨rfl, (Below.refl _ _).alloc (Nat.le_refl _) _⟩
theorem addTable_none (W : World) (p : Value) (cs : Array Value) (h : NoneS W p) : Calls Try.prog 48 #[p, .agg cs] W fun E w' => E = .returned (.tuple #[.int .i64 (-1), .int .i64 1]) ∧ Below W.heap.size W w' := by
  have H := Lib.hid (fun X hX => is_none X p (h.below hX))
  clear h
  go_enter Try.func48, Try.ntmps48
  go_wp2_with (go_at_call 72; refine (H.out _ ((Below.refl _ _).alloc (Nat.le_refl _) _)).mono ?_; rintro E w' ⟨rfl, rfl⟩)
  go_ret2
  exact ⟨rfl, (Below.refl _ _).alloc (Nat.le_refl _) _⟩
theorem addMemory_none (W : World) (p : Value) (cs : Array Value) (h : NoneS W p) : Calls Try.prog 49 #[p, .agg cs] W fun E w' => E = .returned (.tuple #[.int .i64 (-1), .int .i64 1]) ∧ Below W.heap.size W w' := by
  have H := Lib.hid (fun X hX => is_none X p (h.below hX))
  clear h
  go_enter Try.func49, Try.ntmps49
  go_wp2_with (go_at_call 72; refine (H.out _ ((Below.refl _ _).alloc (Nat.le_refl _) _)).mono ?_; rintro E w' ⟨rfl, rfl⟩)
  go_ret2
  exact ⟨rfl, (Below.refl _ _).alloc (Nat.le_refl _) _⟩
theorem addGlobal_none (W : World) (p : Value) (cs : Array Value) (v : Value) (h : NoneS W p) : Calls Try.prog 50 #[p, .agg cs, v] W fun E w' => E = .returned (.tuple #[.int .i64 (-1), .int .i64 1]) ∧ Below W.heap.size W w' := by
  have H := Lib.hid (fun X hX => is_none X p (h.below hX))
  clear h
  go_enter Try.func50, Try.ntmps50
  go_wp2_with (go_at_call 72; refine (H.out _ ((Below.refl _ _).alloc (Nat.le_refl _) _)).mono ?_; rintro E w' ⟨rfl, rfl⟩)
  go_ret2
  exact ⟨rfl, (Below.refl _ _).alloc (Nat.le_refl _) _⟩
theorem table_none (W : World) (p : Value) (i : Int) (h : NoneS W p) : Calls Try.prog 89 #[p, .int .i64 i] W fun E w' => E = .returned (.pointer none) ∧ W = w' := by
  have H := Lib.hid (is_none W p h)
  clear h
  go_enter Try.func89, Try.ntmps89
  go_wp2_with (go_at_call 72; refine H.out.mono ?_; rintro E w' ⟨rfl, rfl⟩)
  go_ret
  exact ⟨rfl, rfl⟩
theorem memory_none (W : World) (p : Value) (i : Int) (h : NoneS W p) : Calls Try.prog 90 #[p, .int .i64 i] W fun E w' => E = .returned (.pointer none) ∧ W = w' := by
  have H := Lib.hid (is_none W p h)
  clear h
  go_enter Try.func90, Try.ntmps90
  go_wp2_with (go_at_call 72; refine H.out.mono ?_; rintro E w' ⟨rfl, rfl⟩)
  go_ret
  exact ⟨rfl, rfl⟩
theorem global_none (W : World) (p : Value) (i : Int) (h : NoneS W p) : Calls Try.prog 91 #[p, .int .i64 i] W fun E w' => E = .returned (.pointer none) ∧ W = w' := by
  have H := Lib.hid (is_none W p h)
  clear h
  go_enter Try.func91, Try.ntmps91
  go_wp2_with (go_at_call 72; refine H.out.mono ?_; rintro E w' ⟨rfl, rfl⟩)
  go_ret
  exact ⟨rfl, rfl⟩
def zTy : List Value := [.slice none 0 0, .slice none 0 0]
def zFn : Value := .agg #[.slice none 0 0, .slice none 0 0, .bool false, .string ⟨#[]⟩, .int .i64 0, .int .i64 0, .int .i64 0, .slice none 0 0, .slice none 0 0, .int .i64 0]
def zInst : Value := .agg #[.slice none 0 0, .slice none 0 0, .slice none 0 0, .slice none 0 0, .slice none 0 0, .slice none 0 0]
def zExt : Value := .agg #[.int .i64 0, .slice none 0 0, .slice none 0 0, .int .u32 0, .int .u32 0, .bool false, .int .u8 0, .bool false]
theorem func_none (W : World) (p : Value) (i : Int) (h : NoneS W p) : Calls Try.prog 46 #[p, .int .i64 i] W fun E w' => E = .returned (.tuple #[zFn, .bool false]) ∧ Below W.heap.size W w' := by
  have H := Lib.hid (fun X hX => is_none X p (h.below hX))
  clear h
  go_enter Try.func46, Try.ntmps46
  go_wp2_with (go_at_call 72; refine (H.out _ ((Below.refl _ _).alloc (Nat.le_refl _) _)).mono ?_; rintro E w' ⟨rfl, rfl⟩)
  exact bodyPost_ret (v := .tuple #[zFn, .bool false]) (by simp [results, Try.results46, go_sem, zFn]) rfl ⟨rfl, (Below.refl _ _).alloc (Nat.le_refl _) _⟩
theorem inst_none (W : World) (p : Value) (i : Int) (h : NoneS W p) : Calls Try.prog 47 #[p, .int .i64 i] W fun E w' => E = .returned (.tuple #[zInst, .bool false]) ∧ Below W.heap.size W w' := by
  have H := Lib.hid (fun X hX => is_none X p (h.below hX))
  clear h
  go_enter Try.func47, Try.ntmps47
  go_wp2_with (go_at_call 72; refine (H.out _ ((Below.refl _ _).alloc (Nat.le_refl _) _)).mono ?_; rintro E w' ⟨rfl, rfl⟩)
  exact bodyPost_ret (v := .tuple #[zInst, .bool false]) (by simp [results, Try.results47, go_sem, zInst]) rfl ⟨rfl, (Below.refl _ _).alloc (Nat.le_refl _) _⟩
theorem count_none (W : World) (p : Value) (h : NoneS W p) : Calls Try.prog 92 #[p] W fun E w' => E = .returned (.tuple #[.int .i64 0, .int .i64 0, .int .i64 0, .int .i64 0, .int .i64 0]) ∧ W = w' := by
  have H := Lib.hid (is_none W p h)
  clear h
  go_enter Try.func92, Try.ntmps92
  go_wp2_with (go_at_call 72; refine H.out.mono ?_; rintro E w' ⟨rfl, rfl⟩)
  exact bodyPost_ret (v := .tuple #[.int .i64 0, .int .i64 0, .int .i64 0, .int .i64 0, .int .i64 0]) (by simp [results, Try.results92, go_sem]) rfl ⟨rfl, rfl⟩
theorem indexFunc_nil (W : World) (A : Option Addr) (c : Nat) (f : Value) : Calls Try.prog 111 #[.slice A 0 c, f] W fun E w' => E = .returned (.int .i64 (-1)) ∧ W = w' := by
  go_enter Try.func111, Try.ntmps111
  go_wp2
  go_loop [8] (fun i => i = .int .i64 0) (fun _ => 0)
  case atStart => rfl
  case round =>
    obtain rfl := hrel
    go_wp2
    go_ret
    exact ⟨rfl, rfl⟩
theorem export_none (W : World) (p : Value) (i : Int) (s : ByteArray) (h : NoneS W p) : Calls Try.prog 86 #[p, .int .i64 i, .string s] W fun E w' => E = .returned (.tuple #[.agg #[.int .i64 0, .int .i64 0], .bool false]) ∧ Below W.heap.size W w' := by
  have H := Lib.hid (fun X hX => inst_none X p i (h.below hX))
  clear h
  go_enter Try.func86, Try.ntmps86
  go_wp2_with fail
  refine (H.out _ (by exact ((Below.refl _ _).alloc (Nat.le_refl _) _).alloc (by simp) _)).mono ?_
  rintro E W1 ⟨rfl, hB1⟩
  have hs1 := hB1.size
  simp at hs1
  have b6 := ((Blk.new (W.alloc (.cells #[.string s] 9)) #[.int .i64 0, .int .i64 0] 184)).below hB1 (by simp)
  rw [World.size_alloc] at b6
  have c60 : W1.cell? ⟨W.heap.size + 1, 0, none⟩ = some (.int .i64 0) := by rw [b6.cell]; rfl
  have c61 : W1.cell? ⟨W.heap.size + 1, 1, none⟩ = some (.int .i64 0) := by rw [b6.cell]; rfl
  have f60 := b6.frozen 0
  have f61 := b6.frozen 1
  have HB := Lib.hid ((((Below.refl W.heap.size W).alloc (Nat.le_refl _) (.cells #[.string s] 9)).alloc (by simp) (.cells #[.int .i64 0, .int .i64 0] 184)).trans (hB1.mono (by simp; omega)))
  simp only [zInst]
  have hz : W.heap.size + 1 < W1.heap.size := by omega
  clear b6 hB1 hs1
  go_wp2_with (go_at_call 111; refine (indexFunc_nil _ _ _ _).mono ?_; rintro E w' ⟨rfl, rfl⟩)
  refine bodyPost_ret (v := .tuple #[.agg #[.int .i64 0, .int .i64 0], .bool false]) (by simp [results, Try.results86, go_sem, c60, c61, f60, f61, hz]) rfl ⟨rfl, ?_⟩
  exact ((HB.out.setCell (p := ⟨W.heap.size + 1, 0, none⟩) (by simp) _).setCell (p := ⟨W.heap.size + 1, 1, none⟩) (by simp) _).alloc (by simp; omega) _
end Go.Proofs.Ytfndlpfceokloaa
