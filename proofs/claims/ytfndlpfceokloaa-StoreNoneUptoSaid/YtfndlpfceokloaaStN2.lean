/- Lemmas towards this claim's statement: what the functions named here come to, each under the conditions that it states itself. -/
import Derived.Test.YtfndlpfceokloaaStN
namespace Go.Proofs.Ytfndlpfceokloaa
open Go.RowKit Go.Shelf YtfndlpfceokloaaB Go.Proofs.YtfndlpfceokloaaW.PrintWords
set_option maxRecDepth 100000 in
theorem extern_none (W : World) (p : Value) (k i : Int) (h : NoneS W p) : Calls Try.prog 71 #[p, .agg #[.int .i64 k, .int .i64 i]] W fun E w' => E = .returned (.tuple #[zExt, .bool false]) ∧ Below W.heap.size W w' := by
  have HF := Lib.hid (fun X hX => func_none X p i (h.below hX))
  have HT := Lib.hid (fun X hX => table_none X p i (h.below hX))
  have HM := Lib.hid (fun X hX => memory_none X p i (h.below hX))
  have HG := Lib.hid (fun X hX => global_none X p i (h.below hX))
  have HB := Lib.hid (((Below.refl W.heap.size W).alloc (Nat.le_refl _) (.cells #[.int .i64 k, .int .i64 i] 184)).alloc (by simp) (.cells #[.int .i64 0, .slice none 0 0, .slice none 0 0, .int .u32 0, .int .u32 0, .bool false, .int .u8 0, .bool false] 180))
  clear h
  by_cases k0 : k = 0
  · subst k0
    go_enter Try.func71, Try.ntmps71
    go_wp2_with fail
    refine (HF.out _ (by exact HB.out)).mono ?_
    rintro E W1 ⟨rfl, hB1⟩
    have b4 := ((Blk.new (W.alloc (.cells #[.int .i64 0, .int .i64 i] 184)) #[.int .i64 0, .slice none 0 0, .slice none 0 0, .int .u32 0, .int .u32 0, .bool false, .int .u8 0, .bool false] 180)).below hB1 (by simp)
    rw [World.size_alloc] at b4
    have hs1 := hB1.size
    simp at hs1
    have hz : W.heap.size + 1 < W1.heap.size := by omega
    have HB1 := Lib.hid (HB.out.trans (hB1.mono (by simp; omega)))
    have f0 := b4.frozen 0
    have f1 := b4.frozen 1
    have f2 := b4.frozen 2
    have f3 := b4.frozen 3
    have f4 := b4.frozen 4
    have f5 := b4.frozen 5
    have f6 := b4.frozen 6
    have f7 := b4.frozen 7
    have c0 := b4.cell 0
    have c1 := b4.cell 1
    have c2 := b4.cell 2
    have c3 := b4.cell 3
    have c4 := b4.cell 4
    have c5 := b4.cell 5
    have c6 := b4.cell 6
    have c7 := b4.cell 7
    simp only [List.getElem?_toArray, List.getElem?_cons_zero, List.getElem?_cons_succ] at c0 c1 c2 c3 c4 c5 c6 c7
    simp only [zFn]
    clear b4 hB1 hs1
    go_wp2_with fail
    refine bodyPost_ret (v := .tuple #[zExt, .bool false]) (by simp [results, Try.results71, go_sem, zExt, c0, c1, c2, c3, c4, c5, c6, c7, hz]) rfl ⟨rfl, ?_⟩
    exact ((((((((HB1.out.setCell (p := ⟨W.heap.size + 1, 0, none⟩) (by simp) _).setCell (p := ⟨W.heap.size + 1, 1, none⟩) (by simp) _).setCell (p := ⟨W.heap.size + 1, 2, none⟩) (by simp) _).setCell (p := ⟨W.heap.size + 1, 3, none⟩) (by simp) _).setCell (p := ⟨W.heap.size + 1, 4, none⟩) (by simp) _).setCell (p := ⟨W.heap.size + 1, 5, none⟩) (by simp) _).setCell (p := ⟨W.heap.size + 1, 6, none⟩) (by simp) _).setCell (p := ⟨W.heap.size + 1, 7, none⟩) (by simp) _).alloc (by simp; omega) _
  have e0 : (k == 0) = false := beq_eq_false_iff_ne.2 k0
  clear k0 HF
  by_cases k1 : k = 1
  · subst k1
    go_enter Try.func71, Try.ntmps71
    go_wp2_with (go_at_call 89; refine (HT.out _ (by exact HB.out)).mono ?_; rintro E W1 ⟨rfl, rfl⟩)
    exact bodyPost_ret (v := .tuple #[zExt, .bool false]) (by simp [results, Try.results71, go_sem, zExt]) rfl ⟨rfl, HB.out⟩
  have e1 : (k == 1) = false := beq_eq_false_iff_ne.2 k1
  clear k1
  by_cases k2 : k = 2
  · subst k2
    go_enter Try.func71, Try.ntmps71
    go_wp2_with (go_at_call 90; refine (HM.out _ (by exact HB.out)).mono ?_; rintro E W1 ⟨rfl, rfl⟩)
    exact bodyPost_ret (v := .tuple #[zExt, .bool false]) (by simp [results, Try.results71, go_sem, zExt]) rfl ⟨rfl, HB.out⟩
  have e2 : (k == 2) = false := beq_eq_false_iff_ne.2 k2
  clear k2
  by_cases k3 : k = 3
  · subst k3
    go_enter Try.func71, Try.ntmps71
    go_wp2_with (go_at_call 91; refine (HG.out _ (by exact HB.out)).mono ?_; rintro E W1 ⟨rfl, rfl⟩)
    exact bodyPost_ret (v := .tuple #[zExt, .bool false]) (by simp [results, Try.results71, go_sem, zExt]) rfl ⟨rfl, HB.out⟩
  have e3 : (k == 3) = false := beq_eq_false_iff_ne.2 k3
  clear k3
  go_enter Try.func71, Try.ntmps71
  go_wp2_with fail
  exact bodyPost_ret (v := .tuple #[zExt, .bool false]) (by simp [results, Try.results71, go_sem, zExt]) rfl ⟨rfl, HB.out⟩
/-- The document's store of nothing. -/
def NoneR (W : World) (r : Value) : Prop := ∃ g, r = .pointer (some ⟨g, 0, none⟩) ∧ W.cell? ⟨g, 0, none⟩ = some (.slice none 0 0) ∧ W.cell? ⟨g, 1, none⟩ = some (.slice none 0 0) ∧ W.cell? ⟨g, 2, none⟩ = some (.slice none 0 0) ∧ W.cell? ⟨g, 3, none⟩ = some (.slice none 0 0) ∧ W.cell? ⟨g, 4, none⟩ = some (.slice none 0 0)
theorem NoneR.below {W W' : World} {r : Value} (h : NoneR W r) (hb : Below W.heap.size W W') : NoneR W' r := by
  obtain ⟨g, e, h0, h1, h2, h3, h4⟩ := h
  exact ⟨g, e, pw_cell_below hb h0, pw_cell_below hb h1, pw_cell_below hb h2, pw_cell_below hb h3, pw_cell_below hb h4⟩
def zExtR : Value := .agg #[.int .i64 0, .slice none 0 0, .slice none 0 0, .int .u32 0, .int .u32 0, .bool false, .int .u8 0, .bool false]
set_option maxRecDepth 100000 in
theorem rextern_none (W : World) (r : Value) (k i : Int) (h : NoneR W r) : Calls Try.prog 83 #[r, .int .i64 k, .int .i64 i] W fun E w' => E = .returned (.tuple #[zExtR, .bool false]) ∧ Below W.heap.size W w' := by
  obtain ⟨g, rfl, c0, c1, c2, c3, c4⟩ := h
  have hg := World.block_lt_of_cell? _ _ c0
  have HB := Lib.hid (((Below.refl W.heap.size W).alloc (Nat.le_refl _) (.cells #[.int .i64 0, .slice none 0 0, .slice none 0 0, .int .u32 0, .int .u32 0, .bool false, .int .u8 0, .bool false] 194)))
  by_cases hi : i < 0
  · go_enter Try.func83, Try.ntmps83
    go_wp2_with fail
    exact bodyPost_ret (v := .tuple #[zExtR, .bool false]) (by simp [results, Try.results83, go_sem, zExtR]) rfl ⟨rfl, HB.out⟩
  · skip
    by_cases k0 : k = 0
    · subst k0
      go_enter Try.func83, Try.ntmps83
      go_wp2_with fail
      exact bodyPost_ret (v := .tuple #[zExtR, .bool false]) (by simp [results, Try.results83, go_sem, zExtR]) rfl ⟨rfl, HB.out⟩
    have e0 : (k == 0) = false := beq_eq_false_iff_ne.2 k0
    clear k0
    by_cases k1 : k = 1
    · subst k1
      go_enter Try.func83, Try.ntmps83
      go_wp2_with fail
      exact bodyPost_ret (v := .tuple #[zExtR, .bool false]) (by simp [results, Try.results83, go_sem, zExtR]) rfl ⟨rfl, HB.out⟩
    have e1 : (k == 1) = false := beq_eq_false_iff_ne.2 k1
    clear k1
    by_cases k2 : k = 2
    · subst k2
      go_enter Try.func83, Try.ntmps83
      go_wp2_with fail
      exact bodyPost_ret (v := .tuple #[zExtR, .bool false]) (by simp [results, Try.results83, go_sem, zExtR]) rfl ⟨rfl, HB.out⟩
    have e2 : (k == 2) = false := beq_eq_false_iff_ne.2 k2
    clear k2
    by_cases k3 : k = 3
    · subst k3
      go_enter Try.func83, Try.ntmps83
      go_wp2_with fail
      exact bodyPost_ret (v := .tuple #[zExtR, .bool false]) (by simp [results, Try.results83, go_sem, zExtR]) rfl ⟨rfl, HB.out⟩
    have e3 : (k == 3) = false := beq_eq_false_iff_ne.2 k3
    clear k3
    go_enter Try.func83, Try.ntmps83
    go_wp2_with fail
    exact bodyPost_ret (v := .tuple #[zExtR, .bool false]) (by simp [results, Try.results83, go_sem, zExtR]) rfl ⟨rfl, HB.out⟩
set_option maxRecDepth 100000 in
theorem rexport_none (W : World) (r : Value) (i : Int) (s : ByteArray) (h : NoneR W r) : Calls Try.prog 87 #[r, .int .i64 i, .string s] W fun E w' => E = .returned (.tuple #[.int .i64 0, .int .i64 0, .bool false]) ∧ Below W.heap.size W w' := by
  obtain ⟨g, rfl, c0, c1, c2, c3, c4⟩ := h
  have hg := World.block_lt_of_cell? _ _ c0
  by_cases hi : i < 0
  · go_enter Try.func87, Try.ntmps87
    go_wp2_with fail
    go_ret3
    exact ⟨rfl, Below.refl _ _⟩
  · go_enter Try.func87, Try.ntmps87
    go_wp2_with fail
    go_ret3
    exact ⟨rfl, Below.refl _ _⟩
end Go.Proofs.Ytfndlpfceokloaa
