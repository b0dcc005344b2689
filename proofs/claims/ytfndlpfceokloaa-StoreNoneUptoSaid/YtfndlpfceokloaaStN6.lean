/- Lemmas towards this claim's statement: what the functions named here come to, each under the conditions that it states itself. -/
import Derived.Test.YtfndlpfceokloaaStN5
import Derived.Test.YtfndlpfceokloaaStA3
namespace Go.Proofs.Ytfndlpfceokloaa
open Go.RowKit Go.Shelf YtfndlpfceokloaaB Go.Proofs.YtfndlpfceokloaaW.PrintWords
/-- What stands all along. -/
structure Pn (W : World) (gs gl : Nat) (o : O28) (X : World) : Prop where
  op : Blk X W.heap.size o.cells.toArray 99
  st : Blk X gs #[.bool false, .slice none 0 0, .slice none 0 0, .slice none 0 0, .slice none 0 0, .slice none 0 0] 129
  ls : Blk X gl #[.pointer none, .pointer (some ⟨gs, 0, none⟩)] 101
  b : Below W.heap.size W X
theorem Pn.below {W X X' : World} {gs gl : Nat} {o : O28} (h : Pn W gs gl o X) (hb : Below X.heap.size X X') : Pn W gs gl o X' := ⟨h.op.below hb h.op.lt, h.st.below hb h.st.lt, h.ls.below hb h.ls.lt, below_from h.b hb⟩
theorem Pn.alloc {W X : World} {gs gl : Nat} {o : O28} (h : Pn W gs gl o X) (ob : Obj) : Pn W gs gl o (X.alloc ob) := h.below ((Below.refl _ _).alloc (Nat.le_refl _) _)
theorem Pn.none1 {W X : World} {gs gl : Nat} {o : O28} (_ : Pn W gs gl o X) : NoneS X (.pointer none) := .inl rfl
theorem Pn.none2 {W X : World} {gs gl : Nat} {o : O28} (h : Pn W gs gl o X) : NoneS X (.pointer (some ⟨gs, 0, none⟩)) := .inr ⟨gs, rfl, h.st.cell 0⟩
attribute [local go_sem] O28.sz
theorem fold26 (o : O28) : List.foldl (fun (cs : Array Value) (x : Value × Nat) => cs.setIfInBounds x.snd x.fst) #[.int .i64 0, .int .i64 0, .int .i64 0, .slice none 0 0, .slice none 0 0, .bool false, .string ⟨#[]⟩, .int .i64 0, .int .i64 0, .int .i64 0, .slice none 0 0, .slice none 0 0, .int .i64 0, .int .u32 0, .int .u32 0, .bool false, .int .u8 0, .bool false, .int .u64 0, .slice none 0 0, .slice none 0 0, .slice none 0 0, .slice none 0 0, .slice none 0 0, .slice none 0 0, .string ⟨#[]⟩] o.cells.zipIdx = o.cells.toArray := by
  simp [O28.cells]
set_option maxRecDepth 100000 in
set_option maxHeartbeats 2000000 in
theorem storeNone_any (W : World) (o : O28) (ho : o.ok) : Calls Try.prog 9 #[.agg o.cells.toArray] W fun E w' => E = .returned (.bool true) ∧ Below W.heap.size W w' := by
  obtain ⟨W0, hW0⟩ : ∃ W0, W.alloc (.cells o.cells.toArray 99) = W0 := ⟨_, rfl⟩
  have HW0 := Lib.hid hW0
  have HB0 := Lib.hid (hW0 ▸ (Below.refl _ _).alloc (Nat.le_refl _) _ : Below W.heap.size W W0)
  have HO0 := Lib.hid (hW0 ▸ Blk.new W _ _ : Blk W0 W.heap.size o.cells.toArray 99)
  have HA := Lib.hid (awake28_any W0)
  have HF := Lib.hid (fun X g c h => few28_one X g c o h ho)
  clear hW0 ho
  go_enter Try.func9, Try.ntmps9
  go_wp2_with fail
  rw [HW0.out]
  refine HA.out.mono ?_
  rintro E W1 ⟨rfl, hB1⟩
  have HB1 := Lib.hid (below_from HB0.out hB1)
  have HO1 := Lib.hid (HO0.out.below hB1 HO0.out.lt)
  clear hB1
  have hlt0 := HO1.out.lt
  go_wp2_with (refine wpList_load_mid rfl 99 (.tmp 1) rfl W.heap.size 0 rfl o.cells _ (rangeAt_blk HO1.out) Try.underlying99 rfl (by kernel_rfl) ?_)
  rw [fold26]
  refine (HF.out _ W1.heap.size 1 (Blk.new _ _ _)).mono ?_
  rintro E W2 ⟨⟨b, rfl⟩, hB2⟩
  have hB2' := (((Below.refl W1.heap.size W1).alloc (Nat.le_refl _) _).trans (hB2.mono (by simp)))
  have HB2 := Lib.hid (below_from HB1.out hB2')
  have HO2 := Lib.hid (HO1.out.below hB2' HO1.out.lt)
  clear hB2 hB2'
  cases b
  · go_wp2_with fail
    go_ret
    exact ⟨rfl, HB2.out⟩
  go_wp2_with fail
  obtain ⟨W3, hW3⟩ : ∃ W3, (W2.alloc (.cells #[.bool false, .slice none 0 0, .slice none 0 0, .slice none 0 0, .slice none 0 0, .slice none 0 0] 129)).alloc (.cells #[.pointer none, .pointer (some ⟨W2.heap.size, 0, none⟩)] 101) = W3 := ⟨_, rfl⟩
  have hgl := Blk.new (W2.alloc (.cells #[.bool false, .slice none 0 0, .slice none 0 0, .slice none 0 0, .slice none 0 0, .slice none 0 0] 129)) #[.pointer none, .pointer (some ⟨W2.heap.size, 0, none⟩)] 101
  rw [World.size_alloc, hW3] at hgl
  have HN3 := Lib.hid (⟨hW3 ▸ (HO2.out.alloc _).alloc _, hW3 ▸ (Blk.new W2 _ _).alloc _, hgl, hW3 ▸ (HB2.out.alloc HB2.out.size _).alloc (by have := HB2.out.size; rw [World.size_alloc]; omega) _⟩ : Pn W W2.heap.size (W2.heap.size + 1) o W3)
  rw [hW3]
  generalize W2.heap.size = gs at *
  clear hW3 hgl HO2 HB2 HB1 HO1 hlt0 HB0 HO0 HA HF HW0
  go_loopw [23] (fun i wr => ∃ j : Nat, j ≤ 2 ∧ i = .int .i64 j ∧ Hid (Pn W gs (gs + 1) o wr)) (fun i _ => 2 - (intOf i).toNat)
  case atStart => exact ⟨0, by omega, rfl, HN3⟩
  case round =>
    obtain ⟨j, hj, rfl, HN⟩ := hrel
    by_cases hlt : j < 2
    · have hp : ∃ p, wr.cell? ⟨gs + 1, j, none⟩ = some p ∧ (∀ X, Pn W gs (gs + 1) o X → NoneS X p) := by
        have : j = 0 ∨ j = 1 := by omega
        rcases this with rfl | rfl
        · exact ⟨.pointer none, HN.out.ls.cell 0, fun X h => h.none1⟩
        · exact ⟨.pointer (some ⟨gs, 0, none⟩), HN.out.ls.cell 1, fun X h => h.none2⟩
      obtain ⟨p, hcp, hNp⟩ := hp
      have HNP := Lib.hid hNp
      clear hNp
      have hlt0 := HN.out.op.lt
      have hltg := HN.out.ls.lt
      have c13 : wr.cell? ⟨W.heap.size, 13, none⟩ = some (.int .u32 o.mn) := HN.out.op.cell 13
      have c14 : wr.cell? ⟨W.heap.size, 14, none⟩ = some (.int .u32 o.mx) := HN.out.op.cell 14
      have c15 : wr.cell? ⟨W.heap.size, 15, none⟩ = some (.bool o.has) := HN.out.op.cell 15
      go_wp2_with fail
      refine (addTable_none _ p _ (HNP.out _ HN.out)).mono ?_
      rintro E W4 ⟨rfl, hB4⟩
      have HN4 := Lib.hid (HN.out.below hB4)
      clear c13 c14 c15 hB4 hcp hltg
      have hlt4 := HN4.out.op.lt
      have c13 : W4.cell? ⟨W.heap.size, 13, none⟩ = some (.int .u32 o.mn) := HN4.out.op.cell 13
      have c14 : W4.cell? ⟨W.heap.size, 14, none⟩ = some (.int .u32 o.mx) := HN4.out.op.cell 14
      have c15 : W4.cell? ⟨W.heap.size, 15, none⟩ = some (.bool o.has) := HN4.out.op.cell 15
      go_wp2_with fail
      refine (addMemory_none _ p _ (HNP.out _ HN4.out)).mono ?_
      rintro E W5 ⟨rfl, hB5⟩
      have HN5 := Lib.hid (HN4.out.below hB5)
      clear c13 c14 c15 hB5 hlt4
      have hlt5 := HN5.out.op.lt
      have c16 : W5.cell? ⟨W.heap.size, 16, none⟩ = some (.int .u8 o.gt) := HN5.out.op.cell 16
      have c17 : W5.cell? ⟨W.heap.size, 17, none⟩ = some (.bool o.gm) := HN5.out.op.cell 17
      have c18 : W5.cell? ⟨W.heap.size, 18, none⟩ = some (.int .u64 o.v) := HN5.out.op.cell 18
      go_wp2_with fail
      refine (addGlobal_none _ p _ _ (HNP.out _ HN5.out)).mono ?_
      rintro E W6 ⟨rfl, hB6⟩
      have HN6 := Lib.hid (HN5.out.below hB6)
      clear c16 c17 c18 hB6 hlt5
      have hlt6 := HN6.out.op.lt
      have c3 : W6.cell? ⟨W.heap.size, 3, none⟩ = some (.slice o.a.A o.a.n o.a.c) := HN6.out.op.cell 3
      have c4 : W6.cell? ⟨W.heap.size, 4, none⟩ = some (.slice o.b.A o.b.n o.b.c) := HN6.out.op.cell 4
      have c5 : W6.cell? ⟨W.heap.size, 5, none⟩ = some (.bool o.host) := HN6.out.op.cell 5
      have c6 : W6.cell? ⟨W.heap.size, 6, none⟩ = some (.string o.nm) := HN6.out.op.cell 6
      have c7 : W6.cell? ⟨W.heap.size, 7, none⟩ = some (.int .i64 o.inst) := HN6.out.op.cell 7
      have c8 : W6.cell? ⟨W.heap.size, 8, none⟩ = some (.int .i64 o.cp) := HN6.out.op.cell 8
      have c9 : W6.cell? ⟨W.heap.size, 9, none⟩ = some (.int .i64 o.cr) := HN6.out.op.cell 9
      have c10 : W6.cell? ⟨W.heap.size, 10, none⟩ = some (.slice o.lo.A o.lo.n o.lo.c) := HN6.out.op.cell 10
      have c11 : W6.cell? ⟨W.heap.size, 11, none⟩ = some (.slice o.st.A o.st.n o.st.c) := HN6.out.op.cell 11
      have c12 : W6.cell? ⟨W.heap.size, 12, none⟩ = some (.int .i64 o.h) := HN6.out.op.cell 12
      go_wp2_with (go_at_call 51; refine (made_none _ p (HNP.out _ HN6.out)).mono ?_; rintro E w' ⟨rfl, rfl⟩)
      refine (addFunc_none _ p _ (HNP.out _ HN6.out)).mono ?_
      rintro E W7 ⟨rfl, hB7⟩
      have HN7 := Lib.hid (HN6.out.below hB7)
      clear c3 c4 c5 c6 c7 c8 c9 c10 c11 c12 hB7 hlt6
      have hlt7 := HN7.out.op.lt
      have c19 : W7.cell? ⟨W.heap.size, 19, none⟩ = some (.slice o.ty.A o.ty.n o.ty.c) := HN7.out.op.cell 19
      have c20 : W7.cell? ⟨W.heap.size, 20, none⟩ = some (.slice o.fu.A o.fu.n o.fu.c) := HN7.out.op.cell 20
      have c21 : W7.cell? ⟨W.heap.size, 21, none⟩ = some (.slice o.ta.A o.ta.n o.ta.c) := HN7.out.op.cell 21
      have c22 : W7.cell? ⟨W.heap.size, 22, none⟩ = some (.slice o.me.A o.me.n o.me.c) := HN7.out.op.cell 22
      have c23 : W7.cell? ⟨W.heap.size, 23, none⟩ = some (.slice o.gl.A o.gl.n o.gl.c) := HN7.out.op.cell 23
      have c24 : W7.cell? ⟨W.heap.size, 24, none⟩ = some (.slice o.ex.A o.ex.n o.ex.c) := HN7.out.op.cell 24
      go_wp2_with fail
      refine (addInst_none _ p _ (HNP.out _ HN7.out)).mono ?_
      rintro E W8 ⟨rfl, hB8⟩
      have HN8 := Lib.hid (HN7.out.below hB8)
      clear c19 c20 c21 c22 c23 c24 hB8 hlt7
      have hlt8 := HN8.out.op.lt
      have HN9 := Lib.hid (HN8.out.alloc (.cells #[.slice none 0 0, .slice none 0 0, .slice none 0 0, .slice none 0 0, .slice none 0 0] 142))
      have HR := Lib.hid (let h := Blk.new W8 #[.slice none 0 0, .slice none 0 0, .slice none 0 0, .slice none 0 0, .slice none 0 0] 142; ⟨W8.heap.size, rfl, h.cell 0, h.cell 1, h.cell 2, h.cell 3, h.cell 4⟩ : NoneR (W8.alloc (.cells #[.slice none 0 0, .slice none 0 0, .slice none 0 0, .slice none 0 0, .slice none 0 0] 142)) (.pointer (some ⟨W8.heap.size, 0, none⟩)))
      go_wp2_with (refine wpList_load_mid rfl 99 (.tmp 1) rfl W.heap.size 0 rfl o.cells _ (rangeAt_blk HN9.out.op) Try.underlying99 rfl (by kernel_rfl) ?_)
      refine (asked_none _ p _ o (HNP.out _ HN9.out) HR.out).mono ?_
      rintro E W10 ⟨rfl, hB10⟩
      have HN10 := Lib.hid (HN9.out.below hB10)
      clear hB10
      go_wp2_with fail
      go_roundw
      case rel => exact ⟨j + 1, by omega, by go_num, HN10⟩
      case measure => simp [intOf]; omega
    · obtain rfl : j = 2 := by omega
      go_wp2_with fail
      go_ret
      exact ⟨rfl, HN.out.b⟩
end Go.Proofs.Ytfndlpfceokloaa
