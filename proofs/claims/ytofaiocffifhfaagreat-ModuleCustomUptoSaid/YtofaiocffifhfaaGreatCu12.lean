/- Lemmas towards this claim's statement: what the functions named here come to, each under the conditions that it states itself. -/
import Derived.Test.YtofaiocffifhfaaGreatCu11
namespace Go.Proofs.YtofaiocffifhfaaGreat
open Go.RowKit Go.Shelf YtofaiocffifhfaaGreatB Go.Proofs.YtofaiocffifhfaaGreatW.PrintWords
theorem limits20_row (W1 W : World) (n : Nat) (hn : n ≤ W1.heap.size) (v : Value) (xs : List (Int × Int × Bool)) (ok : Nat → Prop) (hB : Below W1.heap.size W1 W) (hF : Row kLim (fun k => ok k ∧ k < W1.heap.size) W1 v xs) (hl : xs.length ≤ 1048576) :
  Calls Tryz.prog 30 #[v] W (fun E W' => ∃ u, E = .returned u ∧ Row kLim (fun k => W.heap.size ≤ k) W' u xs ∧ Below W.heap.size W W') := by
 obtain ⟨A, c, rfl, hc, hF⟩ := hF
 refine (limits20_any W A c xs _ (Ft.below hF hB) hl).mono ?_
 rintro E W' ⟨⟨u, rfl, ho⟩, hb⟩
 exact ⟨u, rfl, Row.of_own (ho.mono (fun k hk => hk.elim)), hb⟩
theorem z11 {X : World} {g : Nat} {t : TypeId} (h : Blk X g #[.slice none 0 0, .slice none 0 0, .slice none 0 0, .slice none 0 0, .slice none 0 0, .slice none 0 0, .slice none 0 0, .bool false, .int .u32 0, .slice none 0 0, .slice none 0 0] t) : X.cell? ⟨g, 0, none⟩ = some (.slice none 0 0) ∧ X.cell? ⟨g, 1, none⟩ = some (.slice none 0 0) ∧ X.cell? ⟨g, 2, none⟩ = some (.slice none 0 0) ∧ X.cell? ⟨g, 3, none⟩ = some (.slice none 0 0) ∧ X.cell? ⟨g, 4, none⟩ = some (.slice none 0 0) ∧ X.cell? ⟨g, 5, none⟩ = some (.slice none 0 0) ∧ X.cell? ⟨g, 6, none⟩ = some (.slice none 0 0) ∧ X.cell? ⟨g, 7, none⟩ = some (.bool false) ∧ X.cell? ⟨g, 8, none⟩ = some (.int .u32 0) ∧ X.cell? ⟨g, 9, none⟩ = some (.slice none 0 0) ∧ X.cell? ⟨g, 10, none⟩ = some (.slice none 0 0) ∧ X.frozen? ⟨g, 0, none⟩ = false ∧ X.frozen? ⟨g, 1, none⟩ = false ∧ X.frozen? ⟨g, 2, none⟩ = false ∧ X.frozen? ⟨g, 3, none⟩ = false ∧ X.frozen? ⟨g, 4, none⟩ = false ∧ X.frozen? ⟨g, 5, none⟩ = false ∧ X.frozen? ⟨g, 6, none⟩ = false ∧ X.frozen? ⟨g, 7, none⟩ = false ∧ X.frozen? ⟨g, 8, none⟩ = false ∧ X.frozen? ⟨g, 9, none⟩ = false ∧ X.frozen? ⟨g, 10, none⟩ = false ∧ g < X.heap.size :=
 ⟨h.cell 0, h.cell 1, h.cell 2, h.cell 3, h.cell 4, h.cell 5, h.cell 6, h.cell 7, h.cell 8, h.cell 9, h.cell 10, h.frozen 0, h.frozen 1, h.frozen 2, h.frozen 3, h.frozen 4, h.frozen 5, h.frozen 6, h.frozen 7, h.frozen 8, h.frozen 9, h.frozen 10, h.lt⟩
theorem fill11 {X : World} {g : Nat} {t : TypeId} {c0 c1 c2 c3 c4 c5 c6 c7 c8 c9 c10 : Value} (h : Blk X g #[c0, c1, c2, c3, c4, c5, c6, c7, c8, c9, c10] t) (v0 v1 v2 v3 v4 v5 v6 v7 v8 v9 v10 : Value) :
  Blk (((((((((((X.setCell ⟨g, 0, none⟩ v0).setCell ⟨g, 1, none⟩ v1).setCell ⟨g, 2, none⟩ v2).setCell ⟨g, 3, none⟩ v3).setCell ⟨g, 4, none⟩ v4).setCell ⟨g, 5, none⟩ v5).setCell ⟨g, 6, none⟩ v6).setCell ⟨g, 7, none⟩ v7).setCell ⟨g, 8, none⟩ v8).setCell ⟨g, 9, none⟩ v9).setCell ⟨g, 10, none⟩ v10) g #[v0, v1, v2, v3, v4, v5, v6, v7, v8, v9, v10] t := by
 have h0 : Blk (X.setCell ⟨g, 0, none⟩ v0) g #[v0, c1, c2, c3, c4, c5, c6, c7, c8, c9, c10] t := h.set 0 v0
 have h1 : Blk ((X.setCell ⟨g, 0, none⟩ v0).setCell ⟨g, 1, none⟩ v1) g #[v0, v1, c2, c3, c4, c5, c6, c7, c8, c9, c10] t := h0.set 1 v1
 have h2 : Blk (((X.setCell ⟨g, 0, none⟩ v0).setCell ⟨g, 1, none⟩ v1).setCell ⟨g, 2, none⟩ v2) g #[v0, v1, v2, c3, c4, c5, c6, c7, c8, c9, c10] t := h1.set 2 v2
 have h3 : Blk ((((X.setCell ⟨g, 0, none⟩ v0).setCell ⟨g, 1, none⟩ v1).setCell ⟨g, 2, none⟩ v2).setCell ⟨g, 3, none⟩ v3) g #[v0, v1, v2, v3, c4, c5, c6, c7, c8, c9, c10] t := h2.set 3 v3
 have h4 : Blk (((((X.setCell ⟨g, 0, none⟩ v0).setCell ⟨g, 1, none⟩ v1).setCell ⟨g, 2, none⟩ v2).setCell ⟨g, 3, none⟩ v3).setCell ⟨g, 4, none⟩ v4) g #[v0, v1, v2, v3, v4, c5, c6, c7, c8, c9, c10] t := h3.set 4 v4
 have h5 : Blk ((((((X.setCell ⟨g, 0, none⟩ v0).setCell ⟨g, 1, none⟩ v1).setCell ⟨g, 2, none⟩ v2).setCell ⟨g, 3, none⟩ v3).setCell ⟨g, 4, none⟩ v4).setCell ⟨g, 5, none⟩ v5) g #[v0, v1, v2, v3, v4, v5, c6, c7, c8, c9, c10] t := h4.set 5 v5
 have h6 : Blk (((((((X.setCell ⟨g, 0, none⟩ v0).setCell ⟨g, 1, none⟩ v1).setCell ⟨g, 2, none⟩ v2).setCell ⟨g, 3, none⟩ v3).setCell ⟨g, 4, none⟩ v4).setCell ⟨g, 5, none⟩ v5).setCell ⟨g, 6, none⟩ v6) g #[v0, v1, v2, v3, v4, v5, v6, c7, c8, c9, c10] t := h5.set 6 v6
 have h7 : Blk ((((((((X.setCell ⟨g, 0, none⟩ v0).setCell ⟨g, 1, none⟩ v1).setCell ⟨g, 2, none⟩ v2).setCell ⟨g, 3, none⟩ v3).setCell ⟨g, 4, none⟩ v4).setCell ⟨g, 5, none⟩ v5).setCell ⟨g, 6, none⟩ v6).setCell ⟨g, 7, none⟩ v7) g #[v0, v1, v2, v3, v4, v5, v6, v7, c8, c9, c10] t := h6.set 7 v7
 have h8 : Blk (((((((((X.setCell ⟨g, 0, none⟩ v0).setCell ⟨g, 1, none⟩ v1).setCell ⟨g, 2, none⟩ v2).setCell ⟨g, 3, none⟩ v3).setCell ⟨g, 4, none⟩ v4).setCell ⟨g, 5, none⟩ v5).setCell ⟨g, 6, none⟩ v6).setCell ⟨g, 7, none⟩ v7).setCell ⟨g, 8, none⟩ v8) g #[v0, v1, v2, v3, v4, v5, v6, v7, v8, c9, c10] t := h7.set 8 v8
 have h9 : Blk ((((((((((X.setCell ⟨g, 0, none⟩ v0).setCell ⟨g, 1, none⟩ v1).setCell ⟨g, 2, none⟩ v2).setCell ⟨g, 3, none⟩ v3).setCell ⟨g, 4, none⟩ v4).setCell ⟨g, 5, none⟩ v5).setCell ⟨g, 6, none⟩ v6).setCell ⟨g, 7, none⟩ v7).setCell ⟨g, 8, none⟩ v8).setCell ⟨g, 9, none⟩ v9) g #[v0, v1, v2, v3, v4, v5, v6, v7, v8, v9, c10] t := h8.set 9 v9
 have h10 : Blk (((((((((((X.setCell ⟨g, 0, none⟩ v0).setCell ⟨g, 1, none⟩ v1).setCell ⟨g, 2, none⟩ v2).setCell ⟨g, 3, none⟩ v3).setCell ⟨g, 4, none⟩ v4).setCell ⟨g, 5, none⟩ v5).setCell ⟨g, 6, none⟩ v6).setCell ⟨g, 7, none⟩ v7).setCell ⟨g, 8, none⟩ v8).setCell ⟨g, 9, none⟩ v9).setCell ⟨g, 10, none⟩ v10) g #[v0, v1, v2, v3, v4, v5, v6, v7, v8, v9, v10] t := h9.set 10 v10
 exact h10
theorem grown11 (X : World) (g : Nat) (v0 v1 v2 v3 v4 v5 v6 v7 v8 v9 v10 : Value) : X.grownBy (((((((((((X.setCell ⟨g, 0, none⟩ v0).setCell ⟨g, 1, none⟩ v1).setCell ⟨g, 2, none⟩ v2).setCell ⟨g, 3, none⟩ v3).setCell ⟨g, 4, none⟩ v4).setCell ⟨g, 5, none⟩ v5).setCell ⟨g, 6, none⟩ v6).setCell ⟨g, 7, none⟩ v7).setCell ⟨g, 8, none⟩ v8).setCell ⟨g, 9, none⟩ v9).setCell ⟨g, 10, none⟩ v10) (some g) := (((((((((((World.grownBy.refl X _).trans (gset _ g 0 v0)).trans (gset _ g 1 v1)).trans (gset _ g 2 v2)).trans (gset _ g 3 v3)).trans (gset _ g 4 v4)).trans (gset _ g 5 v5)).trans (gset _ g 6 v6)).trans (gset _ g 7 v7)).trans (gset _ g 8 v8)).trans (gset _ g 9 v9)).trans (gset _ g 10 v10)
theorem below11 {V X : World} {n : Nat} (hb : Below n V X) (g : Nat) (hg : n ≤ g) (v0 v1 v2 v3 v4 v5 v6 v7 v8 v9 v10 : Value) : Below n V (((((((((((X.setCell ⟨g, 0, none⟩ v0).setCell ⟨g, 1, none⟩ v1).setCell ⟨g, 2, none⟩ v2).setCell ⟨g, 3, none⟩ v3).setCell ⟨g, 4, none⟩ v4).setCell ⟨g, 5, none⟩ v5).setCell ⟨g, 6, none⟩ v6).setCell ⟨g, 7, none⟩ v7).setCell ⟨g, 8, none⟩ v8).setCell ⟨g, 9, none⟩ v9).setCell ⟨g, 10, none⟩ v10) := bl_set (bl_set (bl_set (bl_set (bl_set (bl_set (bl_set (bl_set (bl_set (bl_set (bl_set (hb) g 0 v0 hg) g 1 v1 hg) g 2 v2 hg) g 3 v3 hg) g 4 v4 hg) g 5 v5 hg) g 6 v6 hg) g 7 v7 hg) g 8 v8 hg) g 9 v9 hg) g 10 v10 hg
theorem other11 {X : World} {b : Nat} {cs : Array Value} {t : TypeId} (hb : Blk X b cs t) (g : Nat) (hg : b ≠ g) (v0 v1 v2 v3 v4 v5 v6 v7 v8 v9 v10 : Value) : Blk (((((((((((X.setCell ⟨g, 0, none⟩ v0).setCell ⟨g, 1, none⟩ v1).setCell ⟨g, 2, none⟩ v2).setCell ⟨g, 3, none⟩ v3).setCell ⟨g, 4, none⟩ v4).setCell ⟨g, 5, none⟩ v5).setCell ⟨g, 6, none⟩ v6).setCell ⟨g, 7, none⟩ v7).setCell ⟨g, 8, none⟩ v8).setCell ⟨g, 9, none⟩ v9).setCell ⟨g, 10, none⟩ v10) b cs t := (((((((((((hb).set_other _ v0 hg).set_other _ v1 hg).set_other _ v2 hg).set_other _ v3 hg).set_other _ v4 hg).set_other _ v5 hg).set_other _ v6 hg).set_other _ v7 hg).set_other _ v8 hg).set_other _ v9 hg).set_other _ v10 hg
theorem row11 {α : Type} {d : Kd α} {X : World} {n g : Nat} {v : Value} {xs : List α} (h : Row d (fun k => n ≤ k ∧ k ≠ g) X v xs) (v0 v1 v2 v3 v4 v5 v6 v7 v8 v9 v10 : Value) : Row d (fun k => n ≤ k ∧ k ≠ g) (((((((((((X.setCell ⟨g, 0, none⟩ v0).setCell ⟨g, 1, none⟩ v1).setCell ⟨g, 2, none⟩ v2).setCell ⟨g, 3, none⟩ v3).setCell ⟨g, 4, none⟩ v4).setCell ⟨g, 5, none⟩ v5).setCell ⟨g, 6, none⟩ v6).setCell ⟨g, 7, none⟩ v7).setCell ⟨g, 8, none⟩ v8).setCell ⟨g, 9, none⟩ v9).setCell ⟨g, 10, none⟩ v10) v xs :=
 h.step (agr_grown (grown11 X g v0 v1 v2 v3 v4 v5 v6 v7 v8 v9 v10) (fun k hk e => by injection e with e; exact hk.2 e))
set_option maxRecDepth 100000 in
set_option maxHeartbeats 4000000 in
theorem Plain20_any (W : World) (ok : Nat → Prop) (M : ModD) (fns : List FnD) (v0 v1 v2 v3 v4 v5 v6 v9 v10 : Value)
  (h0 : Row kFt ok W v0 M.types) (h1 : Row kImp ok W v1 M.imports) (h2 : Row kFn ok W v2 fns) (h3 : Row kLim ok W v3 M.tables) (h4 : Row kLim ok W v4 M.mems)
  (h5 : Row kCell ok W v5 M.globals) (h6 : Row kExp ok W v6 M.exports) (h9 : Row kElem ok W v9 M.elems) (h10 : Row kData ok W v10 M.datas)
  (l3 : M.tables.length ≤ 1048576) (l4 : M.mems.length ≤ 1048576)
  (l0 : M.types.length ≤ 1048576) (l1 : M.imports.length ≤ 1048576) (l6 : M.exports.length ≤ 1048576) (l2 : fns.length ≤ 1048576) (l5 : M.globals.length ≤ 1048576) (l9 : M.elems.length ≤ 1048576) (l10 : M.datas.length ≤ 1048576)
  (b2 : ∀ x ∈ fns, bkL x.body ≤ 1048576) (b5 : ∀ x ∈ M.globals, bkL x.init ≤ 1048576) (b9 : ∀ x ∈ M.elems, bkL x.off ≤ 1048576) (b10 : ∀ x ∈ M.datas, bkL x.off ≤ 1048576) :
  Calls Tryz.prog 11 #[.agg #[v0, v1, v2, v3, v4, v5, v6, .bool M.starts, .int .u32 M.start, v9, v10]] W (PlainPost20 W ok M fns) := by
 go_enter Tryz.func11, Tryz.ntmps11
 go_wp2_with fail
 have hz1 : ((W.alloc (.cells #[v0, v1, v2, v3, v4, v5, v6, .bool M.starts, .int .u32 M.start, v9, v10] 34)).alloc (.cells (mod0 (.slice none 0 0)) 47)).heap.size = W.heap.size + 2 := by rw [World.size_alloc, World.size_alloc]
 have hal : Below W.heap.size W ((W.alloc (.cells #[v0, v1, v2, v3, v4, v5, v6, .bool M.starts, .int .u32 M.start, v9, v10] 34)).alloc (.cells (mod0 (.slice none 0 0)) 47)) := bl_alloc (bl_alloc (Below.refl _ _) _) _
 have hPB := (Blk.new W #[v0, v1, v2, v3, v4, v5, v6, .bool M.starts, .int .u32 M.start, v9, v10] 34).alloc (.cells (mod0 (.slice none 0 0)) 47)
 have hOB := Blk.new (W.alloc (.cells #[v0, v1, v2, v3, v4, v5, v6, .bool M.starts, .int .u32 M.start, v9, v10] 34)) (mod0 (.slice none 0 0)) 47
 rw [World.size_alloc] at hOB
 simp only [mod0] at hz1 hal hPB hOB
 generalize (W.alloc (.cells #[v0, v1, v2, v3, v4, v5, v6, .bool M.starts, .int .u32 M.start, v9, v10] 34)).alloc (.cells #[.slice none 0 0, .slice none 0 0, .slice none 0 0, .slice none 0 0, .slice none 0 0, .slice none 0 0, .slice none 0 0, .bool false, .int .u32 0, .slice none 0 0, .slice none 0 0] 47) = W1 at *
 have hrow : ∀ {α : Type} {d : Kd α} {v : Value} {xs : List α}, Row d ok W v xs → Row d (fun k => ok k ∧ k < W.heap.size) W1 v xs := fun h => (h.bound (fun k hk hl => ⟨hk, hl⟩)).step (Agr.of_below hal)
 have R0 := Lib.hid (hrow h0)
 have R1 := Lib.hid (hrow h1)
 have R2 := Lib.hid (hrow h2)
 have R5 := Lib.hid (hrow h5)
 have R6 := Lib.hid (hrow h6)
 have R9 := Lib.hid (hrow h9)
 have R10 := Lib.hid (hrow h10)
 have hlim : ∀ (v : Value) (xs : List (Int × Int × Bool)), Row kLim ok W v xs → xs.length ≤ 1048576 → ∀ X, Below W1.heap.size W1 X → Calls Tryz.prog 30 #[v] X (fun E W' => ∃ u, E = .returned u ∧ Row kLim (fun k => X.heap.size ≤ k) W' u xs ∧ Below W1.heap.size W1 W' ∧ Below X.heap.size X W' ∧ (∀ V, Below V.heap.size V X → Below V.heap.size V W')) := by
  intro v xs hr hl X hX
  refine (limits20_row W1 X _ (Nat.le_refl _) v xs ok hX ((hrow hr).mono (fun k hk => ⟨hk.1, by have := hk.2; omega⟩)) hl).mono ?_
  rintro E W' ⟨u, rfl, hu, hb⟩
  exact ⟨u, rfl, hu, hX.trans (hb.mono hX.size), hb, fun V hV => hV.trans (hb.mono hV.size)⟩
 obtain ⟨A0, c0, hv0, hc0, hF0⟩ := R0.out
 have HF0 := Lib.hid hF0
 obtain ⟨A1, c1, hv1, hc1, hF1⟩ := R1.out
 have HF1 := Lib.hid hF1
 obtain ⟨A2, c2, hv2, hc2, hF2⟩ := R2.out
 have HF2 := Lib.hid hF2
 obtain ⟨A5, c5, hv5, hc5, hF5⟩ := R5.out
 have HF5 := Lib.hid hF5
 obtain ⟨A6, c6, hv6, hc6, hF6⟩ := R6.out
 have HF6 := Lib.hid hF6
 obtain ⟨A9, c9, hv9, hc9, hF9⟩ := R9.out
 have HF9 := Lib.hid hF9
 obtain ⟨A10, c10, hv10, hc10, hF10⟩ := R10.out
 have HF10 := Lib.hid hF10
 have HLN0 := Lib.hid l0
 have HLN1 := Lib.hid l1
 have HLN2 := Lib.hid l2
 have HLN5 := Lib.hid l5
 have HLN6 := Lib.hid l6
 have HLN9 := Lib.hid l9
 have HLN10 := Lib.hid l10
 have HBK2 := Lib.hid b2
 have HBK5 := Lib.hid b5
 have HBK9 := Lib.hid b9
 have HBK10 := Lib.hid b10
 have HV0 := Lib.hid hv0
 have HV1 := Lib.hid hv1
 have HV2 := Lib.hid hv2
 have HV5 := Lib.hid hv5
 have HV6 := Lib.hid hv6
 have HV9 := Lib.hid hv9
 have HV10 := Lib.hid hv10
 clear hc0 hF0 l0 hv0 hc1 hF1 l1 hv1 hc2 hF2 l2 hv2 hc5 hF5 l5 hv5 hc6 hF6 l6 hv6 hc9 hF9 l9 hv9 hc10 hF10 l10 hv10 b2 b5 b9 b10
 have H3 := Lib.hid (hlim v3 M.tables h3 l3)
 have H4 := Lib.hid (hlim v4 M.mems h4 l4)
 have HB1 := Lib.hid hal
 have HP := Lib.hid hPB
 have HO := Lib.hid hOB
 have p3 := hPB.cell 3
 have p4 := hPB.cell 4
 have p7 := hPB.cell 7
 have p8 := hPB.cell 8
 have lp := hPB.lt
 have HK := Lib.hid (fun w' (h : Blk w' W.heap.size #[v0, v1, v2, v3, v4, v5, v6, .bool M.starts, .int .u32 M.start, v9, v10] 34) => (⟨h.cell 3, h.cell 4, h.cell 7, h.cell 8, h.lt⟩ : w'.cell? ⟨W.heap.size, 3, none⟩ = some v3 ∧ w'.cell? ⟨W.heap.size, 4, none⟩ = some v4 ∧ w'.cell? ⟨W.heap.size, 7, none⟩ = some (.bool M.starts) ∧ w'.cell? ⟨W.heap.size, 8, none⟩ = some (.int .u32 M.start) ∧ W.heap.size < w'.heap.size))
 have HZ1 := Lib.hid hz1
 clear h0 h1 h2 h3 h4 h5 h6 h9 h10 hrow hlim hal hPB hOB hz1
 go_cut [3] (fun s3 wx => ∃ (g3 : Nat) (u3 u4 : Value), s3 = .pointer (some ⟨g3, 0, none⟩) ∧ W1.heap.size ≤ g3 ∧ Hid (Below W1.heap.size W1 wx) ∧ Hid (Blk wx g3 #[.slice none 0 0, .slice none 0 0, .slice none 0 0, u3, u4, .slice none 0 0, .slice none 0 0, .bool M.starts, .int .u32 M.start, .slice none 0 0, .slice none 0 0] 47) ∧ Hid (Row kLim (fun k => W1.heap.size ≤ k ∧ k ≠ g3) wx u3 M.tables) ∧ Hid (Row kLim (fun k => W1.heap.size ≤ k ∧ k ≠ g3) wx u4 M.mems))
 case first =>
  go_region_held3 (fun w' => w'.cell? ⟨W.heap.size, 3, none⟩ = some v3 ∧ w'.cell? ⟨W.heap.size, 4, none⟩ = some v4 ∧ w'.cell? ⟨W.heap.size, 7, none⟩ = some (.bool M.starts) ∧ w'.cell? ⟨W.heap.size, 8, none⟩ = some (.int .u32 M.start) ∧ W.heap.size < w'.heap.size)
   (first | with_reducible exact HK.out _ HP.out.drew | with_reducible exact HK.out _ (HP.out.drew.alloc _) | with_reducible exact HK.out _ hp2 | with_reducible exact HK.out _ (hp2.alloc _) | with_reducible exact HK.out _ hp3 | with_reducible exact HK.out _ (hp3.alloc _) | (with_reducible refine HK.out _ (other11 ?_ _ ?_ _ _ _ _ _ _ _ _ _ _ _); (with_reducible first | exact hp3 | exact hp3.alloc _); omega) | exact HK.out _ (HP.out.drew.alloc _) | exact HK.out _ (hp2.alloc _) | exact HK.out _ (hp3.alloc _))
   (first
   | (go_at_call_of 30 v3; refine (H3.out _ (by exact bl_drew (Below.refl _ _))).mono ?_; rintro E W2 ⟨u3, rfl, ⟨A3, c3, rfl, hc3, hF3⟩, hb3, hx3, hv3⟩; have hp2 := HP.out.below hb3 (by omega); have hz2 := hb3.size; have HF3 := Lib.hid (fc_bound hF3 (ok' := fun k => W1.heap.size ≤ k ∧ k < W2.heap.size) (fun k hk hl => ⟨hk, hl⟩)))
   | (go_at_call_of 30 v3; refine (H3.out _ (by exact bl_alloc (bl_drew (Below.refl _ _)) _)).mono ?_; rintro E W2 ⟨u3, rfl, ⟨A3, c3, rfl, hc3, hF3⟩, hb3, hx3, hv3⟩; have hp2 := HP.out.below hb3 (by omega); have hz2 := hb3.size; have hT1 := Blk.new W1.drew #[.slice none 0 0, .slice none 0 0, .slice none 0 0, .slice none 0 0, .slice none 0 0, .slice none 0 0, .slice none 0 0, .bool false, .int .u32 0, .slice none 0 0, .slice none 0 0] 47; have hT2 : Blk W2 W1.heap.size #[.slice none 0 0, .slice none 0 0, .slice none 0 0, .slice none 0 0, .slice none 0 0, .slice none 0 0, .slice none 0 0, .bool false, .int .u32 0, .slice none 0 0, .slice none 0 0] 47 := hT1.below hx3 hT1.lt; have HT2 := Lib.hid hT2; have HF3 := Lib.hid (fc_bound hF3 (ok' := fun k => W1.heap.size ≤ k ∧ k ≠ W1.heap.size) (fun k hk hl => by have hk2 : (W1.drew.alloc (.cells #[.slice none 0 0, .slice none 0 0, .slice none 0 0, .slice none 0 0, .slice none 0 0, .slice none 0 0, .slice none 0 0, .bool false, .int .u32 0, .slice none 0 0, .slice none 0 0] 47)).heap.size ≤ k := hk; rw [World.size_alloc] at hk2; change W1.heap.size + 1 ≤ k at hk2; exact ⟨by omega, by omega⟩)); clear hT1 hT2)
   | (go_at_call_of 30 v4; refine (H4.out _ (by first | exact hb3 | exact bl_alloc hb3 _)).mono ?_; rintro E W3 ⟨u4, rfl, ⟨A4, c4, rfl, hc4, hF4⟩, hb4, hx4, hv4⟩; have hp3 := HP.out.below hb4 (by omega); have hz3 := hb4.size; have HQ : Hid (FC kLim W2 (fun k => W1.heap.size ≤ k ∧ k < W2.heap.size) A3 M.tables) := HF3; have hT1 := Blk.new W2 #[.slice none 0 0, .slice none 0 0, .slice none 0 0, .slice none 0 0, .slice none 0 0, .slice none 0 0, .slice none 0 0, .bool false, .int .u32 0, .slice none 0 0, .slice none 0 0] 47; have hT3 : Blk W3 W2.heap.size #[.slice none 0 0, .slice none 0 0, .slice none 0 0, .slice none 0 0, .slice none 0 0, .slice none 0 0, .slice none 0 0, .bool false, .int .u32 0, .slice none 0 0, .slice none 0 0] 47 := hT1.below hx4 hT1.lt; have HT3 := Lib.hid hT3; have HF3' := Lib.hid (fc_mono (Ft.below HF3.out (hv4 W2 (bl_alloc (Below.refl _ _) _))) (ok' := fun k => W1.heap.size ≤ k ∧ k ≠ W2.heap.size) (fun k hk => ⟨hk.1, by have := hk.2; omega⟩)); have HF4 := Lib.hid (fc_bound hF4 (ok' := fun k => W1.heap.size ≤ k ∧ k ≠ W2.heap.size) (fun k hk hl => by have hk2 : (W2.alloc (.cells #[.slice none 0 0, .slice none 0 0, .slice none 0 0, .slice none 0 0, .slice none 0 0, .slice none 0 0, .slice none 0 0, .bool false, .int .u32 0, .slice none 0 0, .slice none 0 0] 47)).heap.size ≤ k := hk; rw [World.size_alloc] at hk2; exact ⟨by omega, by omega⟩)); obtain ⟨y0, y1, y2, y3, y4, y5, y6, y7, y8, y9, y10, yf0, yf1, yf2, yf3, yf4, yf5, yf6, yf7, yf8, yf9, yf10, yl⟩ := z11 hT3; clear hT3)
   | (go_at_call_of 30 v4; refine (H4.out _ (by first | exact hb3 | exact bl_alloc hb3 _)).mono ?_; rintro E W3 ⟨u4, rfl, ⟨A4, c4, rfl, hc4, hF4⟩, hb4, hx4, hv4⟩; have hp3 := HP.out.below hb4 (by omega); have hz3 := hb4.size; have HQ : Hid (FC kLim W2 (fun k => W1.heap.size ≤ k ∧ k < W2.heap.size) A3 M.tables) := HF3; have HF3' := Lib.hid (fc_bound (Ft.below HF3.out hx4) (ok' := fun k => W1.heap.size ≤ k ∧ k ≠ W3.heap.size) (fun k hk hl => ⟨hk.1, by omega⟩)); have HF4 := Lib.hid (fc_bound hF4 (ok' := fun k => W1.heap.size ≤ k ∧ k ≠ W3.heap.size) (fun k hk hl => by have hk2 : W2.heap.size ≤ k := hk; exact ⟨by omega, by omega⟩)))
   | (go_at_call_of 30 v4; refine (H4.out _ (by first | exact hb3 | exact bl_alloc hb3 _)).mono ?_; rintro E W3 ⟨u4, rfl, ⟨A4, c4, rfl, hc4, hF4⟩, hb4, hx4, hv4⟩; have hp3 := HP.out.below hb4 (by omega); have hz3 := hb4.size; have hT3 := HT2.out.below hx4 (HT2.out.lt); have HT3 := Lib.hid hT3; have HF3' := Lib.hid (Ft.below HF3.out hx4); have HF4 := Lib.hid (fc_bound hF4 (ok' := fun k => W1.heap.size ≤ k ∧ k ≠ W1.heap.size) (fun k hk hl => by have hk2 : W2.heap.size ≤ k := hk; have := HT2.out.lt; exact ⟨by omega, by omega⟩)); obtain ⟨y0, y1, y2, y3, y4, y5, y6, y7, y8, y9, y10, yf0, yf1, yf2, yf3, yf4, yf5, yf6, yf7, yf8, yf9, yf10, yl⟩ := z11 hT3; clear hT3))
  all_goals go_wp2_with fail
  all_goals go_meet
  ·refine ⟨W3.heap.size, (.slice A3 M.tables.length c3), (.slice A4 M.mems.length c4), rfl, hb4.size, ?_, ?_, ?_, ?_⟩
   ·exact bl_alloc hb4 _
   ·exact Blk.new W3 _ _
   ·exact Row.step (X := W3) ⟨A3, c3, rfl, hc3, HF3'.out⟩ (Agr.of_below (bl_alloc (Below.refl _ _) _))
   ·exact Row.step (X := W3) ⟨A4, c4, rfl, hc4, HF4.out⟩ (Agr.of_below (bl_alloc (Below.refl _ _) _))
  ·refine ⟨W2.heap.size, (.slice A3 M.tables.length c3), (.slice A4 M.mems.length c4), rfl, hb3.size, ?_, ?_, ?_, ?_⟩
   ·refine Lib.hid ?_
    with_reducible exact below11 hb4 _ hb3.size _ _ _ _ _ _ _ _ _ _ _
   ·refine Lib.hid ?_
    with_reducible exact fill11 HT3.out _ _ _ _ _ _ _ _ _ _ _
   ·refine Lib.hid ?_
    have r3 : Row kLim (fun k => W1.heap.size ≤ k ∧ k ≠ W2.heap.size) W3 (.slice A3 M.tables.length c3) M.tables := ⟨A3, c3, rfl, hc3, HF3'.out⟩
    with_reducible exact row11 r3 _ _ _ _ _ _ _ _ _ _ _
   ·refine Lib.hid ?_
    have r4 : Row kLim (fun k => W1.heap.size ≤ k ∧ k ≠ W2.heap.size) W3 (.slice A4 M.mems.length c4) M.mems := ⟨A4, c4, rfl, hc4, HF4.out⟩
    with_reducible exact row11 r4 _ _ _ _ _ _ _ _ _ _ _
  ·refine ⟨W1.heap.size, (.slice A3 M.tables.length c3), (.slice A4 M.mems.length c4), rfl, Nat.le_refl _, ?_, ?_, ?_, ?_⟩
   ·refine Lib.hid ?_
    with_reducible exact below11 hb4 _ (Nat.le_refl _) _ _ _ _ _ _ _ _ _ _ _
   ·refine Lib.hid ?_
    with_reducible exact fill11 HT3.out _ _ _ _ _ _ _ _ _ _ _
   ·refine Lib.hid ?_
    have r3 : Row kLim (fun k => W1.heap.size ≤ k ∧ k ≠ W1.heap.size) W3 (.slice A3 M.tables.length c3) M.tables := ⟨A3, c3, rfl, hc3, HF3'.out⟩
    with_reducible exact row11 r3 _ _ _ _ _ _ _ _ _ _ _
   ·refine Lib.hid ?_
    have r4 : Row kLim (fun k => W1.heap.size ≤ k ∧ k ≠ W1.heap.size) W3 (.slice A4 M.mems.length c4) M.mems := ⟨A4, c4, rfl, hc4, HF4.out⟩
    with_reducible exact row11 r4 _ _ _ _ _ _ _ _ _ _ _
 case rest =>
 obtain ⟨g, u3', u4', rfl, hle, HBw, HBk, HR3, HR4⟩ := hcut
 have HS : Hid (PSt 0 (fun k => ok k ∧ k < W.heap.size) W1 g wc (⟨[], [], M.tables, M.mems, [], [], M.starts, M.start, [], [], [], []⟩ : ModD) []) :=
  ⟨HBw.out, _, _, _, _, _, _, _, _, _, ⟨fun _ => rfl, fun _ => rfl, fun _ => rfl, fun _ => rfl, fun _ => rfl, fun _ => rfl, fun _ => rfl⟩, HBk.out, ⟨Row.nil, Row.nil, Row.nil, HR3.out.mono (fun k hk => .inr hk), HR4.out.mono (fun k hk => .inr hk), Row.nil, Row.nil, Row.nil, Row.nil⟩⟩
 clear HBw HBk HR3 HR4
 have hpw := HP.out.below HS.out.1 lp
 have pk : wc.cell? ⟨W.heap.size, 0, none⟩ = some (.slice A0 M.types.length c0) := by have h := hpw.cell 0; rw [HV0.out] at h; exact h
 have pl := hpw.lt
 clear hpw
 go_upto_block 0 with fail
 go_cut [3] (fun s3 wx => ∃ (g : Nat), s3 = .pointer (some ⟨g, 0, none⟩) ∧ W1.heap.size ≤ g ∧ Hid (PSt 1 (fun k => ok k ∧ k < W.heap.size) W1 g wx (⟨M.types, [], M.tables, M.mems, [], [], M.starts, M.start, [], [], [], []⟩ : ModD) []))
 case first =>
  obtain ⟨hB0, y0, y1, y2, y3, y4, y5, y6, y9, y10, hN0, hblk0, hR0⟩ := HS.out
  obtain rfl := hN0.n0 (by decide)
  have HN0 := Lib.hid hN0
  have HB0 := Lib.hid hB0
  have HK0 := Lib.hid hblk0
  have HR0 := Lib.hid hR0
  have hgl := hblk0.lt
  obtain ⟨n, hn⟩ : ∃ n, n = wc.heap.size := ⟨_, rfl⟩
  have HGn := Lib.hid (show g < n by omega)
  have HWg := Lib.hid (show W.heap.size < g by omega)
  have h1n := hB0.size
  have HN1 := Lib.hid (show W1.heap.size ≤ n by omega)
  have HYtofaiocffifhfaaGreat := Lib.hid hn
  have HF := Lib.hid (Ft.step HF0.out (Agr.of_below hB0))
  clear hB0 hN0 hblk0 hR0 HS pk pl hgl hn h1n
  go_wp2_with fail
  go_loopw [32] (fun i wr => ∃ (j : Nat) (vf : Value), j ≤ M.types.length ∧ i = .int .i64 j ∧ Hid (Own kFt 99 wr n (fun k => (ok k ∧ k < W.heap.size) ∨ n ≤ k) vf (M.types.take j)) ∧ Hid (Blk wr g #[vf, y1, y2, y3, y4, y5, y6, .bool M.starts, .int .u32 M.start, y9, y10] 47) ∧ Hid (wc.grownBy wr (some g))) (fun i _ => M.types.length - (intOf i).toNat)
  case atStart => exact ⟨0, .slice none 0 0, Nat.zero_le _, rfl, Own.nil, HK0.out, World.grownBy.refl _ _⟩
  case round =>
   obtain ⟨j, vf, hj, rfl, HO, HMb, HG⟩ := hrel
   have hzr := HG.out.size
   rw [← HYtofaiocffifhfaaGreat.out] at hzr
   have HFr := Lib.hid (Ft.step HF.out (agr_grown HG.out (fun k hk e => by injection e with e; have h1 := hk.2; have h2 := HWg.out; omega)))
   have hll := HLN0.out
   by_cases hlt : j < M.types.length
   ·have hlt2 : (j : Int) < (M.types.length : Int) := by omega
    obtain ⟨b, o, x, cs, hA, hx, hk, hc⟩ := FC.at_ HFr.out (show 0 < 2 by decide) j hlt
    obtain ⟨AP, cP, AQ, cQ, rfl⟩ := ft_openF hk
    have hszk : kFt.sz = 2 := rfl
    have d0 := hc 0 _ rfl
    have d1 := hc 1 _ rfl
    simp only [hszk, Nat.add_zero] at d0 d1
    have hbl := World.block_lt_of_cell? _ _ d0
    simp only at hbl
    have hmb := HMb.out
    have kc := hmb.cell 0
    have kl := hmb.lt
    have HX := Lib.hid hx.out
    have HKx := Lib.hid hk
    have hne : ∀ k, vf.ownBlock = some k → n ≤ k := fun k hk => (Own.block HO.out hk).1
    have HNE := Lib.hid hne
    clear hx hk hc hmb hszk
    have hal : Below wr.heap.size wr (wr.alloc (.cells #[.slice AP x.1.length cP, .slice AQ x.2.length cQ] 98)) := (Below.refl _ _).alloc (Nat.le_refl _) _
    have HK2 := Lib.hid (show FK kFt (wr.alloc (.cells #[.slice AP x.1.length cP, .slice AQ x.2.length cQ] 98)) (fun k => ((ok k ∧ k < W.heap.size) ∨ n ≤ k) ∧ some k ≠ vf.ownBlock) x (List.toArray _).toList from Ft.mono (Ft.below HKx.out hal) (fun k hk => ⟨.inl hk, fun e => by have h1 := hne k e.symm; have h2 := hk.2; have h3 := HWg.out; have h4 := HGn.out; omega⟩))
    have HO1 := Lib.hid (HO.out.below hal)
    have hnb : n ≤ (wr.alloc (.cells #[.slice AP x.1.length cP, .slice AQ x.2.length cQ] 98)).heap.size := by rw [World.size_alloc]; omega
    have HNB := Lib.hid hnb
    have HL9 := Lib.hid (show ((M.types.take j).length + 1) * 48 ≤ 140737488355328 from by have h := HLN0.out; rw [List.length_take]; omega)
    have HMD := Lib.hid (fun Y (h : World.grownBy (wr.alloc (.cells #[.slice AP x.1.length cP, .slice AQ x.2.length cQ] 98)) Y vf.ownBlock) => (by
     have hb : Blk Y g #[vf, y1, y2, y3, y4, y5, y6, .bool M.starts, .int .u32 M.start, y9, y10] 47 := Blk.grown (HMb.out.alloc _) h (fun e => by have h1 := HNE.out g e.symm; have h2 := HGn.out; omega)
     exact ⟨hb.cell 0, hb.frozen 0, hb.lt⟩ : Y.cell? ⟨g, 0, none⟩ = some vf ∧ Y.frozen? ⟨g, 0, none⟩ = false ∧ g < Y.heap.size))
    clear hal hnb hne
    go_wp2_with (at_builtin; refine Own.append (d := kFt) n rfl (.tmp 37) (.tmp 39) 38 99 _ 48 rfl Tryz.underlying38 infoR_fty rfl (by decide) (by decide) vf (M.types.take j) x _ (fun k => (ok k ∧ k < W.heap.size) ∨ n ≤ k) rfl (by rw [World.size_alloc]; rfl) HK2.out HO1.out HNB.out HL9.out ?_; intro v1 w1 hown1 hg1 hat1; obtain ⟨A9, c9, rfl, hl9, hF9⟩ := Own.reads hown1; obtain ⟨q2, qf, ql⟩ := HMD.out _ hg1)
    have htk : M.types.take (j + 1) = M.types.take j ++ [x] := by rw [List.take_add_one, HX.out]; rfl
    have hlen9 : (M.types.take j ++ [x]).length = j + 1 := by rw [List.length_append, List.length_take]; simp only [List.length_cons, List.length_nil]; omega
    rw [hlen9] at hown1
    have hbk : ∀ k, (Value.slice A9 (j + 1) c9).ownBlock = some k → n ≤ k := fun k hk => (Own.block hown1 hk).1
    have hoz := hown1.grown (gset w1 g 0 (.slice A9 (j + 1) c9)) (.inr (fun e => by have h1 := hbk g e; have h2 := HGn.out; omega)) (fun k hk e => by injection e with e; have h2 := HGn.out; have h3 := HWg.out; rcases hk with hk | hk <;> omega)
    rw [← htk] at hoz
    have HOZ := Lib.hid hoz
    have HMZ := Lib.hid ((Blk.grown (HMb.out.alloc (.cells #[.slice AP x.1.length cP, .slice AQ x.2.length cQ] 98)) hg1 (fun e => by have h1 := HNE.out g e.symm; have h2 := HGn.out; omega)).set 0 (.slice A9 (j + 1) c9))
    have HGZ := Lib.hid ((grown_jj (gw_alloc HG.out (.cells #[.slice AP x.1.length cP, .slice AQ x.2.length cQ] 98)) hg1 (fun k hk => .inr (by rw [← HYtofaiocffifhfaaGreat.out]; exact HNE.out k hk))).trans (gset w1 g 0 (.slice A9 (j + 1) c9)))
    clear hown1 hg1 hat1 hl9 hF9 htk hbk hoz
    go_wp2_with fail
    go_roundw
    case rel => exact ⟨j + 1, by omega, by go_num, _, HOZ, HMZ, HGZ⟩
    case measure => simp [intOf]; omega
   ·obtain rfl : j = M.types.length := by omega
    go_wp2_with fail
    go_meet
    have hown := HO.out
    rw [List.take_length] at hown
    have hst := HR0.out.step (okA_agr HG.out (fun k hk => by have h1 := hk.2; have h2 := HWg.out; omega))
    exact ⟨g, rfl, hle, HB0.out.grown HG.out HB0.out.size (fun k e => by injection e with e; omega), _, _, _, _, _, _, _, _, _, { HN0.out.up with n0 := fun h => absurd h (by decide) }, HMb.out, { hst with r0 := okA_own hown HN1.out HGn.out }⟩
 case rest =>
 obtain ⟨g, rfl, hle, HS⟩ := hcut
 have hpw := HP.out.below HS.out.1 lp
 have pk : wc.cell? ⟨W.heap.size, 1, none⟩ = some (.slice A1 M.imports.length c1) := by have h := hpw.cell 1; rw [HV1.out] at h; exact h
 have pl := hpw.lt
 clear hpw
 go_upto_block 2 with fail
 go_cut [3] (fun s3 wx => ∃ (g : Nat), s3 = .pointer (some ⟨g, 0, none⟩) ∧ W1.heap.size ≤ g ∧ Hid (PSt 2 (fun k => ok k ∧ k < W.heap.size) W1 g wx (⟨M.types, M.imports, M.tables, M.mems, [], [], M.starts, M.start, [], [], [], []⟩ : ModD) []))
 case first =>
  obtain ⟨hB0, y0, y1, y2, y3, y4, y5, y6, y9, y10, hN0, hblk0, hR0⟩ := HS.out
  obtain rfl := hN0.n1 (by decide)
  have HN0 := Lib.hid hN0
  have HB0 := Lib.hid hB0
  have HK0 := Lib.hid hblk0
  have HR0 := Lib.hid hR0
  have hgl := hblk0.lt
  obtain ⟨n, hn⟩ : ∃ n, n = wc.heap.size := ⟨_, rfl⟩
  have HGn := Lib.hid (show g < n by omega)
  have HWg := Lib.hid (show W.heap.size < g by omega)
  have h1n := hB0.size
  have HN1 := Lib.hid (show W1.heap.size ≤ n by omega)
  have HYtofaiocffifhfaaGreat := Lib.hid hn
  have HF := Lib.hid (Ft.step HF1.out (Agr.of_below hB0))
  clear hB0 hN0 hblk0 hR0 HS pk pl hgl hn h1n
  go_wp2_with fail
  go_loopw [46] (fun i wr => ∃ (j : Nat) (vf : Value), j ≤ M.imports.length ∧ i = .int .i64 j ∧ Hid (Own kImp 108 wr n (fun k => (ok k ∧ k < W.heap.size) ∨ n ≤ k) vf (M.imports.take j)) ∧ Hid (Blk wr g #[y0, vf, y2, y3, y4, y5, y6, .bool M.starts, .int .u32 M.start, y9, y10] 47) ∧ Hid (wc.grownBy wr (some g))) (fun i _ => M.imports.length - (intOf i).toNat)
  case atStart => exact ⟨0, .slice none 0 0, Nat.zero_le _, rfl, Own.nil, HK0.out, World.grownBy.refl _ _⟩
  case round =>
   obtain ⟨j, vf, hj, rfl, HO, HMb, HG⟩ := hrel
   have hzr := HG.out.size
   rw [← HYtofaiocffifhfaaGreat.out] at hzr
   have HFr := Lib.hid (Ft.step HF.out (agr_grown HG.out (fun k hk e => by injection e with e; have h1 := hk.2; have h2 := HWg.out; omega)))
   have hll := HLN1.out
   by_cases hlt : j < M.imports.length
   ·have hlt2 : (j : Int) < (M.imports.length : Int) := by omega
    obtain ⟨b, o, x, cs, hA, hx, hk, hc⟩ := FC.at_ HFr.out (show 0 < 9 by decide) j hlt
    obtain rfl := imp_open hk
    have hszk : kImp.sz = 9 := rfl
    have d0 := hc 0 _ rfl
    have d1 := hc 1 _ rfl
    have d2 := hc 2 _ rfl
    have d3 := hc 3 _ rfl
    have d4 := hc 4 _ rfl
    have d5 := hc 5 _ rfl
    have d6 := hc 6 _ rfl
    have d7 := hc 7 _ rfl
    have d8 := hc 8 _ rfl
    simp only [hszk, Nat.add_zero] at d0 d1 d2 d3 d4 d5 d6 d7 d8
    have hbl := World.block_lt_of_cell? _ _ d0
    simp only at hbl
    have hmb := HMb.out
    have kc := hmb.cell 1
    have kl := hmb.lt
    have HX := Lib.hid hx.out
    have HKx := Lib.hid hk
    have hne : ∀ k, vf.ownBlock = some k → n ≤ k := fun k hk => (Own.block HO.out hk).1
    have HNE := Lib.hid hne
    clear hx hk hc hmb hszk
    have hal : Below wr.heap.size wr (wr.alloc (.cells #[.string x.m, .string x.n, .int .i64 x.kind, .int .u32 x.ty, .int .u32 x.lim.1, .int .u32 x.lim.2.1, .bool x.lim.2.2, .int .u8 x.glob.1, .bool x.glob.2] 105)) := (Below.refl _ _).alloc (Nat.le_refl _) _
    have HK2 := Lib.hid (show FK kImp (wr.alloc (.cells #[.string x.m, .string x.n, .int .i64 x.kind, .int .u32 x.ty, .int .u32 x.lim.1, .int .u32 x.lim.2.1, .bool x.lim.2.2, .int .u8 x.glob.1, .bool x.glob.2] 105)) (fun k => ((ok k ∧ k < W.heap.size) ∨ n ≤ k) ∧ some k ≠ vf.ownBlock) x (List.toArray _).toList from Ft.mono (Ft.below HKx.out hal) (fun k hk => ⟨.inl hk, fun e => by have h1 := hne k e.symm; have h2 := hk.2; have h3 := HWg.out; have h4 := HGn.out; omega⟩))
    have HO1 := Lib.hid (HO.out.below hal)
    have hnb : n ≤ (wr.alloc (.cells #[.string x.m, .string x.n, .int .i64 x.kind, .int .u32 x.ty, .int .u32 x.lim.1, .int .u32 x.lim.2.1, .bool x.lim.2.2, .int .u8 x.glob.1, .bool x.glob.2] 105)).heap.size := by rw [World.size_alloc]; omega
    have HNB := Lib.hid hnb
    have HL9 := Lib.hid (show ((M.imports.take j).length + 1) * 64 ≤ 140737488355328 from by have h := HLN1.out; rw [List.length_take]; omega)
    have HMD := Lib.hid (fun Y (h : World.grownBy (wr.alloc (.cells #[.string x.m, .string x.n, .int .i64 x.kind, .int .u32 x.ty, .int .u32 x.lim.1, .int .u32 x.lim.2.1, .bool x.lim.2.2, .int .u8 x.glob.1, .bool x.glob.2] 105)) Y vf.ownBlock) => (by
     have hb : Blk Y g #[y0, vf, y2, y3, y4, y5, y6, .bool M.starts, .int .u32 M.start, y9, y10] 47 := Blk.grown (HMb.out.alloc _) h (fun e => by have h1 := HNE.out g e.symm; have h2 := HGn.out; omega)
     exact ⟨hb.cell 1, hb.frozen 1, hb.lt⟩ : Y.cell? ⟨g, 1, none⟩ = some vf ∧ Y.frozen? ⟨g, 1, none⟩ = false ∧ g < Y.heap.size))
    clear hal hnb hne
    go_wp2_with (at_builtin; refine Own.append (d := kImp) n rfl (.tmp 51) (.tmp 69) 39 108 _ 64 rfl Tryz.underlying39 infoR_imp rfl (by decide) (by decide) vf (M.imports.take j) x _ (fun k => (ok k ∧ k < W.heap.size) ∨ n ≤ k) rfl (by rw [World.size_alloc]; rfl) HK2.out HO1.out HNB.out HL9.out ?_; intro v1 w1 hown1 hg1 hat1; obtain ⟨A9, c9, rfl, hl9, hF9⟩ := Own.reads hown1; obtain ⟨q2, qf, ql⟩ := HMD.out _ hg1)
    have htk : M.imports.take (j + 1) = M.imports.take j ++ [x] := by rw [List.take_add_one, HX.out]; rfl
    have hlen9 : (M.imports.take j ++ [x]).length = j + 1 := by rw [List.length_append, List.length_take]; simp only [List.length_cons, List.length_nil]; omega
    rw [hlen9] at hown1
    have hbk : ∀ k, (Value.slice A9 (j + 1) c9).ownBlock = some k → n ≤ k := fun k hk => (Own.block hown1 hk).1
    have hoz := hown1.grown (gset w1 g 1 (.slice A9 (j + 1) c9)) (.inr (fun e => by have h1 := hbk g e; have h2 := HGn.out; omega)) (fun k hk e => by injection e with e; have h2 := HGn.out; have h3 := HWg.out; rcases hk with hk | hk <;> omega)
    rw [← htk] at hoz
    have HOZ := Lib.hid hoz
    have HMZ := Lib.hid ((Blk.grown (HMb.out.alloc (.cells #[.string x.m, .string x.n, .int .i64 x.kind, .int .u32 x.ty, .int .u32 x.lim.1, .int .u32 x.lim.2.1, .bool x.lim.2.2, .int .u8 x.glob.1, .bool x.glob.2] 105)) hg1 (fun e => by have h1 := HNE.out g e.symm; have h2 := HGn.out; omega)).set 1 (.slice A9 (j + 1) c9))
    have HGZ := Lib.hid ((grown_jj (gw_alloc HG.out (.cells #[.string x.m, .string x.n, .int .i64 x.kind, .int .u32 x.ty, .int .u32 x.lim.1, .int .u32 x.lim.2.1, .bool x.lim.2.2, .int .u8 x.glob.1, .bool x.glob.2] 105)) hg1 (fun k hk => .inr (by rw [← HYtofaiocffifhfaaGreat.out]; exact HNE.out k hk))).trans (gset w1 g 1 (.slice A9 (j + 1) c9)))
    clear hown1 hg1 hat1 hl9 hF9 htk hbk hoz
    go_wp2_with fail
    go_roundw
    case rel => exact ⟨j + 1, by omega, by go_num, _, HOZ, HMZ, HGZ⟩
    case measure => simp [intOf]; omega
   ·obtain rfl : j = M.imports.length := by omega
    go_wp2_with fail
    go_meet
    have hown := HO.out
    rw [List.take_length] at hown
    have hst := HR0.out.step (okA_agr HG.out (fun k hk => by have h1 := hk.2; have h2 := HWg.out; omega))
    exact ⟨g, rfl, hle, HB0.out.grown HG.out HB0.out.size (fun k e => by injection e with e; omega), _, _, _, _, _, _, _, _, _, { HN0.out.up with n1 := fun h => absurd h (by decide) }, HMb.out, { hst with r1 := okA_own hown HN1.out HGn.out }⟩
 case rest =>
 obtain ⟨g, rfl, hle, HS⟩ := hcut
 have hpw := HP.out.below HS.out.1 lp
 have pk : wc.cell? ⟨W.heap.size, 6, none⟩ = some (.slice A6 M.exports.length c6) := by have h := hpw.cell 6; rw [HV6.out] at h; exact h
 have pl := hpw.lt
 clear hpw
 go_upto_block 4 with fail
 go_cut [3] (fun s3 wx => ∃ (g : Nat), s3 = .pointer (some ⟨g, 0, none⟩) ∧ W1.heap.size ≤ g ∧ Hid (PSt 3 (fun k => ok k ∧ k < W.heap.size) W1 g wx (⟨M.types, M.imports, M.tables, M.mems, [], M.exports, M.starts, M.start, [], [], [], []⟩ : ModD) []))
 case first =>
  obtain ⟨hB0, y0, y1, y2, y3, y4, y5, y6, y9, y10, hN0, hblk0, hR0⟩ := HS.out
  obtain rfl := hN0.n6 (by decide)
  have HN0 := Lib.hid hN0
  have HB0 := Lib.hid hB0
  have HK0 := Lib.hid hblk0
  have HR0 := Lib.hid hR0
  have hgl := hblk0.lt
  obtain ⟨n, hn⟩ : ∃ n, n = wc.heap.size := ⟨_, rfl⟩
  have HGn := Lib.hid (show g < n by omega)
  have HWg := Lib.hid (show W.heap.size < g by omega)
  have h1n := hB0.size
  have HN1 := Lib.hid (show W1.heap.size ≤ n by omega)
  have HYtofaiocffifhfaaGreat := Lib.hid hn
  have HF := Lib.hid (Ft.step HF6.out (Agr.of_below hB0))
  clear hB0 hN0 hblk0 hR0 HS pk pl hgl hn h1n
  go_wp2_with fail
  go_loopw [76] (fun i wr => ∃ (j : Nat) (vf : Value), j ≤ M.exports.length ∧ i = .int .i64 j ∧ Hid (Own kExp 111 wr n (fun k => (ok k ∧ k < W.heap.size) ∨ n ≤ k) vf (M.exports.take j)) ∧ Hid (Blk wr g #[y0, y1, y2, y3, y4, y5, vf, .bool M.starts, .int .u32 M.start, y9, y10] 47) ∧ Hid (wc.grownBy wr (some g))) (fun i _ => M.exports.length - (intOf i).toNat)
  case atStart => exact ⟨0, .slice none 0 0, Nat.zero_le _, rfl, Own.nil, HK0.out, World.grownBy.refl _ _⟩
  case round =>
   obtain ⟨j, vf, hj, rfl, HO, HMb, HG⟩ := hrel
   have hzr := HG.out.size
   rw [← HYtofaiocffifhfaaGreat.out] at hzr
   have HFr := Lib.hid (Ft.step HF.out (agr_grown HG.out (fun k hk e => by injection e with e; have h1 := hk.2; have h2 := HWg.out; omega)))
   have hll := HLN6.out
   by_cases hlt : j < M.exports.length
   ·have hlt2 : (j : Int) < (M.exports.length : Int) := by omega
    obtain ⟨b, o, x, cs, hA, hx, hk, hc⟩ := FC.at_ HFr.out (show 0 < 3 by decide) j hlt
    obtain rfl := exp_open hk
    have hszk : kExp.sz = 3 := rfl
    have d0 := hc 0 _ rfl
    have d1 := hc 1 _ rfl
    have d2 := hc 2 _ rfl
    simp only [hszk, Nat.add_zero] at d0 d1 d2
    have hbl := World.block_lt_of_cell? _ _ d0
    simp only at hbl
    have hmb := HMb.out
    have kc := hmb.cell 6
    have kl := hmb.lt
    have HX := Lib.hid hx.out
    have HKx := Lib.hid hk
    have hne : ∀ k, vf.ownBlock = some k → n ≤ k := fun k hk => (Own.block HO.out hk).1
    have HNE := Lib.hid hne
    clear hx hk hc hmb hszk
    have hal : Below wr.heap.size wr (wr.alloc (.cells #[.string x.n, .int .i64 x.kind, .int .u32 x.ix] 110)) := (Below.refl _ _).alloc (Nat.le_refl _) _
    have HK2 := Lib.hid (show FK kExp (wr.alloc (.cells #[.string x.n, .int .i64 x.kind, .int .u32 x.ix] 110)) (fun k => ((ok k ∧ k < W.heap.size) ∨ n ≤ k) ∧ some k ≠ vf.ownBlock) x (List.toArray _).toList from Ft.mono (Ft.below HKx.out hal) (fun k hk => ⟨.inl hk, fun e => by have h1 := hne k e.symm; have h2 := hk.2; have h3 := HWg.out; have h4 := HGn.out; omega⟩))
    have HO1 := Lib.hid (HO.out.below hal)
    have hnb : n ≤ (wr.alloc (.cells #[.string x.n, .int .i64 x.kind, .int .u32 x.ix] 110)).heap.size := by rw [World.size_alloc]; omega
    have HNB := Lib.hid hnb
    have HL9 := Lib.hid (show ((M.exports.take j).length + 1) * 32 ≤ 140737488355328 from by have h := HLN6.out; rw [List.length_take]; omega)
    have HMD := Lib.hid (fun Y (h : World.grownBy (wr.alloc (.cells #[.string x.n, .int .i64 x.kind, .int .u32 x.ix] 110)) Y vf.ownBlock) => (by
     have hb : Blk Y g #[y0, y1, y2, y3, y4, y5, vf, .bool M.starts, .int .u32 M.start, y9, y10] 47 := Blk.grown (HMb.out.alloc _) h (fun e => by have h1 := HNE.out g e.symm; have h2 := HGn.out; omega)
     exact ⟨hb.cell 6, hb.frozen 6, hb.lt⟩ : Y.cell? ⟨g, 6, none⟩ = some vf ∧ Y.frozen? ⟨g, 6, none⟩ = false ∧ g < Y.heap.size))
    clear hal hnb hne
    go_wp2_with (at_builtin; refine Own.append (d := kExp) n rfl (.tmp 81) (.tmp 83) 43 111 _ 32 rfl Tryz.underlying43 infoR_exp rfl (by decide) (by decide) vf (M.exports.take j) x _ (fun k => (ok k ∧ k < W.heap.size) ∨ n ≤ k) rfl (by rw [World.size_alloc]; rfl) HK2.out HO1.out HNB.out HL9.out ?_; intro v1 w1 hown1 hg1 hat1; obtain ⟨A9, c9, rfl, hl9, hF9⟩ := Own.reads hown1; obtain ⟨q2, qf, ql⟩ := HMD.out _ hg1)
    have htk : M.exports.take (j + 1) = M.exports.take j ++ [x] := by rw [List.take_add_one, HX.out]; rfl
    have hlen9 : (M.exports.take j ++ [x]).length = j + 1 := by rw [List.length_append, List.length_take]; simp only [List.length_cons, List.length_nil]; omega
    rw [hlen9] at hown1
    have hbk : ∀ k, (Value.slice A9 (j + 1) c9).ownBlock = some k → n ≤ k := fun k hk => (Own.block hown1 hk).1
    have hoz := hown1.grown (gset w1 g 6 (.slice A9 (j + 1) c9)) (.inr (fun e => by have h1 := hbk g e; have h2 := HGn.out; omega)) (fun k hk e => by injection e with e; have h2 := HGn.out; have h3 := HWg.out; rcases hk with hk | hk <;> omega)
    rw [← htk] at hoz
    have HOZ := Lib.hid hoz
    have HMZ := Lib.hid ((Blk.grown (HMb.out.alloc (.cells #[.string x.n, .int .i64 x.kind, .int .u32 x.ix] 110)) hg1 (fun e => by have h1 := HNE.out g e.symm; have h2 := HGn.out; omega)).set 6 (.slice A9 (j + 1) c9))
    have HGZ := Lib.hid ((grown_jj (gw_alloc HG.out (.cells #[.string x.n, .int .i64 x.kind, .int .u32 x.ix] 110)) hg1 (fun k hk => .inr (by rw [← HYtofaiocffifhfaaGreat.out]; exact HNE.out k hk))).trans (gset w1 g 6 (.slice A9 (j + 1) c9)))
    clear hown1 hg1 hat1 hl9 hF9 htk hbk hoz
    go_wp2_with fail
    go_roundw
    case rel => exact ⟨j + 1, by omega, by go_num, _, HOZ, HMZ, HGZ⟩
    case measure => simp [intOf]; omega
   ·obtain rfl : j = M.exports.length := by omega
    go_wp2_with fail
    go_meet
    have hown := HO.out
    rw [List.take_length] at hown
    have hst := HR0.out.step (okA_agr HG.out (fun k hk => by have h1 := hk.2; have h2 := HWg.out; omega))
    exact ⟨g, rfl, hle, HB0.out.grown HG.out HB0.out.size (fun k e => by injection e with e; omega), _, _, _, _, _, _, _, _, _, { HN0.out.up with n6 := fun h => absurd h (by decide) }, HMb.out, { hst with r6 := okA_own hown HN1.out HGn.out }⟩
 case rest =>
 obtain ⟨g, rfl, hle, HS⟩ := hcut
 have hpw := HP.out.below HS.out.1 lp
 have pk : wc.cell? ⟨W.heap.size, 2, none⟩ = some (.slice A2 fns.length c2) := by have h := hpw.cell 2; rw [HV2.out] at h; exact h
 have pl := hpw.lt
 clear hpw
 go_upto_block 6 with fail
 go_cut [3] (fun s3 wx => ∃ (g : Nat), s3 = .pointer (some ⟨g, 0, none⟩) ∧ W1.heap.size ≤ g ∧ Hid (PSt 4 (fun k => ok k ∧ k < W.heap.size) W1 g wx (⟨M.types, M.imports, M.tables, M.mems, [], M.exports, M.starts, M.start, [], [], [], []⟩ : ModD) fns))
 case first =>
  obtain ⟨hB0, y0, y1, y2, y3, y4, y5, y6, y9, y10, hN0, hblk0, hR0⟩ := HS.out
  obtain rfl := hN0.n2 (by decide)
  have HN0 := Lib.hid hN0
  have HB0 := Lib.hid hB0
  have HK0 := Lib.hid hblk0
  have HR0 := Lib.hid hR0
  have hgl := hblk0.lt
  obtain ⟨n, hn⟩ : ∃ n, n = wc.heap.size := ⟨_, rfl⟩
  have HGn := Lib.hid (show g < n by omega)
  have HWg := Lib.hid (show W.heap.size < g by omega)
  have h1n := hB0.size
  have HN1 := Lib.hid (show W1.heap.size ≤ n by omega)
  have HYtofaiocffifhfaaGreat := Lib.hid hn
  have HF := Lib.hid (Ft.step HF2.out (Agr.of_below hB0))
  clear hB0 hN0 hblk0 hR0 HS pk pl hgl hn h1n
  go_wp2_with fail
  go_loopw [90] (fun i wr => ∃ (j : Nat) (vf : Value), j ≤ fns.length ∧ i = .int .i64 j ∧ Hid (Own kRFn 87 wr n (fun k => (ok k ∧ k < W.heap.size) ∨ n ≤ k) vf (fns.take j)) ∧ Hid (Blk wr g #[y0, y1, vf, y3, y4, y5, y6, .bool M.starts, .int .u32 M.start, y9, y10] 47) ∧ Hid (wc.grownBy wr (some g))) (fun i _ => fns.length - (intOf i).toNat)
  case atStart => exact ⟨0, .slice none 0 0, Nat.zero_le _, rfl, Own.nil, HK0.out, World.grownBy.refl _ _⟩
  case round =>
   obtain ⟨j, vf, hj, rfl, HO, HMb, HG⟩ := hrel
   have hzr := HG.out.size
   rw [← HYtofaiocffifhfaaGreat.out] at hzr
   have HFr := Lib.hid (Ft.step HF.out (agr_grown HG.out (fun k hk e => by injection e with e; have h1 := hk.2; have h2 := HWg.out; omega)))
   have hll := HLN2.out
   by_cases hlt : j < fns.length
   ·have hlt2 : (j : Int) < (fns.length : Int) := by omega
    obtain ⟨b, o, x, cs, hA, hx, hk, hc⟩ := FC.at_ HFr.out (show 0 < 3 by decide) j hlt
    obtain ⟨AL, cL, AB, cB, rfl, hlL, hFL, hlB, hFB⟩ := fn_open hk
    have hszk : kFn.sz = 3 := rfl
    have d0 := hc 0 _ rfl
    have d1 := hc 1 _ rfl
    have d2 := hc 2 _ rfl
    simp only [hszk, Nat.add_zero] at d0 d1 d2
    have hbl := World.block_lt_of_cell? _ _ d0
    simp only at hbl
    have hmb := HMb.out
    have kc := hmb.cell 2
    have kl := hmb.lt
    have HX := Lib.hid hx.out
    have HKx := Lib.hid hk
    have hne : ∀ k, vf.ownBlock = some k → n ≤ k := fun k hk => (Own.block HO.out hk).1
    have HNE := Lib.hid hne
    clear hx hk hc hmb hszk
    have HWF := Lib.hid (fn_wf HKx.out)
    have HBK := Lib.hid (HBK2.out x (List.mem_of_getElem? HX.out))
    have HFB := Lib.hid (fc_drew (fc_alloc hFB (.cells #[.int .u32 x.ty, .slice AL x.loc.length cL, .slice AB x.body.length cB] 75)))
    have HLB := Lib.hid hlB
    have HFL := Lib.hid (fc_drew (fc_alloc hFL (.cells #[.int .u32 x.ty, .slice AL x.loc.length cL, .slice AB x.body.length cB] 75)))
    have HLL := Lib.hid hlL
    clear hFL hlL
    clear hFB hlB hne
    have HF9 := Lib.hid (Blk.new wr #[.int .u32 x.ty, .slice AL x.loc.length cL, .slice AB x.body.length cB] 75).drew
    have HM9 := Lib.hid (HMb.out.alloc (.cells #[.int .u32 x.ty, .slice AL x.loc.length cL, .slice AB x.body.length cB] 75)).drew
    have HO9 := Lib.hid (HO.out.below (bl_drew (bl_alloc (Below.refl wr.heap.size wr) (.cells #[.int .u32 x.ty, .slice AL x.loc.length cL, .slice AB x.body.length cB] 75))))
    have HG9 := Lib.hid (gw_drew (gw_alloc HG.out (.cells #[.int .u32 x.ty, .slice AL x.loc.length cL, .slice AB x.body.length cB] 75)))
    have hzw : (wr.alloc (.cells #[.int .u32 x.ty, .slice AL x.loc.length cL, .slice AB x.body.length cB] 75)).drew.heap.size = wr.heap.size + 1 := World.size_alloc _ _
    have HZW := Lib.hid hzw
    clear hzw
    go_wp2_with fail
    generalize wr.alloc (.cells #[.int .u32 x.ty, .slice AL x.loc.length cL, .slice AB x.body.length cB] 75) = X at *
    have hnx : n ≤ X.drew.heap.size := by have h := HZW.out; omega
    have HNX := Lib.hid hnx
    have hPl := plain_any _ x.body (Nat.le_refl _) HBK.out _ X.drew AB cB HFB.out
    have HPl := Lib.hid hPl
    clear hPl hnx d0 d1 d2 kc kl hbl
    refine wp_region_noPanic ?_
    refine region_anyE (fun w' => Blk w' wr.heap.size #[.int .u32 x.ty, .slice AL x.loc.length cL, .slice AB x.body.length cB] 75 ∧ Blk w' g #[y0, y1, vf, y3, y4, y5, y6, .bool M.starts, .int .u32 M.start, y9, y10] 47) (fun i => i == 13) (by kernel_rfl) ⟨HF9.out, HM9.out⟩ (fun hHeld => ?_)
    refine anyE_take (i := 0) (oi := ?_) (v := ?_) ?_ (by kernel_rfl) (by kernel_rfl) (by kernel_rfl) (by kernel_rfl) (fun _ _ _ h => h) (Or.inl ⟨?_, ?_⟩) hHeld ?_
    rotate_left 2
    ·simp only [List.getElem?_toArray, List.getElem?_cons_succ, List.getElem?_cons_zero]; exact rfl
    ·rfl
    ·(intro w hSw; go_simp; try with_reducible rfl)
    try simp only [Act.put, List.setIfInBounds_toArray, List.set_cons_zero, List.set_cons_succ]
    refine anyE_take (i := 1) (oi := ?_) (v := ?_) ?_ (by kernel_rfl) (by kernel_rfl) (by kernel_rfl) (by kernel_rfl) (fun _ _ _ h => h) (Or.inl ⟨?_, ?_⟩) hHeld ?_
    rotate_left 2
    ·simp only [List.getElem?_toArray, List.getElem?_cons_succ, List.getElem?_cons_zero]; exact rfl
    ·rfl
    ·(intro w hSw; have e := (show w.cell? ⟨_, 2, none⟩ = some _ from Blk.cell hSw.2 2); go_simp; try with_reducible rfl)
    try simp only [Act.put, List.setIfInBounds_toArray, List.set_cons_zero, List.set_cons_succ]
    refine anyE_take (i := 2) (oi := ?_) (v := ?_) ?_ (by kernel_rfl) (by kernel_rfl) (by kernel_rfl) (by kernel_rfl) (fun _ _ _ h => h) (Or.inl ⟨?_, ?_⟩) hHeld ?_
    rotate_left 2
    ·simp only [List.getElem?_toArray, List.getElem?_cons_succ, List.getElem?_cons_zero]; exact rfl
    ·rfl
    ·(intro w hSw; go_simp; try with_reducible rfl)
    try simp only [Act.put, List.setIfInBounds_toArray, List.set_cons_zero, List.set_cons_succ]
    refine anyE_take (i := 3) (oi := ?_) (v := ?_) ?_ (by kernel_rfl) (by kernel_rfl) (by kernel_rfl) (by kernel_rfl) (fun _ _ _ h => h) (Or.inl ⟨?_, ?_⟩) hHeld ?_
    rotate_left 2
    ·simp only [List.getElem?_toArray, List.getElem?_cons_succ, List.getElem?_cons_zero]; exact rfl
    ·rfl
    ·(intro w hSw; have e := (show w.cell? ⟨_, 0, none⟩ = some _ from Blk.cell hSw.1 0); go_simp; try with_reducible rfl)
    try simp only [Act.put, List.setIfInBounds_toArray, List.set_cons_zero, List.set_cons_succ]
    refine anyE_take (i := 4) (oi := ?_) (v := ?_) ?_ (by kernel_rfl) (by kernel_rfl) (by kernel_rfl) (by kernel_rfl) (fun _ _ _ h => h) (Or.inl ⟨?_, ?_⟩) hHeld ?_
    rotate_left 2
    ·simp only [List.getElem?_toArray, List.getElem?_cons_succ, List.getElem?_cons_zero]; exact rfl
    ·rfl
    ·(intro w hSw; go_simp; try with_reducible rfl)
    try simp only [Act.put, List.setIfInBounds_toArray, List.set_cons_zero, List.set_cons_succ]
    refine anyE_take (i := 5) (oi := ?_) (v := ?_) ?_ (by kernel_rfl) (by kernel_rfl) (by kernel_rfl) (by kernel_rfl) (fun _ _ _ h => h) (Or.inl ⟨?_, ?_⟩) hHeld ?_
    rotate_left 2
    ·simp only [List.getElem?_toArray, List.getElem?_cons_succ, List.getElem?_cons_zero]; exact rfl
    ·rfl
    ·(intro w hSw; have e := (show w.cell? ⟨_, 1, none⟩ = some _ from Blk.cell hSw.1 1); go_simp; try with_reducible rfl)
    try simp only [Act.put, List.setIfInBounds_toArray, List.set_cons_zero, List.set_cons_succ]
    refine anyE_take (i := 6) (oi := ?_) (v := ?_) ?_ (by kernel_rfl) (by kernel_rfl) (by kernel_rfl) (by kernel_rfl) (fun _ _ _ h => h) (Or.inl ⟨?_, ?_⟩) hHeld ?_
    rotate_left 2
    ·simp only [List.getElem?_toArray, List.getElem?_cons_succ, List.getElem?_cons_zero]; exact rfl
    ·rfl
    ·(intro w hSw; go_simp; try with_reducible rfl)
    try simp only [Act.put, List.setIfInBounds_toArray, List.set_cons_zero, List.set_cons_succ]
    refine anyE_take (i := 7) (oi := ?_) (v := ?_) ?_ (by kernel_rfl) (by kernel_rfl) (by kernel_rfl) (by kernel_rfl) (fun _ _ _ h => h) (Or.inl ⟨?_, ?_⟩) hHeld ?_
    rotate_left 2
    ·simp only [List.getElem?_toArray, List.getElem?_cons_succ, List.getElem?_cons_zero]; exact rfl
    ·rfl
    ·(intro w hSw; have e := (show w.cell? ⟨_, 2, none⟩ = some _ from Blk.cell hSw.1 2); go_simp; try with_reducible rfl)
    try simp only [Act.put, List.setIfInBounds_toArray, List.set_cons_zero, List.set_cons_succ]
    refine anyE_one (i := 8) (o := ?_) (by kernel_rfl) ?_ rfl (fun K hK => ?_)
    rotate_left
    ·simp only [List.getElem?_toArray, List.getElem?_cons_succ, List.getElem?_cons_zero]; exact rfl
    go_simp
    refine HPl.out.mono ?_
    rintro E W2 ⟨hB2, AE, cE, rfl, hl2, hF2⟩
    have HM2 := Lib.hid (HM9.out.below hB2 HM9.out.lt)
    have hH2 := hHeld.1.below hB2 hHeld.1.lt
    go_wp2_with fail
    refine hK.out _ _ ⟨hH2, HM2.out⟩ (fun hHeld => ?_)
    clear hK K
    try simp only [Act.put, List.setIfInBounds_toArray, List.set_cons_zero, List.set_cons_succ]
    have hs2 := hB2.size
    have HO2 := Lib.hid (HO9.out.below hB2)
    have HN2 := Lib.hid (show n ≤ W2.heap.size by have h := HNX.out; omega)
    have hvb : ∀ k, vf.ownBlock = some k → k < X.drew.heap.size := fun k hk => by have h := (Own.block HO.out hk).2; have h2 := HZW.out; omega
    have hFB2 : FC kR W2 (fun k => ((ok k ∧ k < W.heap.size) ∨ n ≤ k) ∧ some k ≠ vf.ownBlock) AE x.body := Ft.mono hF2 (fun k hk => by
     rcases hk with hk | hk
     ·exact ⟨.inl hk, fun e => by have h1 := HNE.out k e.symm; have h2 := hk.2; have h3 := HWg.out; have h4 := HGn.out; omega⟩
     ·exact ⟨.inr (by have h := HNX.out; omega), fun e => by have h1 := hvb k e.symm; omega⟩)
    have hFL2 : FC (rng .u8) W2 (fun k => ((ok k ∧ k < W.heap.size) ∨ n ≤ k) ∧ some k ≠ vf.ownBlock) AL x.loc := Ft.mono (Ft.below HFL.out hB2) (fun k hk => ⟨.inl hk, fun e => by have h1 := HNE.out k e.symm; have h2 := hk.2; have h3 := HWg.out; have h4 := HGn.out; omega⟩)
    have HFK := Lib.hid (show FK kRFn W2 (fun k => ((ok k ∧ k < W.heap.size) ∨ n ≤ k) ∧ some k ≠ vf.ownBlock) x [.int .u32 x.ty, .slice AL x.loc.length cL, .slice AE x.body.length cE] from rfn_mk HWF.out hFL2 HLL.out hFB2 hl2)
    have HL9 := Lib.hid (show ((fns.take j).length + 1) * 56 ≤ 140737488355328 from by have h := HLN2.out; rw [List.length_take]; omega)
    have HMD := Lib.hid (fun Y (h : W2.grownBy Y vf.ownBlock) => (by
     have hb : Blk Y g #[y0, y1, vf, y3, y4, y5, y6, .bool M.starts, .int .u32 M.start, y9, y10] 47 := Blk.grown HM2.out h (fun e => by have h1 := HNE.out g e.symm; have h2 := HGn.out; omega)
     exact ⟨hb.cell 2, hb.frozen 2, hb.lt⟩ : Y.cell? ⟨g, 2, none⟩ = some vf ∧ Y.frozen? ⟨g, 2, none⟩ = false ∧ g < Y.heap.size))
    have HBX := Lib.hid (show some wr.heap.size ≠ vf.ownBlock from fun e => by have h := (Own.block HO.out e.symm).2; omega)
    have HBV := Lib.hid (show some g ≠ vf.ownBlock from fun e => by have h1 := HNE.out g e.symm; have h2 := HGn.out; omega)
    have HBG := Lib.hid (show wr.heap.size ≠ g from by have h := HMb.out.lt; omega)
    have HB2 := Lib.hid hB2
    clear hFB2 hFL2 hvb hs2 hl2 hF2 hB2
    refine anyE_take (i := 9) (oi := ?_) (v := ?_) ?_ (by kernel_rfl) (by kernel_rfl) (by kernel_rfl) (by kernel_rfl) (fun _ _ _ h => h) (Or.inl ⟨?_, ?_⟩) hHeld ?_
    rotate_left 2
    ·simp only [List.getElem?_toArray, List.getElem?_cons_succ, List.getElem?_cons_zero]; exact rfl
    ·rfl
    ·(intro w hSw; go_simp; try with_reducible rfl)
    try simp only [Act.put, List.setIfInBounds_toArray, List.set_cons_zero, List.set_cons_succ]
    refine anyE_one (i := 10) (o := ?_) (by kernel_rfl) ?_ rfl (fun K hK => ?_)
    rotate_left
    ·simp only [List.getElem?_toArray, List.getElem?_cons_succ, List.getElem?_cons_zero]; exact rfl
    go_simp
    refine hK.out _ _ ⟨hHeld.1.alloc _, hHeld.2.alloc _⟩ (fun hHeld => ?_)
    clear hK K
    try simp only [Act.put, List.setIfInBounds_toArray, List.set_cons_zero, List.set_cons_succ]
    refine anyE_one (i := 11) (o := ?_) (by kernel_rfl) ?_ rfl (fun K hK => ?_)
    rotate_left
    ·simp only [List.getElem?_toArray, List.getElem?_cons_succ, List.getElem?_cons_zero]; exact rfl
    refine Own.append_step (d := kRFn) n rfl (.tmp 95) (.tmp 104) 40 87 _ 56 rfl Tryz.underlying40 infoR_fn rfl (by decide) (by decide) vf (fns.take j) x [.int .u32 x.ty, .slice AL x.loc.length cL, .slice AE x.body.length cE] (fun k => (ok k ∧ k < W.heap.size) ∨ n ≤ k) rfl rfl HFK.out HO2.out HN2.out HL9.out ?_
    intro v1 w1 hown1 hg1 hat1
    obtain ⟨A9, c9, rfl, hl9, hF9⟩ := Own.reads hown1
    obtain ⟨q2, qf, ql⟩ := HMD.out _ hg1
    refine hK.out _ _ ⟨Blk.grown hH2 hg1 HBX.out, Blk.grown HM2.out hg1 HBV.out⟩ (fun hHeld => ?_)
    clear hK K
    try simp only [Act.put, List.setIfInBounds_toArray, List.set_cons_zero, List.set_cons_succ]
    refine anyE_take (i := 12) (oi := ?_) (v := ?_) ?_ (by kernel_rfl) (by kernel_rfl) (by kernel_rfl) (by kernel_rfl) (fun _ _ _ h => h) (Or.inl ⟨?_, ?_⟩) hHeld ?_
    rotate_left 2
    ·simp only [List.getElem?_toArray, List.getElem?_cons_succ, List.getElem?_cons_zero]; exact rfl
    ·rfl
    ·(intro w hSw; go_simp; try with_reducible rfl)
    try simp only [Act.put, List.setIfInBounds_toArray, List.set_cons_zero, List.set_cons_succ]
    refine anyE_fin (i := 13) (o := ?_) (by kernel_rfl) ?_ rfl (fun K hK => ?_)
    rotate_left
    ·simp only [List.getElem?_toArray, List.getElem?_cons_succ, List.getElem?_cons_zero]; exact rfl
    go_simp
    refine hK.out _ _ ?_
    clear hK K
    try simp only [Act.put, List.setIfInBounds_toArray, List.set_cons_zero, List.set_cons_succ]
    refine anyE_done (by kernel_rfl) ?_ _
    refine NoPanic.normal ?_
    have htk : fns.take (j + 1) = fns.take j ++ [x] := by rw [List.take_add_one, HX.out]; rfl
    have hlen9 : (fns.take j ++ [x]).length = j + 1 := by rw [List.length_append, List.length_take]; simp only [List.length_cons, List.length_nil]; omega
    rw [hlen9] at hown1
    have hbk : ∀ k, (Value.slice A9 (j + 1) c9).ownBlock = some k → n ≤ k := fun k hk => (Own.block hown1 hk).1
    have hoz := hown1.grown (gset w1 g 2 (.slice A9 (j + 1) c9)) (.inr (fun e => by have h1 := hbk g e; have h2 := HGn.out; omega)) (fun k hk e => by injection e with e; have h2 := HGn.out; have h3 := HWg.out; rcases hk with hk | hk <;> omega)
    rw [← htk] at hoz
    have HOZ := Lib.hid hoz
    have HMZ := Lib.hid ((Blk.grown HM2.out hg1 (fun e => by have h1 := HNE.out g e.symm; have h2 := HGn.out; omega)).set 2 (.slice A9 (j + 1) c9))
    have HGZ := Lib.hid ((grown_jj (grown_jj HG9.out (grown_below HB2.out none) (fun k e => by cases e)) hg1 (fun k hk => .inr (by rw [← HYtofaiocffifhfaaGreat.out]; exact HNE.out k hk))).trans (gset w1 g 2 (.slice A9 (j + 1) c9)))
    clear hown1 hg1 hat1 hl9 hF9 htk hbk hoz hHeld hH2 q2 qf ql
    go_wp2_with fail
    go_roundw
    case rel =>
     subst hA
     (repeat apply Exists.intro)
     refine ⟨?_, rfl⟩
     exact ⟨j + 1, .slice A9 (j + 1) c9, by omega, by go_num, HOZ, HMZ, HGZ⟩
    case measure => simp [intOf]; omega
   ·obtain rfl : j = fns.length := by omega
    go_wp2_with fail
    go_meet
    have hown := HO.out
    rw [List.take_length] at hown
    have hst := HR0.out.step (okA_agr HG.out (fun k hk => by have h1 := hk.2; have h2 := HWg.out; omega))
    exact ⟨g, rfl, hle, HB0.out.grown HG.out HB0.out.size (fun k e => by injection e with e; omega), _, _, _, _, _, _, _, _, _, { HN0.out.up with n2 := fun h => absurd h (by decide) }, HMb.out, { hst with r2 := okA_own hown HN1.out HGn.out }⟩
 case rest =>
 obtain ⟨g, rfl, hle, HS⟩ := hcut
 have hpw := HP.out.below HS.out.1 lp
 have pk : wc.cell? ⟨W.heap.size, 5, none⟩ = some (.slice A5 M.globals.length c5) := by have h := hpw.cell 5; rw [HV5.out] at h; exact h
 have pl := hpw.lt
 clear hpw
 go_upto_block 8 with fail
 go_cut [3] (fun s3 wx => ∃ (g : Nat), s3 = .pointer (some ⟨g, 0, none⟩) ∧ W1.heap.size ≤ g ∧ Hid (PSt 5 (fun k => ok k ∧ k < W.heap.size) W1 g wx (⟨M.types, M.imports, M.tables, M.mems, M.globals, M.exports, M.starts, M.start, [], [], [], []⟩ : ModD) fns))
 case first =>
  obtain ⟨hB0, y0, y1, y2, y3, y4, y5, y6, y9, y10, hN0, hblk0, hR0⟩ := HS.out
  obtain rfl := hN0.n5 (by decide)
  have HN0 := Lib.hid hN0
  have HB0 := Lib.hid hB0
  have HK0 := Lib.hid hblk0
  have HR0 := Lib.hid hR0
  have hgl := hblk0.lt
  obtain ⟨n, hn⟩ : ∃ n, n = wc.heap.size := ⟨_, rfl⟩
  have HGn := Lib.hid (show g < n by omega)
  have HWg := Lib.hid (show W.heap.size < g by omega)
  have h1n := hB0.size
  have HN1 := Lib.hid (show W1.heap.size ≤ n by omega)
  have HYtofaiocffifhfaaGreat := Lib.hid hn
  have HF := Lib.hid (Ft.step HF5.out (Agr.of_below hB0))
  clear hB0 hN0 hblk0 hR0 HS pk pl hgl hn h1n
  go_wp2_with fail
  go_loopw [111] (fun i wr => ∃ (j : Nat) (vf : Value), j ≤ M.globals.length ∧ i = .int .i64 j ∧ Hid (Own kRCell 116 wr n (fun k => (ok k ∧ k < W.heap.size) ∨ n ≤ k) vf (M.globals.take j)) ∧ Hid (Blk wr g #[y0, y1, y2, y3, y4, vf, y6, .bool M.starts, .int .u32 M.start, y9, y10] 47) ∧ Hid (wc.grownBy wr (some g))) (fun i _ => M.globals.length - (intOf i).toNat)
  case atStart => exact ⟨0, .slice none 0 0, Nat.zero_le _, rfl, Own.nil, HK0.out, World.grownBy.refl _ _⟩
  case round =>
   obtain ⟨j, vf, hj, rfl, HO, HMb, HG⟩ := hrel
   have hzr := HG.out.size
   rw [← HYtofaiocffifhfaaGreat.out] at hzr
   have HFr := Lib.hid (Ft.step HF.out (agr_grown HG.out (fun k hk e => by injection e with e; have h1 := hk.2; have h2 := HWg.out; omega)))
   have hll := HLN5.out
   by_cases hlt : j < M.globals.length
   ·have hlt2 : (j : Int) < (M.globals.length : Int) := by omega
    obtain ⟨b, o, x, cs, hA, hx, hk, hc⟩ := FC.at_ HFr.out (show 0 < 3 by decide) j hlt
    obtain ⟨AB, cB, rfl, hlB, hFB⟩ := cell_open hk
    have hszk : kCell.sz = 3 := rfl
    have d0 := hc 0 _ rfl
    have d1 := hc 1 _ rfl
    have d2 := hc 2 _ rfl
    simp only [hszk, Nat.add_zero] at d0 d1 d2
    have hbl := World.block_lt_of_cell? _ _ d0
    simp only at hbl
    have hmb := HMb.out
    have kc := hmb.cell 5
    have kl := hmb.lt
    have HX := Lib.hid hx.out
    have HKx := Lib.hid hk
    have hne : ∀ k, vf.ownBlock = some k → n ≤ k := fun k hk => (Own.block HO.out hk).1
    have HNE := Lib.hid hne
    clear hx hk hc hmb hszk
    have HWF := Lib.hid (cell_wf HKx.out)
    have HBK := Lib.hid (HBK5.out x (List.mem_of_getElem? HX.out))
    have HFB := Lib.hid (fc_drew (fc_alloc hFB (.cells #[.int .u8 x.ty.1, .bool x.ty.2, .slice AB x.init.length cB] 114)))
    have HLB := Lib.hid hlB
    clear hFB hlB hne
    have HF9 := Lib.hid (Blk.new wr #[.int .u8 x.ty.1, .bool x.ty.2, .slice AB x.init.length cB] 114).drew
    have HM9 := Lib.hid (HMb.out.alloc (.cells #[.int .u8 x.ty.1, .bool x.ty.2, .slice AB x.init.length cB] 114)).drew
    have HO9 := Lib.hid (HO.out.below (bl_drew (bl_alloc (Below.refl wr.heap.size wr) (.cells #[.int .u8 x.ty.1, .bool x.ty.2, .slice AB x.init.length cB] 114))))
    have HG9 := Lib.hid (gw_drew (gw_alloc HG.out (.cells #[.int .u8 x.ty.1, .bool x.ty.2, .slice AB x.init.length cB] 114)))
    have hzw : (wr.alloc (.cells #[.int .u8 x.ty.1, .bool x.ty.2, .slice AB x.init.length cB] 114)).drew.heap.size = wr.heap.size + 1 := World.size_alloc _ _
    have HZW := Lib.hid hzw
    clear hzw
    go_wp2_with fail
    generalize wr.alloc (.cells #[.int .u8 x.ty.1, .bool x.ty.2, .slice AB x.init.length cB] 114) = X at *
    have hnx : n ≤ X.drew.heap.size := by have h := HZW.out; omega
    have HNX := Lib.hid hnx
    have hPl := plain_any _ x.init (Nat.le_refl _) HBK.out _ X.drew AB cB HFB.out
    have HPl := Lib.hid hPl
    clear hPl hnx d0 d1 d2 kc kl hbl
    refine wp_region_noPanic ?_
    refine region_anyE (fun w' => Blk w' wr.heap.size #[.int .u8 x.ty.1, .bool x.ty.2, .slice AB x.init.length cB] 114 ∧ Blk w' g #[y0, y1, y2, y3, y4, vf, y6, .bool M.starts, .int .u32 M.start, y9, y10] 47) (fun i => i == 15) (by kernel_rfl) ⟨HF9.out, HM9.out⟩ (fun hHeld => ?_)
    refine anyE_take (i := 0) (oi := ?_) (v := ?_) ?_ (by kernel_rfl) (by kernel_rfl) (by kernel_rfl) (by kernel_rfl) (fun _ _ _ h => h) (Or.inl ⟨?_, ?_⟩) hHeld ?_
    rotate_left 2
    ·simp only [List.getElem?_toArray, List.getElem?_cons_succ, List.getElem?_cons_zero]; exact rfl
    ·rfl
    ·(intro w hSw; go_simp; try with_reducible rfl)
    try simp only [Act.put, List.setIfInBounds_toArray, List.set_cons_zero, List.set_cons_succ]
    refine anyE_take (i := 1) (oi := ?_) (v := ?_) ?_ (by kernel_rfl) (by kernel_rfl) (by kernel_rfl) (by kernel_rfl) (fun _ _ _ h => h) (Or.inl ⟨?_, ?_⟩) hHeld ?_
    rotate_left 2
    ·simp only [List.getElem?_toArray, List.getElem?_cons_succ, List.getElem?_cons_zero]; exact rfl
    ·rfl
    ·(intro w hSw; have e := (show w.cell? ⟨_, 5, none⟩ = some _ from Blk.cell hSw.2 5); go_simp; try with_reducible rfl)
    try simp only [Act.put, List.setIfInBounds_toArray, List.set_cons_zero, List.set_cons_succ]
    refine anyE_take (i := 2) (oi := ?_) (v := ?_) ?_ (by kernel_rfl) (by kernel_rfl) (by kernel_rfl) (by kernel_rfl) (fun _ _ _ h => h) (Or.inl ⟨?_, ?_⟩) hHeld ?_
    rotate_left 2
    ·simp only [List.getElem?_toArray, List.getElem?_cons_succ, List.getElem?_cons_zero]; exact rfl
    ·rfl
    ·(intro w hSw; go_simp; try with_reducible rfl)
    try simp only [Act.put, List.setIfInBounds_toArray, List.set_cons_zero, List.set_cons_succ]
    refine anyE_take (i := 3) (oi := ?_) (v := ?_) ?_ (by kernel_rfl) (by kernel_rfl) (by kernel_rfl) (by kernel_rfl) (fun _ _ _ h => h) (Or.inl ⟨?_, ?_⟩) hHeld ?_
    rotate_left 2
    ·simp only [List.getElem?_toArray, List.getElem?_cons_succ, List.getElem?_cons_zero]; exact rfl
    ·rfl
    ·(intro w hSw; go_simp; try with_reducible rfl)
    try simp only [Act.put, List.setIfInBounds_toArray, List.set_cons_zero, List.set_cons_succ]
    refine anyE_take (i := 4) (oi := ?_) (v := ?_) ?_ (by kernel_rfl) (by kernel_rfl) (by kernel_rfl) (by kernel_rfl) (fun _ _ _ h => h) (Or.inl ⟨?_, ?_⟩) hHeld ?_
    rotate_left 2
    ·simp only [List.getElem?_toArray, List.getElem?_cons_succ, List.getElem?_cons_zero]; exact rfl
    ·rfl
    ·(intro w hSw; have e := (show w.cell? ⟨_, 0, none⟩ = some _ from Blk.cell hSw.1 0); go_simp; try with_reducible rfl)
    try simp only [Act.put, List.setIfInBounds_toArray, List.set_cons_zero, List.set_cons_succ]
    refine anyE_take (i := 5) (oi := ?_) (v := ?_) ?_ (by kernel_rfl) (by kernel_rfl) (by kernel_rfl) (by kernel_rfl) (fun _ _ _ h => h) (Or.inl ⟨?_, ?_⟩) hHeld ?_
    rotate_left 2
    ·simp only [List.getElem?_toArray, List.getElem?_cons_succ, List.getElem?_cons_zero]; exact rfl
    ·rfl
    ·(intro w hSw; go_simp; try with_reducible rfl)
    try simp only [Act.put, List.setIfInBounds_toArray, List.set_cons_zero, List.set_cons_succ]
    refine anyE_take (i := 6) (oi := ?_) (v := ?_) ?_ (by kernel_rfl) (by kernel_rfl) (by kernel_rfl) (by kernel_rfl) (fun _ _ _ h => h) (Or.inl ⟨?_, ?_⟩) hHeld ?_
    rotate_left 2
    ·simp only [List.getElem?_toArray, List.getElem?_cons_succ, List.getElem?_cons_zero]; exact rfl
    ·rfl
    ·(intro w hSw; go_simp; try with_reducible rfl)
    try simp only [Act.put, List.setIfInBounds_toArray, List.set_cons_zero, List.set_cons_succ]
    refine anyE_take (i := 7) (oi := ?_) (v := ?_) ?_ (by kernel_rfl) (by kernel_rfl) (by kernel_rfl) (by kernel_rfl) (fun _ _ _ h => h) (Or.inl ⟨?_, ?_⟩) hHeld ?_
    rotate_left 2
    ·simp only [List.getElem?_toArray, List.getElem?_cons_succ, List.getElem?_cons_zero]; exact rfl
    ·rfl
    ·(intro w hSw; have e := (show w.cell? ⟨_, 1, none⟩ = some _ from Blk.cell hSw.1 1); go_simp; try with_reducible rfl)
    try simp only [Act.put, List.setIfInBounds_toArray, List.set_cons_zero, List.set_cons_succ]
    refine anyE_take (i := 8) (oi := ?_) (v := ?_) ?_ (by kernel_rfl) (by kernel_rfl) (by kernel_rfl) (by kernel_rfl) (fun _ _ _ h => h) (Or.inl ⟨?_, ?_⟩) hHeld ?_
    rotate_left 2
    ·simp only [List.getElem?_toArray, List.getElem?_cons_succ, List.getElem?_cons_zero]; exact rfl
    ·rfl
    ·(intro w hSw; go_simp; try with_reducible rfl)
    try simp only [Act.put, List.setIfInBounds_toArray, List.set_cons_zero, List.set_cons_succ]
    refine anyE_take (i := 9) (oi := ?_) (v := ?_) ?_ (by kernel_rfl) (by kernel_rfl) (by kernel_rfl) (by kernel_rfl) (fun _ _ _ h => h) (Or.inl ⟨?_, ?_⟩) hHeld ?_
    rotate_left 2
    ·simp only [List.getElem?_toArray, List.getElem?_cons_succ, List.getElem?_cons_zero]; exact rfl
    ·rfl
    ·(intro w hSw; have e := (show w.cell? ⟨_, 2, none⟩ = some _ from Blk.cell hSw.1 2); go_simp; try with_reducible rfl)
    try simp only [Act.put, List.setIfInBounds_toArray, List.set_cons_zero, List.set_cons_succ]
    refine anyE_one (i := 10) (o := ?_) (by kernel_rfl) ?_ rfl (fun K hK => ?_)
    rotate_left
    ·simp only [List.getElem?_toArray, List.getElem?_cons_succ, List.getElem?_cons_zero]; exact rfl
    go_simp
    refine HPl.out.mono ?_
    rintro E W2 ⟨hB2, AE, cE, rfl, hl2, hF2⟩
    have HM2 := Lib.hid (HM9.out.below hB2 HM9.out.lt)
    have hH2 := hHeld.1.below hB2 hHeld.1.lt
    go_wp2_with fail
    refine hK.out _ _ ⟨hH2, HM2.out⟩ (fun hHeld => ?_)
    clear hK K
    try simp only [Act.put, List.setIfInBounds_toArray, List.set_cons_zero, List.set_cons_succ]
    have hs2 := hB2.size
    have HO2 := Lib.hid (HO9.out.below hB2)
    have HN2 := Lib.hid (show n ≤ W2.heap.size by have h := HNX.out; omega)
    have hvb : ∀ k, vf.ownBlock = some k → k < X.drew.heap.size := fun k hk => by have h := (Own.block HO.out hk).2; have h2 := HZW.out; omega
    have hFB2 : FC kR W2 (fun k => ((ok k ∧ k < W.heap.size) ∨ n ≤ k) ∧ some k ≠ vf.ownBlock) AE x.init := Ft.mono hF2 (fun k hk => by
     rcases hk with hk | hk
     ·exact ⟨.inl hk, fun e => by have h1 := HNE.out k e.symm; have h2 := hk.2; have h3 := HWg.out; have h4 := HGn.out; omega⟩
     ·exact ⟨.inr (by have h := HNX.out; omega), fun e => by have h1 := hvb k e.symm; omega⟩)
    have HFK := Lib.hid (show FK kRCell W2 (fun k => ((ok k ∧ k < W.heap.size) ∨ n ≤ k) ∧ some k ≠ vf.ownBlock) x [.int .u8 x.ty.1, .bool x.ty.2, .slice AE x.init.length cE] from rcell_mk HWF.out hFB2 hl2)
    have HL9 := Lib.hid (show ((M.globals.take j).length + 1) * 32 ≤ 140737488355328 from by have h := HLN5.out; rw [List.length_take]; omega)
    have HMD := Lib.hid (fun Y (h : W2.grownBy Y vf.ownBlock) => (by
     have hb : Blk Y g #[y0, y1, y2, y3, y4, vf, y6, .bool M.starts, .int .u32 M.start, y9, y10] 47 := Blk.grown HM2.out h (fun e => by have h1 := HNE.out g e.symm; have h2 := HGn.out; omega)
     exact ⟨hb.cell 5, hb.frozen 5, hb.lt⟩ : Y.cell? ⟨g, 5, none⟩ = some vf ∧ Y.frozen? ⟨g, 5, none⟩ = false ∧ g < Y.heap.size))
    have HBX := Lib.hid (show some wr.heap.size ≠ vf.ownBlock from fun e => by have h := (Own.block HO.out e.symm).2; omega)
    have HBV := Lib.hid (show some g ≠ vf.ownBlock from fun e => by have h1 := HNE.out g e.symm; have h2 := HGn.out; omega)
    have HBG := Lib.hid (show wr.heap.size ≠ g from by have h := HMb.out.lt; omega)
    have HB2 := Lib.hid hB2
    clear hFB2  hvb hs2 hl2 hF2 hB2
    refine anyE_take (i := 11) (oi := ?_) (v := ?_) ?_ (by kernel_rfl) (by kernel_rfl) (by kernel_rfl) (by kernel_rfl) (fun _ _ _ h => h) (Or.inl ⟨?_, ?_⟩) hHeld ?_
    rotate_left 2
    ·simp only [List.getElem?_toArray, List.getElem?_cons_succ, List.getElem?_cons_zero]; exact rfl
    ·rfl
    ·(intro w hSw; go_simp; try with_reducible rfl)
    try simp only [Act.put, List.setIfInBounds_toArray, List.set_cons_zero, List.set_cons_succ]
    refine anyE_one (i := 12) (o := ?_) (by kernel_rfl) ?_ rfl (fun K hK => ?_)
    rotate_left
    ·simp only [List.getElem?_toArray, List.getElem?_cons_succ, List.getElem?_cons_zero]; exact rfl
    go_simp
    refine hK.out _ _ ⟨hHeld.1.alloc _, hHeld.2.alloc _⟩ (fun hHeld => ?_)
    clear hK K
    try simp only [Act.put, List.setIfInBounds_toArray, List.set_cons_zero, List.set_cons_succ]
    refine anyE_one (i := 13) (o := ?_) (by kernel_rfl) ?_ rfl (fun K hK => ?_)
    rotate_left
    ·simp only [List.getElem?_toArray, List.getElem?_cons_succ, List.getElem?_cons_zero]; exact rfl
    refine Own.append_step (d := kRCell) n rfl (.tmp 116) (.tmp 127) 42 116 _ 32 rfl Tryz.underlying42 infoR_cell rfl (by decide) (by decide) vf (M.globals.take j) x [.int .u8 x.ty.1, .bool x.ty.2, .slice AE x.init.length cE] (fun k => (ok k ∧ k < W.heap.size) ∨ n ≤ k) rfl rfl HFK.out HO2.out HN2.out HL9.out ?_
    intro v1 w1 hown1 hg1 hat1
    obtain ⟨A9, c9, rfl, hl9, hF9⟩ := Own.reads hown1
    obtain ⟨q2, qf, ql⟩ := HMD.out _ hg1
    refine hK.out _ _ ⟨Blk.grown hH2 hg1 HBX.out, Blk.grown HM2.out hg1 HBV.out⟩ (fun hHeld => ?_)
    clear hK K
    try simp only [Act.put, List.setIfInBounds_toArray, List.set_cons_zero, List.set_cons_succ]
    refine anyE_take (i := 14) (oi := ?_) (v := ?_) ?_ (by kernel_rfl) (by kernel_rfl) (by kernel_rfl) (by kernel_rfl) (fun _ _ _ h => h) (Or.inl ⟨?_, ?_⟩) hHeld ?_
    rotate_left 2
    ·simp only [List.getElem?_toArray, List.getElem?_cons_succ, List.getElem?_cons_zero]; exact rfl
    ·rfl
    ·(intro w hSw; go_simp; try with_reducible rfl)
    try simp only [Act.put, List.setIfInBounds_toArray, List.set_cons_zero, List.set_cons_succ]
    refine anyE_fin (i := 15) (o := ?_) (by kernel_rfl) ?_ rfl (fun K hK => ?_)
    rotate_left
    ·simp only [List.getElem?_toArray, List.getElem?_cons_succ, List.getElem?_cons_zero]; exact rfl
    go_simp
    refine hK.out _ _ ?_
    clear hK K
    try simp only [Act.put, List.setIfInBounds_toArray, List.set_cons_zero, List.set_cons_succ]
    refine anyE_done (by kernel_rfl) ?_ _
    refine NoPanic.normal ?_
    have htk : M.globals.take (j + 1) = M.globals.take j ++ [x] := by rw [List.take_add_one, HX.out]; rfl
    have hlen9 : (M.globals.take j ++ [x]).length = j + 1 := by rw [List.length_append, List.length_take]; simp only [List.length_cons, List.length_nil]; omega
    rw [hlen9] at hown1
    have hbk : ∀ k, (Value.slice A9 (j + 1) c9).ownBlock = some k → n ≤ k := fun k hk => (Own.block hown1 hk).1
    have hoz := hown1.grown (gset w1 g 5 (.slice A9 (j + 1) c9)) (.inr (fun e => by have h1 := hbk g e; have h2 := HGn.out; omega)) (fun k hk e => by injection e with e; have h2 := HGn.out; have h3 := HWg.out; rcases hk with hk | hk <;> omega)
    rw [← htk] at hoz
    have HOZ := Lib.hid hoz
    have HMZ := Lib.hid ((Blk.grown HM2.out hg1 (fun e => by have h1 := HNE.out g e.symm; have h2 := HGn.out; omega)).set 5 (.slice A9 (j + 1) c9))
    have HGZ := Lib.hid ((grown_jj (grown_jj HG9.out (grown_below HB2.out none) (fun k e => by cases e)) hg1 (fun k hk => .inr (by rw [← HYtofaiocffifhfaaGreat.out]; exact HNE.out k hk))).trans (gset w1 g 5 (.slice A9 (j + 1) c9)))
    clear hown1 hg1 hat1 hl9 hF9 htk hbk hoz hHeld hH2 q2 qf ql
    go_wp2_with fail
    go_roundw
    case rel =>
     subst hA
     (repeat apply Exists.intro)
     refine ⟨?_, rfl⟩
     exact ⟨j + 1, .slice A9 (j + 1) c9, by omega, by go_num, HOZ, HMZ, HGZ⟩
    case measure => simp [intOf]; omega
   ·obtain rfl : j = M.globals.length := by omega
    go_wp2_with fail
    go_meet
    have hown := HO.out
    rw [List.take_length] at hown
    have hst := HR0.out.step (okA_agr HG.out (fun k hk => by have h1 := hk.2; have h2 := HWg.out; omega))
    exact ⟨g, rfl, hle, HB0.out.grown HG.out HB0.out.size (fun k e => by injection e with e; omega), _, _, _, _, _, _, _, _, _, { HN0.out.up with n5 := fun h => absurd h (by decide) }, HMb.out, { hst with r5 := okA_own hown HN1.out HGn.out }⟩
 case rest =>
 obtain ⟨g, rfl, hle, HS⟩ := hcut
 have hpw := HP.out.below HS.out.1 lp
 have pk : wc.cell? ⟨W.heap.size, 9, none⟩ = some (.slice A9 M.elems.length c9) := by have h := hpw.cell 9; rw [HV9.out] at h; exact h
 have pl := hpw.lt
 clear hpw
 go_upto_block 10 with fail
 go_cut [3] (fun s3 wx => ∃ (g : Nat), s3 = .pointer (some ⟨g, 0, none⟩) ∧ W1.heap.size ≤ g ∧ Hid (PSt 6 (fun k => ok k ∧ k < W.heap.size) W1 g wx (⟨M.types, M.imports, M.tables, M.mems, M.globals, M.exports, M.starts, M.start, M.elems, [], [], []⟩ : ModD) fns))
 case first =>
  obtain ⟨hB0, y0, y1, y2, y3, y4, y5, y6, y9, y10, hN0, hblk0, hR0⟩ := HS.out
  obtain rfl := hN0.n9 (by decide)
  have HN0 := Lib.hid hN0
  have HB0 := Lib.hid hB0
  have HK0 := Lib.hid hblk0
  have HR0 := Lib.hid hR0
  have hgl := hblk0.lt
  obtain ⟨n, hn⟩ : ∃ n, n = wc.heap.size := ⟨_, rfl⟩
  have HGn := Lib.hid (show g < n by omega)
  have HWg := Lib.hid (show W.heap.size < g by omega)
  have h1n := hB0.size
  have HN1 := Lib.hid (show W1.heap.size ≤ n by omega)
  have HYtofaiocffifhfaaGreat := Lib.hid hn
  have HF := Lib.hid (Ft.step HF9.out (Agr.of_below hB0))
  clear hB0 hN0 hblk0 hR0 HS pk pl hgl hn h1n
  go_wp2_with fail
  go_loopw [134] (fun i wr => ∃ (j : Nat) (vf : Value), j ≤ M.elems.length ∧ i = .int .i64 j ∧ Hid (Own kRElem 92 wr n (fun k => (ok k ∧ k < W.heap.size) ∨ n ≤ k) vf (M.elems.take j)) ∧ Hid (Blk wr g #[y0, y1, y2, y3, y4, y5, y6, .bool M.starts, .int .u32 M.start, vf, y10] 47) ∧ Hid (wc.grownBy wr (some g))) (fun i _ => M.elems.length - (intOf i).toNat)
  case atStart => exact ⟨0, .slice none 0 0, Nat.zero_le _, rfl, Own.nil, HK0.out, World.grownBy.refl _ _⟩
  case round =>
   obtain ⟨j, vf, hj, rfl, HO, HMb, HG⟩ := hrel
   have hzr := HG.out.size
   rw [← HYtofaiocffifhfaaGreat.out] at hzr
   have HFr := Lib.hid (Ft.step HF.out (agr_grown HG.out (fun k hk e => by injection e with e; have h1 := hk.2; have h2 := HWg.out; omega)))
   have hll := HLN9.out
   by_cases hlt : j < M.elems.length
   ·have hlt2 : (j : Int) < (M.elems.length : Int) := by omega
    obtain ⟨b, o, x, cs, hA, hx, hk, hc⟩ := FC.at_ HFr.out (show 0 < 3 by decide) j hlt
    obtain ⟨AB, cB, AL, cL, rfl, hlB, hFB, hlL, hFL⟩ := elem_open hk
    have hszk : kElem.sz = 3 := rfl
    have d0 := hc 0 _ rfl
    have d1 := hc 1 _ rfl
    have d2 := hc 2 _ rfl
    simp only [hszk, Nat.add_zero] at d0 d1 d2
    have hbl := World.block_lt_of_cell? _ _ d0
    simp only at hbl
    have hmb := HMb.out
    have kc := hmb.cell 9
    have kl := hmb.lt
    have HX := Lib.hid hx.out
    have HKx := Lib.hid hk
    have hne : ∀ k, vf.ownBlock = some k → n ≤ k := fun k hk => (Own.block HO.out hk).1
    have HNE := Lib.hid hne
    clear hx hk hc hmb hszk
    have HWF := Lib.hid (elem_wf HKx.out)
    have HBK := Lib.hid (HBK9.out x (List.mem_of_getElem? HX.out))
    have HFB := Lib.hid (fc_drew (fc_alloc hFB (.cells #[.int .u32 x.tab, .slice AB x.off.length cB, .slice AL x.fns.length cL] 118)))
    have HLB := Lib.hid hlB
    have HFL := Lib.hid (fc_drew (fc_alloc hFL (.cells #[.int .u32 x.tab, .slice AB x.off.length cB, .slice AL x.fns.length cL] 118)))
    have HLL := Lib.hid hlL
    clear hFL hlL
    clear hFB hlB hne
    have HF9 := Lib.hid (Blk.new wr #[.int .u32 x.tab, .slice AB x.off.length cB, .slice AL x.fns.length cL] 118).drew
    have HM9 := Lib.hid (HMb.out.alloc (.cells #[.int .u32 x.tab, .slice AB x.off.length cB, .slice AL x.fns.length cL] 118)).drew
    have HO9 := Lib.hid (HO.out.below (bl_drew (bl_alloc (Below.refl wr.heap.size wr) (.cells #[.int .u32 x.tab, .slice AB x.off.length cB, .slice AL x.fns.length cL] 118))))
    have HG9 := Lib.hid (gw_drew (gw_alloc HG.out (.cells #[.int .u32 x.tab, .slice AB x.off.length cB, .slice AL x.fns.length cL] 118)))
    have hzw : (wr.alloc (.cells #[.int .u32 x.tab, .slice AB x.off.length cB, .slice AL x.fns.length cL] 118)).drew.heap.size = wr.heap.size + 1 := World.size_alloc _ _
    have HZW := Lib.hid hzw
    clear hzw
    go_wp2_with fail
    generalize wr.alloc (.cells #[.int .u32 x.tab, .slice AB x.off.length cB, .slice AL x.fns.length cL] 118) = X at *
    have hnx : n ≤ X.drew.heap.size := by have h := HZW.out; omega
    have HNX := Lib.hid hnx
    have hPl := plain_any _ x.off (Nat.le_refl _) HBK.out _ X.drew AB cB HFB.out
    have HPl := Lib.hid hPl
    clear hPl hnx d0 d1 d2 kc kl hbl
    refine wp_region_noPanic ?_
    refine region_anyE (fun w' => Blk w' wr.heap.size #[.int .u32 x.tab, .slice AB x.off.length cB, .slice AL x.fns.length cL] 118 ∧ Blk w' g #[y0, y1, y2, y3, y4, y5, y6, .bool M.starts, .int .u32 M.start, vf, y10] 47) (fun i => i == 13) (by kernel_rfl) ⟨HF9.out, HM9.out⟩ (fun hHeld => ?_)
    refine anyE_take (i := 0) (oi := ?_) (v := ?_) ?_ (by kernel_rfl) (by kernel_rfl) (by kernel_rfl) (by kernel_rfl) (fun _ _ _ h => h) (Or.inl ⟨?_, ?_⟩) hHeld ?_
    rotate_left 2
    ·simp only [List.getElem?_toArray, List.getElem?_cons_succ, List.getElem?_cons_zero]; exact rfl
    ·rfl
    ·(intro w hSw; go_simp; try with_reducible rfl)
    try simp only [Act.put, List.setIfInBounds_toArray, List.set_cons_zero, List.set_cons_succ]
    refine anyE_take (i := 1) (oi := ?_) (v := ?_) ?_ (by kernel_rfl) (by kernel_rfl) (by kernel_rfl) (by kernel_rfl) (fun _ _ _ h => h) (Or.inl ⟨?_, ?_⟩) hHeld ?_
    rotate_left 2
    ·simp only [List.getElem?_toArray, List.getElem?_cons_succ, List.getElem?_cons_zero]; exact rfl
    ·rfl
    ·(intro w hSw; have e := (show w.cell? ⟨_, 9, none⟩ = some _ from Blk.cell hSw.2 9); go_simp; try with_reducible rfl)
    try simp only [Act.put, List.setIfInBounds_toArray, List.set_cons_zero, List.set_cons_succ]
    refine anyE_take (i := 2) (oi := ?_) (v := ?_) ?_ (by kernel_rfl) (by kernel_rfl) (by kernel_rfl) (by kernel_rfl) (fun _ _ _ h => h) (Or.inl ⟨?_, ?_⟩) hHeld ?_
    rotate_left 2
    ·simp only [List.getElem?_toArray, List.getElem?_cons_succ, List.getElem?_cons_zero]; exact rfl
    ·rfl
    ·(intro w hSw; go_simp; try with_reducible rfl)
    try simp only [Act.put, List.setIfInBounds_toArray, List.set_cons_zero, List.set_cons_succ]
    refine anyE_take (i := 3) (oi := ?_) (v := ?_) ?_ (by kernel_rfl) (by kernel_rfl) (by kernel_rfl) (by kernel_rfl) (fun _ _ _ h => h) (Or.inl ⟨?_, ?_⟩) hHeld ?_
    rotate_left 2
    ·simp only [List.getElem?_toArray, List.getElem?_cons_succ, List.getElem?_cons_zero]; exact rfl
    ·rfl
    ·(intro w hSw; have e := (show w.cell? ⟨_, 0, none⟩ = some _ from Blk.cell hSw.1 0); go_simp; try with_reducible rfl)
    try simp only [Act.put, List.setIfInBounds_toArray, List.set_cons_zero, List.set_cons_succ]
    refine anyE_take (i := 4) (oi := ?_) (v := ?_) ?_ (by kernel_rfl) (by kernel_rfl) (by kernel_rfl) (by kernel_rfl) (fun _ _ _ h => h) (Or.inl ⟨?_, ?_⟩) hHeld ?_
    rotate_left 2
    ·simp only [List.getElem?_toArray, List.getElem?_cons_succ, List.getElem?_cons_zero]; exact rfl
    ·rfl
    ·(intro w hSw; go_simp; try with_reducible rfl)
    try simp only [Act.put, List.setIfInBounds_toArray, List.set_cons_zero, List.set_cons_succ]
    refine anyE_take (i := 5) (oi := ?_) (v := ?_) ?_ (by kernel_rfl) (by kernel_rfl) (by kernel_rfl) (by kernel_rfl) (fun _ _ _ h => h) (Or.inl ⟨?_, ?_⟩) hHeld ?_
    rotate_left 2
    ·simp only [List.getElem?_toArray, List.getElem?_cons_succ, List.getElem?_cons_zero]; exact rfl
    ·rfl
    ·(intro w hSw; have e := (show w.cell? ⟨_, 1, none⟩ = some _ from Blk.cell hSw.1 1); go_simp; try with_reducible rfl)
    try simp only [Act.put, List.setIfInBounds_toArray, List.set_cons_zero, List.set_cons_succ]
    refine anyE_take (i := 7) (oi := ?_) (v := ?_) ?_ (by kernel_rfl) (by kernel_rfl) (by kernel_rfl) (by kernel_rfl) (fun _ _ _ h => h) (Or.inl ⟨?_, ?_⟩) hHeld ?_
    rotate_left 2
    ·simp only [List.getElem?_toArray, List.getElem?_cons_succ, List.getElem?_cons_zero]; exact rfl
    ·rfl
    ·(intro w hSw; go_simp; try with_reducible rfl)
    try simp only [Act.put, List.setIfInBounds_toArray, List.set_cons_zero, List.set_cons_succ]
    refine anyE_take (i := 8) (oi := ?_) (v := ?_) ?_ (by kernel_rfl) (by kernel_rfl) (by kernel_rfl) (by kernel_rfl) (fun _ _ _ h => h) (Or.inl ⟨?_, ?_⟩) hHeld ?_
    rotate_left 2
    ·simp only [List.getElem?_toArray, List.getElem?_cons_succ, List.getElem?_cons_zero]; exact rfl
    ·rfl
    ·(intro w hSw; have e := (show w.cell? ⟨_, 2, none⟩ = some _ from Blk.cell hSw.1 2); go_simp; try with_reducible rfl)
    try simp only [Act.put, List.setIfInBounds_toArray, List.set_cons_zero, List.set_cons_succ]
    refine anyE_one (i := 6) (o := ?_) (by kernel_rfl) ?_ rfl (fun K hK => ?_)
    rotate_left
    ·simp only [List.getElem?_toArray, List.getElem?_cons_succ, List.getElem?_cons_zero]; exact rfl
    go_simp
    refine HPl.out.mono ?_
    rintro E W2 ⟨hB2, AE, cE, rfl, hl2, hF2⟩
    have HM2 := Lib.hid (HM9.out.below hB2 HM9.out.lt)
    have hH2 := hHeld.1.below hB2 hHeld.1.lt
    go_wp2_with fail
    refine hK.out _ _ ⟨hH2, HM2.out⟩ (fun hHeld => ?_)
    clear hK K
    try simp only [Act.put, List.setIfInBounds_toArray, List.set_cons_zero, List.set_cons_succ]
    have hs2 := hB2.size
    have HO2 := Lib.hid (HO9.out.below hB2)
    have HN2 := Lib.hid (show n ≤ W2.heap.size by have h := HNX.out; omega)
    have hvb : ∀ k, vf.ownBlock = some k → k < X.drew.heap.size := fun k hk => by have h := (Own.block HO.out hk).2; have h2 := HZW.out; omega
    have hFB2 : FC kR W2 (fun k => ((ok k ∧ k < W.heap.size) ∨ n ≤ k) ∧ some k ≠ vf.ownBlock) AE x.off := Ft.mono hF2 (fun k hk => by
     rcases hk with hk | hk
     ·exact ⟨.inl hk, fun e => by have h1 := HNE.out k e.symm; have h2 := hk.2; have h3 := HWg.out; have h4 := HGn.out; omega⟩
     ·exact ⟨.inr (by have h := HNX.out; omega), fun e => by have h1 := hvb k e.symm; omega⟩)
    have hFL2 : FC (rng .u32) W2 (fun k => ((ok k ∧ k < W.heap.size) ∨ n ≤ k) ∧ some k ≠ vf.ownBlock) AL x.fns := Ft.mono (Ft.below HFL.out hB2) (fun k hk => ⟨.inl hk, fun e => by have h1 := HNE.out k e.symm; have h2 := hk.2; have h3 := HWg.out; have h4 := HGn.out; omega⟩)
    have HFK := Lib.hid (show FK kRElem W2 (fun k => ((ok k ∧ k < W.heap.size) ∨ n ≤ k) ∧ some k ≠ vf.ownBlock) x [.int .u32 x.tab, .slice AE x.off.length cE, .slice AL x.fns.length cL] from relem_mk HWF.out hFB2 hl2 hFL2 HLL.out)
    have HL9 := Lib.hid (show ((M.elems.take j).length + 1) * 56 ≤ 140737488355328 from by have h := HLN9.out; rw [List.length_take]; omega)
    have HMD := Lib.hid (fun Y (h : W2.grownBy Y vf.ownBlock) => (by
     have hb : Blk Y g #[y0, y1, y2, y3, y4, y5, y6, .bool M.starts, .int .u32 M.start, vf, y10] 47 := Blk.grown HM2.out h (fun e => by have h1 := HNE.out g e.symm; have h2 := HGn.out; omega)
     exact ⟨hb.cell 9, hb.frozen 9, hb.lt⟩ : Y.cell? ⟨g, 9, none⟩ = some vf ∧ Y.frozen? ⟨g, 9, none⟩ = false ∧ g < Y.heap.size))
    have HBX := Lib.hid (show some wr.heap.size ≠ vf.ownBlock from fun e => by have h := (Own.block HO.out e.symm).2; omega)
    have HBV := Lib.hid (show some g ≠ vf.ownBlock from fun e => by have h1 := HNE.out g e.symm; have h2 := HGn.out; omega)
    have HBG := Lib.hid (show wr.heap.size ≠ g from by have h := HMb.out.lt; omega)
    have HB2 := Lib.hid hB2
    clear hFB2 hFL2 hvb hs2 hl2 hF2 hB2
    refine anyE_take (i := 9) (oi := ?_) (v := ?_) ?_ (by kernel_rfl) (by kernel_rfl) (by kernel_rfl) (by kernel_rfl) (fun _ _ _ h => h) (Or.inl ⟨?_, ?_⟩) hHeld ?_
    rotate_left 2
    ·simp only [List.getElem?_toArray, List.getElem?_cons_succ, List.getElem?_cons_zero]; exact rfl
    ·rfl
    ·(intro w hSw; go_simp; try with_reducible rfl)
    try simp only [Act.put, List.setIfInBounds_toArray, List.set_cons_zero, List.set_cons_succ]
    refine anyE_one (i := 10) (o := ?_) (by kernel_rfl) ?_ rfl (fun K hK => ?_)
    rotate_left
    ·simp only [List.getElem?_toArray, List.getElem?_cons_succ, List.getElem?_cons_zero]; exact rfl
    go_simp
    refine hK.out _ _ ⟨hHeld.1.alloc _, hHeld.2.alloc _⟩ (fun hHeld => ?_)
    clear hK K
    try simp only [Act.put, List.setIfInBounds_toArray, List.set_cons_zero, List.set_cons_succ]
    refine anyE_one (i := 11) (o := ?_) (by kernel_rfl) ?_ rfl (fun K hK => ?_)
    rotate_left
    ·simp only [List.getElem?_toArray, List.getElem?_cons_succ, List.getElem?_cons_zero]; exact rfl
    refine Own.append_step (d := kRElem) n rfl (.tmp 139) (.tmp 148) 44 92 _ 56 rfl Tryz.underlying44 infoR_elem rfl (by decide) (by decide) vf (M.elems.take j) x [.int .u32 x.tab, .slice AE x.off.length cE, .slice AL x.fns.length cL] (fun k => (ok k ∧ k < W.heap.size) ∨ n ≤ k) rfl rfl HFK.out HO2.out HN2.out HL9.out ?_
    intro v1 w1 hown1 hg1 hat1
    obtain ⟨A9, c9, rfl, hl9, hF9⟩ := Own.reads hown1
    obtain ⟨q2, qf, ql⟩ := HMD.out _ hg1
    refine hK.out _ _ ⟨Blk.grown hH2 hg1 HBX.out, Blk.grown HM2.out hg1 HBV.out⟩ (fun hHeld => ?_)
    clear hK K
    try simp only [Act.put, List.setIfInBounds_toArray, List.set_cons_zero, List.set_cons_succ]
    refine anyE_take (i := 12) (oi := ?_) (v := ?_) ?_ (by kernel_rfl) (by kernel_rfl) (by kernel_rfl) (by kernel_rfl) (fun _ _ _ h => h) (Or.inl ⟨?_, ?_⟩) hHeld ?_
    rotate_left 2
    ·simp only [List.getElem?_toArray, List.getElem?_cons_succ, List.getElem?_cons_zero]; exact rfl
    ·rfl
    ·(intro w hSw; go_simp; try with_reducible rfl)
    try simp only [Act.put, List.setIfInBounds_toArray, List.set_cons_zero, List.set_cons_succ]
    refine anyE_fin (i := 13) (o := ?_) (by kernel_rfl) ?_ rfl (fun K hK => ?_)
    rotate_left
    ·simp only [List.getElem?_toArray, List.getElem?_cons_succ, List.getElem?_cons_zero]; exact rfl
    go_simp
    refine hK.out _ _ ?_
    clear hK K
    try simp only [Act.put, List.setIfInBounds_toArray, List.set_cons_zero, List.set_cons_succ]
    refine anyE_done (by kernel_rfl) ?_ _
    refine NoPanic.normal ?_
    have htk : M.elems.take (j + 1) = M.elems.take j ++ [x] := by rw [List.take_add_one, HX.out]; rfl
    have hlen9 : (M.elems.take j ++ [x]).length = j + 1 := by rw [List.length_append, List.length_take]; simp only [List.length_cons, List.length_nil]; omega
    rw [hlen9] at hown1
    have hbk : ∀ k, (Value.slice A9 (j + 1) c9).ownBlock = some k → n ≤ k := fun k hk => (Own.block hown1 hk).1
    have hoz := hown1.grown (gset w1 g 9 (.slice A9 (j + 1) c9)) (.inr (fun e => by have h1 := hbk g e; have h2 := HGn.out; omega)) (fun k hk e => by injection e with e; have h2 := HGn.out; have h3 := HWg.out; rcases hk with hk | hk <;> omega)
    rw [← htk] at hoz
    have HOZ := Lib.hid hoz
    have HMZ := Lib.hid ((Blk.grown HM2.out hg1 (fun e => by have h1 := HNE.out g e.symm; have h2 := HGn.out; omega)).set 9 (.slice A9 (j + 1) c9))
    have HGZ := Lib.hid ((grown_jj (grown_jj HG9.out (grown_below HB2.out none) (fun k e => by cases e)) hg1 (fun k hk => .inr (by rw [← HYtofaiocffifhfaaGreat.out]; exact HNE.out k hk))).trans (gset w1 g 9 (.slice A9 (j + 1) c9)))
    clear hown1 hg1 hat1 hl9 hF9 htk hbk hoz hHeld hH2 q2 qf ql
    go_wp2_with fail
    go_roundw
    case rel =>
     subst hA
     (repeat apply Exists.intro)
     refine ⟨?_, rfl⟩
     exact ⟨j + 1, .slice A9 (j + 1) c9, by omega, by go_num, HOZ, HMZ, HGZ⟩
    case measure => simp [intOf]; omega
   ·obtain rfl : j = M.elems.length := by omega
    go_wp2_with fail
    go_meet
    have hown := HO.out
    rw [List.take_length] at hown
    have hst := HR0.out.step (okA_agr HG.out (fun k hk => by have h1 := hk.2; have h2 := HWg.out; omega))
    exact ⟨g, rfl, hle, HB0.out.grown HG.out HB0.out.size (fun k e => by injection e with e; omega), _, _, _, _, _, _, _, _, _, { HN0.out.up with n9 := fun h => absurd h (by decide) }, HMb.out, { hst with r9 := okA_own hown HN1.out HGn.out }⟩
 case rest =>
 obtain ⟨g, rfl, hle, HS⟩ := hcut
 have hpw := HP.out.below HS.out.1 lp
 have pk : wc.cell? ⟨W.heap.size, 10, none⟩ = some (.slice A10 M.datas.length c10) := by have h := hpw.cell 10; rw [HV10.out] at h; exact h
 have pl := hpw.lt
 clear hpw
 go_upto_block 12 with fail
 go_cut [3] (fun s3 wx => ∃ (g : Nat), s3 = .pointer (some ⟨g, 0, none⟩) ∧ W1.heap.size ≤ g ∧ Hid (PSt 7 (fun k => ok k ∧ k < W.heap.size) W1 g wx (⟨M.types, M.imports, M.tables, M.mems, M.globals, M.exports, M.starts, M.start, M.elems, M.datas, [], []⟩ : ModD) fns))
 case first =>
  obtain ⟨hB0, y0, y1, y2, y3, y4, y5, y6, y9, y10, hN0, hblk0, hR0⟩ := HS.out
  obtain rfl := hN0.n10 (by decide)
  have HN0 := Lib.hid hN0
  have HB0 := Lib.hid hB0
  have HK0 := Lib.hid hblk0
  have HR0 := Lib.hid hR0
  have hgl := hblk0.lt
  obtain ⟨n, hn⟩ : ∃ n, n = wc.heap.size := ⟨_, rfl⟩
  have HGn := Lib.hid (show g < n by omega)
  have HWg := Lib.hid (show W.heap.size < g by omega)
  have h1n := hB0.size
  have HN1 := Lib.hid (show W1.heap.size ≤ n by omega)
  have HYtofaiocffifhfaaGreat := Lib.hid hn
  have HF := Lib.hid (Ft.step HF10.out (Agr.of_below hB0))
  clear hB0 hN0 hblk0 hR0 HS pk pl hgl hn h1n
  go_wp2_with fail
  go_loopw [155] (fun i wr => ∃ (j : Nat) (vf : Value), j ≤ M.datas.length ∧ i = .int .i64 j ∧ Hid (Own kRData 95 wr n (fun k => (ok k ∧ k < W.heap.size) ∨ n ≤ k) vf (M.datas.take j)) ∧ Hid (Blk wr g #[y0, y1, y2, y3, y4, y5, y6, .bool M.starts, .int .u32 M.start, y9, vf] 47) ∧ Hid (wc.grownBy wr (some g))) (fun i _ => M.datas.length - (intOf i).toNat)
  case atStart => exact ⟨0, .slice none 0 0, Nat.zero_le _, rfl, Own.nil, HK0.out, World.grownBy.refl _ _⟩
  case round =>
   obtain ⟨j, vf, hj, rfl, HO, HMb, HG⟩ := hrel
   have hzr := HG.out.size
   rw [← HYtofaiocffifhfaaGreat.out] at hzr
   have HFr := Lib.hid (Ft.step HF.out (agr_grown HG.out (fun k hk e => by injection e with e; have h1 := hk.2; have h2 := HWg.out; omega)))
   have hll := HLN10.out
   by_cases hlt : j < M.datas.length
   ·have hlt2 : (j : Int) < (M.datas.length : Int) := by omega
    obtain ⟨b, o, x, cs, hA, hx, hk, hc⟩ := FC.at_ HFr.out (show 0 < 3 by decide) j hlt
    obtain ⟨AB, cB, AL, cL, rfl, hlB, hFB, hlL, hFL⟩ := data_open hk
    have hszk : kData.sz = 3 := rfl
    have d0 := hc 0 _ rfl
    have d1 := hc 1 _ rfl
    have d2 := hc 2 _ rfl
    simp only [hszk, Nat.add_zero] at d0 d1 d2
    have hbl := World.block_lt_of_cell? _ _ d0
    simp only at hbl
    have hmb := HMb.out
    have kc := hmb.cell 10
    have kl := hmb.lt
    have HX := Lib.hid hx.out
    have HKx := Lib.hid hk
    have hne : ∀ k, vf.ownBlock = some k → n ≤ k := fun k hk => (Own.block HO.out hk).1
    have HNE := Lib.hid hne
    clear hx hk hc hmb hszk
    have HWF := Lib.hid (data_wf HKx.out)
    have HBK := Lib.hid (HBK10.out x (List.mem_of_getElem? HX.out))
    have HFB := Lib.hid (fc_drew (fc_alloc hFB (.cells #[.int .u32 x.mem, .slice AB x.off.length cB, .slice AL x.bts.length cL] 120)))
    have HLB := Lib.hid hlB
    have HFL := Lib.hid (fc_drew (fc_alloc hFL (.cells #[.int .u32 x.mem, .slice AB x.off.length cB, .slice AL x.bts.length cL] 120)))
    have HLL := Lib.hid hlL
    clear hFL hlL
    clear hFB hlB hne
    have HF9 := Lib.hid (Blk.new wr #[.int .u32 x.mem, .slice AB x.off.length cB, .slice AL x.bts.length cL] 120).drew
    have HM9 := Lib.hid (HMb.out.alloc (.cells #[.int .u32 x.mem, .slice AB x.off.length cB, .slice AL x.bts.length cL] 120)).drew
    have HO9 := Lib.hid (HO.out.below (bl_drew (bl_alloc (Below.refl wr.heap.size wr) (.cells #[.int .u32 x.mem, .slice AB x.off.length cB, .slice AL x.bts.length cL] 120))))
    have HG9 := Lib.hid (gw_drew (gw_alloc HG.out (.cells #[.int .u32 x.mem, .slice AB x.off.length cB, .slice AL x.bts.length cL] 120)))
    have hzw : (wr.alloc (.cells #[.int .u32 x.mem, .slice AB x.off.length cB, .slice AL x.bts.length cL] 120)).drew.heap.size = wr.heap.size + 1 := World.size_alloc _ _
    have HZW := Lib.hid hzw
    clear hzw
    go_wp2_with fail
    generalize wr.alloc (.cells #[.int .u32 x.mem, .slice AB x.off.length cB, .slice AL x.bts.length cL] 120) = X at *
    have hnx : n ≤ X.drew.heap.size := by have h := HZW.out; omega
    have HNX := Lib.hid hnx
    have hPl := plain_any _ x.off (Nat.le_refl _) HBK.out _ X.drew AB cB HFB.out
    have HPl := Lib.hid hPl
    clear hPl hnx d0 d1 d2 kc kl hbl
    refine wp_region_noPanic ?_
    refine region_anyE (fun w' => Blk w' wr.heap.size #[.int .u32 x.mem, .slice AB x.off.length cB, .slice AL x.bts.length cL] 120 ∧ Blk w' g #[y0, y1, y2, y3, y4, y5, y6, .bool M.starts, .int .u32 M.start, y9, vf] 47) (fun i => i == 13) (by kernel_rfl) ⟨HF9.out, HM9.out⟩ (fun hHeld => ?_)
    refine anyE_take (i := 0) (oi := ?_) (v := ?_) ?_ (by kernel_rfl) (by kernel_rfl) (by kernel_rfl) (by kernel_rfl) (fun _ _ _ h => h) (Or.inl ⟨?_, ?_⟩) hHeld ?_
    rotate_left 2
    ·simp only [List.getElem?_toArray, List.getElem?_cons_succ, List.getElem?_cons_zero]; exact rfl
    ·rfl
    ·(intro w hSw; go_simp; try with_reducible rfl)
    try simp only [Act.put, List.setIfInBounds_toArray, List.set_cons_zero, List.set_cons_succ]
    refine anyE_take (i := 1) (oi := ?_) (v := ?_) ?_ (by kernel_rfl) (by kernel_rfl) (by kernel_rfl) (by kernel_rfl) (fun _ _ _ h => h) (Or.inl ⟨?_, ?_⟩) hHeld ?_
    rotate_left 2
    ·simp only [List.getElem?_toArray, List.getElem?_cons_succ, List.getElem?_cons_zero]; exact rfl
    ·rfl
    ·(intro w hSw; have e := (show w.cell? ⟨_, 10, none⟩ = some _ from Blk.cell hSw.2 10); go_simp; try with_reducible rfl)
    try simp only [Act.put, List.setIfInBounds_toArray, List.set_cons_zero, List.set_cons_succ]
    refine anyE_take (i := 2) (oi := ?_) (v := ?_) ?_ (by kernel_rfl) (by kernel_rfl) (by kernel_rfl) (by kernel_rfl) (fun _ _ _ h => h) (Or.inl ⟨?_, ?_⟩) hHeld ?_
    rotate_left 2
    ·simp only [List.getElem?_toArray, List.getElem?_cons_succ, List.getElem?_cons_zero]; exact rfl
    ·rfl
    ·(intro w hSw; go_simp; try with_reducible rfl)
    try simp only [Act.put, List.setIfInBounds_toArray, List.set_cons_zero, List.set_cons_succ]
    refine anyE_take (i := 3) (oi := ?_) (v := ?_) ?_ (by kernel_rfl) (by kernel_rfl) (by kernel_rfl) (by kernel_rfl) (fun _ _ _ h => h) (Or.inl ⟨?_, ?_⟩) hHeld ?_
    rotate_left 2
    ·simp only [List.getElem?_toArray, List.getElem?_cons_succ, List.getElem?_cons_zero]; exact rfl
    ·rfl
    ·(intro w hSw; have e := (show w.cell? ⟨_, 0, none⟩ = some _ from Blk.cell hSw.1 0); go_simp; try with_reducible rfl)
    try simp only [Act.put, List.setIfInBounds_toArray, List.set_cons_zero, List.set_cons_succ]
    refine anyE_take (i := 4) (oi := ?_) (v := ?_) ?_ (by kernel_rfl) (by kernel_rfl) (by kernel_rfl) (by kernel_rfl) (fun _ _ _ h => h) (Or.inl ⟨?_, ?_⟩) hHeld ?_
    rotate_left 2
    ·simp only [List.getElem?_toArray, List.getElem?_cons_succ, List.getElem?_cons_zero]; exact rfl
    ·rfl
    ·(intro w hSw; go_simp; try with_reducible rfl)
    try simp only [Act.put, List.setIfInBounds_toArray, List.set_cons_zero, List.set_cons_succ]
    refine anyE_take (i := 5) (oi := ?_) (v := ?_) ?_ (by kernel_rfl) (by kernel_rfl) (by kernel_rfl) (by kernel_rfl) (fun _ _ _ h => h) (Or.inl ⟨?_, ?_⟩) hHeld ?_
    rotate_left 2
    ·simp only [List.getElem?_toArray, List.getElem?_cons_succ, List.getElem?_cons_zero]; exact rfl
    ·rfl
    ·(intro w hSw; have e := (show w.cell? ⟨_, 1, none⟩ = some _ from Blk.cell hSw.1 1); go_simp; try with_reducible rfl)
    try simp only [Act.put, List.setIfInBounds_toArray, List.set_cons_zero, List.set_cons_succ]
    refine anyE_take (i := 7) (oi := ?_) (v := ?_) ?_ (by kernel_rfl) (by kernel_rfl) (by kernel_rfl) (by kernel_rfl) (fun _ _ _ h => h) (Or.inl ⟨?_, ?_⟩) hHeld ?_
    rotate_left 2
    ·simp only [List.getElem?_toArray, List.getElem?_cons_succ, List.getElem?_cons_zero]; exact rfl
    ·rfl
    ·(intro w hSw; go_simp; try with_reducible rfl)
    try simp only [Act.put, List.setIfInBounds_toArray, List.set_cons_zero, List.set_cons_succ]
    refine anyE_take (i := 8) (oi := ?_) (v := ?_) ?_ (by kernel_rfl) (by kernel_rfl) (by kernel_rfl) (by kernel_rfl) (fun _ _ _ h => h) (Or.inl ⟨?_, ?_⟩) hHeld ?_
    rotate_left 2
    ·simp only [List.getElem?_toArray, List.getElem?_cons_succ, List.getElem?_cons_zero]; exact rfl
    ·rfl
    ·(intro w hSw; have e := (show w.cell? ⟨_, 2, none⟩ = some _ from Blk.cell hSw.1 2); go_simp; try with_reducible rfl)
    try simp only [Act.put, List.setIfInBounds_toArray, List.set_cons_zero, List.set_cons_succ]
    refine anyE_one (i := 6) (o := ?_) (by kernel_rfl) ?_ rfl (fun K hK => ?_)
    rotate_left
    ·simp only [List.getElem?_toArray, List.getElem?_cons_succ, List.getElem?_cons_zero]; exact rfl
    go_simp
    refine HPl.out.mono ?_
    rintro E W2 ⟨hB2, AE, cE, rfl, hl2, hF2⟩
    have HM2 := Lib.hid (HM9.out.below hB2 HM9.out.lt)
    have hH2 := hHeld.1.below hB2 hHeld.1.lt
    go_wp2_with fail
    refine hK.out _ _ ⟨hH2, HM2.out⟩ (fun hHeld => ?_)
    clear hK K
    try simp only [Act.put, List.setIfInBounds_toArray, List.set_cons_zero, List.set_cons_succ]
    have hs2 := hB2.size
    have HO2 := Lib.hid (HO9.out.below hB2)
    have HN2 := Lib.hid (show n ≤ W2.heap.size by have h := HNX.out; omega)
    have hvb : ∀ k, vf.ownBlock = some k → k < X.drew.heap.size := fun k hk => by have h := (Own.block HO.out hk).2; have h2 := HZW.out; omega
    have hFB2 : FC kR W2 (fun k => ((ok k ∧ k < W.heap.size) ∨ n ≤ k) ∧ some k ≠ vf.ownBlock) AE x.off := Ft.mono hF2 (fun k hk => by
     rcases hk with hk | hk
     ·exact ⟨.inl hk, fun e => by have h1 := HNE.out k e.symm; have h2 := hk.2; have h3 := HWg.out; have h4 := HGn.out; omega⟩
     ·exact ⟨.inr (by have h := HNX.out; omega), fun e => by have h1 := hvb k e.symm; omega⟩)
    have hFL2 : FC (rng .u8) W2 (fun k => ((ok k ∧ k < W.heap.size) ∨ n ≤ k) ∧ some k ≠ vf.ownBlock) AL x.bts := Ft.mono (Ft.below HFL.out hB2) (fun k hk => ⟨.inl hk, fun e => by have h1 := HNE.out k e.symm; have h2 := hk.2; have h3 := HWg.out; have h4 := HGn.out; omega⟩)
    have HFK := Lib.hid (show FK kRData W2 (fun k => ((ok k ∧ k < W.heap.size) ∨ n ≤ k) ∧ some k ≠ vf.ownBlock) x [.int .u32 x.mem, .slice AE x.off.length cE, .slice AL x.bts.length cL] from rdata_mk HWF.out hFB2 hl2 hFL2 HLL.out)
    have HL9 := Lib.hid (show ((M.datas.take j).length + 1) * 56 ≤ 140737488355328 from by have h := HLN10.out; rw [List.length_take]; omega)
    have HMD := Lib.hid (fun Y (h : W2.grownBy Y vf.ownBlock) => (by
     have hb : Blk Y g #[y0, y1, y2, y3, y4, y5, y6, .bool M.starts, .int .u32 M.start, y9, vf] 47 := Blk.grown HM2.out h (fun e => by have h1 := HNE.out g e.symm; have h2 := HGn.out; omega)
     exact ⟨hb.cell 10, hb.frozen 10, hb.lt⟩ : Y.cell? ⟨g, 10, none⟩ = some vf ∧ Y.frozen? ⟨g, 10, none⟩ = false ∧ g < Y.heap.size))
    have HBX := Lib.hid (show some wr.heap.size ≠ vf.ownBlock from fun e => by have h := (Own.block HO.out e.symm).2; omega)
    have HBV := Lib.hid (show some g ≠ vf.ownBlock from fun e => by have h1 := HNE.out g e.symm; have h2 := HGn.out; omega)
    have HBG := Lib.hid (show wr.heap.size ≠ g from by have h := HMb.out.lt; omega)
    have HB2 := Lib.hid hB2
    clear hFB2 hFL2 hvb hs2 hl2 hF2 hB2
    refine anyE_take (i := 9) (oi := ?_) (v := ?_) ?_ (by kernel_rfl) (by kernel_rfl) (by kernel_rfl) (by kernel_rfl) (fun _ _ _ h => h) (Or.inl ⟨?_, ?_⟩) hHeld ?_
    rotate_left 2
    ·simp only [List.getElem?_toArray, List.getElem?_cons_succ, List.getElem?_cons_zero]; exact rfl
    ·rfl
    ·(intro w hSw; go_simp; try with_reducible rfl)
    try simp only [Act.put, List.setIfInBounds_toArray, List.set_cons_zero, List.set_cons_succ]
    refine anyE_one (i := 10) (o := ?_) (by kernel_rfl) ?_ rfl (fun K hK => ?_)
    rotate_left
    ·simp only [List.getElem?_toArray, List.getElem?_cons_succ, List.getElem?_cons_zero]; exact rfl
    go_simp
    refine hK.out _ _ ⟨hHeld.1.alloc _, hHeld.2.alloc _⟩ (fun hHeld => ?_)
    clear hK K
    try simp only [Act.put, List.setIfInBounds_toArray, List.set_cons_zero, List.set_cons_succ]
    refine anyE_one (i := 11) (o := ?_) (by kernel_rfl) ?_ rfl (fun K hK => ?_)
    rotate_left
    ·simp only [List.getElem?_toArray, List.getElem?_cons_succ, List.getElem?_cons_zero]; exact rfl
    refine Own.append_step (d := kRData) n rfl (.tmp 160) (.tmp 169) 45 95 _ 56 rfl Tryz.underlying45 infoR_data rfl (by decide) (by decide) vf (M.datas.take j) x [.int .u32 x.mem, .slice AE x.off.length cE, .slice AL x.bts.length cL] (fun k => (ok k ∧ k < W.heap.size) ∨ n ≤ k) rfl rfl HFK.out HO2.out HN2.out HL9.out ?_
    intro v1 w1 hown1 hg1 hat1
    obtain ⟨A9, c9, rfl, hl9, hF9⟩ := Own.reads hown1
    obtain ⟨q2, qf, ql⟩ := HMD.out _ hg1
    refine hK.out _ _ ⟨Blk.grown hH2 hg1 HBX.out, Blk.grown HM2.out hg1 HBV.out⟩ (fun hHeld => ?_)
    clear hK K
    try simp only [Act.put, List.setIfInBounds_toArray, List.set_cons_zero, List.set_cons_succ]
    refine anyE_take (i := 12) (oi := ?_) (v := ?_) ?_ (by kernel_rfl) (by kernel_rfl) (by kernel_rfl) (by kernel_rfl) (fun _ _ _ h => h) (Or.inl ⟨?_, ?_⟩) hHeld ?_
    rotate_left 2
    ·simp only [List.getElem?_toArray, List.getElem?_cons_succ, List.getElem?_cons_zero]; exact rfl
    ·rfl
    ·(intro w hSw; go_simp; try with_reducible rfl)
    try simp only [Act.put, List.setIfInBounds_toArray, List.set_cons_zero, List.set_cons_succ]
    refine anyE_fin (i := 13) (o := ?_) (by kernel_rfl) ?_ rfl (fun K hK => ?_)
    rotate_left
    ·simp only [List.getElem?_toArray, List.getElem?_cons_succ, List.getElem?_cons_zero]; exact rfl
    go_simp
    refine hK.out _ _ ?_
    clear hK K
    try simp only [Act.put, List.setIfInBounds_toArray, List.set_cons_zero, List.set_cons_succ]
    refine anyE_done (by kernel_rfl) ?_ _
    refine NoPanic.normal ?_
    have htk : M.datas.take (j + 1) = M.datas.take j ++ [x] := by rw [List.take_add_one, HX.out]; rfl
    have hlen9 : (M.datas.take j ++ [x]).length = j + 1 := by rw [List.length_append, List.length_take]; simp only [List.length_cons, List.length_nil]; omega
    rw [hlen9] at hown1
    have hbk : ∀ k, (Value.slice A9 (j + 1) c9).ownBlock = some k → n ≤ k := fun k hk => (Own.block hown1 hk).1
    have hoz := hown1.grown (gset w1 g 10 (.slice A9 (j + 1) c9)) (.inr (fun e => by have h1 := hbk g e; have h2 := HGn.out; omega)) (fun k hk e => by injection e with e; have h2 := HGn.out; have h3 := HWg.out; rcases hk with hk | hk <;> omega)
    rw [← htk] at hoz
    have HOZ := Lib.hid hoz
    have HMZ := Lib.hid ((Blk.grown HM2.out hg1 (fun e => by have h1 := HNE.out g e.symm; have h2 := HGn.out; omega)).set 10 (.slice A9 (j + 1) c9))
    have HGZ := Lib.hid ((grown_jj (grown_jj HG9.out (grown_below HB2.out none) (fun k e => by cases e)) hg1 (fun k hk => .inr (by rw [← HYtofaiocffifhfaaGreat.out]; exact HNE.out k hk))).trans (gset w1 g 10 (.slice A9 (j + 1) c9)))
    clear hown1 hg1 hat1 hl9 hF9 htk hbk hoz hHeld hH2 q2 qf ql
    go_wp2_with fail
    go_roundw
    case rel =>
     subst hA
     (repeat apply Exists.intro)
     refine ⟨?_, rfl⟩
     exact ⟨j + 1, .slice A9 (j + 1) c9, by omega, by go_num, HOZ, HMZ, HGZ⟩
    case measure => simp [intOf]; omega
   ·obtain rfl : j = M.datas.length := by omega
    go_wp2_with fail
    go_meet
    have hown := HO.out
    rw [List.take_length] at hown
    have hst := HR0.out.step (okA_agr HG.out (fun k hk => by have h1 := hk.2; have h2 := HWg.out; omega))
    exact ⟨g, rfl, hle, HB0.out.grown HG.out HB0.out.size (fun k e => by injection e with e; omega), _, _, _, _, _, _, _, _, _, { HN0.out.up with n10 := fun h => absurd h (by decide) }, HMb.out, { hst with r10 := okA_own hown HN1.out HGn.out }⟩
 case rest =>
 obtain ⟨g, rfl, hle, HS⟩ := hcut
 obtain ⟨hB0, y0, y1, y2, y3, y4, y5, y6, y9, y10, hN0, hblk, hR⟩ := HS.out
 have HR := Lib.hid hR
 obtain ⟨B0, b0, rfl, _, _⟩ := hR.r0
 obtain ⟨B1, b1, rfl, _, _⟩ := hR.r1
 obtain ⟨B2, b2, rfl, _, _⟩ := hR.r2
 obtain ⟨B3, b3, rfl, _, _⟩ := hR.r3
 obtain ⟨B4, b4, rfl, _, _⟩ := hR.r4
 obtain ⟨B5, b5, rfl, _, _⟩ := hR.r5
 obtain ⟨B6, b6, rfl, _, _⟩ := hR.r6
 obtain ⟨B9, b9, rfl, _, _⟩ := hR.r9
 obtain ⟨B10, b10, rfl, _, _⟩ := hR.r10
 have hz1 := HZ1.out
 have hob := HO.out.below hB0 (by omega)
 have hob2 := HO.out.lt
 have a0 := hblk.cell 0
 have a1 := hblk.cell 1
 have a2 := hblk.cell 2
 have a3 := hblk.cell 3
 have a4 := hblk.cell 4
 have a5 := hblk.cell 5
 have a6 := hblk.cell 6
 have a7 := hblk.cell 7
 have a8 := hblk.cell 8
 have a9 := hblk.cell 9
 have a10 := hblk.cell 10
 have al := hblk.lt
 have hsz := hB0.size
 obtain ⟨z0, z1, z2, z3, z4, z5, z6, z7, z8, z9, z10, zf0, zf1, zf2, zf3, zf4, zf5, zf6, zf7, zf8, zf9, zf10, zl⟩ := z11 hob
 have HB0 := Lib.hid hB0
 have HOB := Lib.hid hob
 have HGO := Lib.hid (show g ≠ W.heap.size + 1 by omega)
 have HHB := Lib.hid (show W.heap.size ≤ W.heap.size + 1 ∧ W.heap.size ≤ wc.heap.size by omega)
 clear hB0 hN0 hblk hR HS hob hle hob2 hz1 hsz
 go_wp2_with fail
 refine bodyPost_ret (v := .agg #[.slice B0 M.types.length b0, .slice B1 M.imports.length b1, .slice B2 fns.length b2, .slice B3 M.tables.length b3, .slice B4 M.mems.length b4, .slice B5 M.globals.length b5, .slice B6 M.exports.length b6, .bool M.starts, .int .u32 M.start, .slice B9 M.elems.length b9, .slice B10 M.datas.length b10]) (by simp [results, Tryz.results11, go_sem, z0, z1, z2, z3, z4, z5, z6, z7, z8, z9, z10, zl]) rfl ⟨?_, _ , _ , _ , _ , _ , _ , _ , _ , _, rfl, ?_⟩
 ·exact below11 (V := W) (HB1.out.trans (HB0.out.mono (by have h := HZ1.out; omega))) (W.heap.size + 1) HHB.out.1 _ _ _ _ _ _ _ _ _ _ _
 ·refine PRows.full ((HR.out.step (agr_grown (grown11 wc (W.heap.size + 1) _ _ _ _ _ _ _ _ _ _ _) (fun k hk e => ?_))).mono (fun k hk => ?_))
  ·injection e with e
   have h1 := HZ1.out
   rcases hk with hk | hk
   ·have := hk.2; omega
   ·have := hk.1; omega
  ·have h1 := HZ1.out
   rcases hk with hk | hk
   ·exact .inl hk.1
   ·exact .inr (by have := hk.1; omega)
end Go.Proofs.YtofaiocffifhfaaGreat
