/- Lemmas towards this claim's statement: what the functions named here come to, each under the conditions that it states itself. -/
import Derived.Test.YtofaiocffifhfaaGreatCu12
section
namespace Go.Proofs.YtofaiocffifhfaaGreat
open Go.RowKit Go.Shelf YtofaiocffifhfaaGreatB Go.Proofs.YtofaiocffifhfaaGreatW.PrintWords
theorem rcell_open {W : World} {ok : Nat → Prop} {x : CellD} {cs : List Value} (h : FK kRCell W ok x cs) : ∃ A c, cs = [.int .u8 x.ty.1, .bool x.ty.2, .slice A x.init.length c] ∧ FC kR W ok A x.init := by
 obtain ⟨_, _, rfl, h1, h⟩ := fk_pair_inv (fk_iso_inv h)
 obtain ⟨_, _, rfl, h2, h⟩ := fk_pair_inv h
 obtain ⟨_, _, rfl, h3, h⟩ := fk_pair_inv h
 obtain ⟨A, c, h3, _, hF⟩ := fk_sl_inv h3
 rw [(fk_int_inv h1).1, fk_bool_inv h2, h3, fk_nil_inv h]
 exact ⟨A, c, rfl, hF⟩
theorem relem_open {x : ElemD} {W : World} {ok : Nat → Prop} {cs : List Value} (h : FK kRElem W ok x cs) : ∃ A c A' c', cs = [.int .u32 x.tab, .slice A x.off.length c, .slice A' x.fns.length c'] ∧ FC kR W ok A x.off ∧ FC (rng .u32) W ok A' x.fns := by
 obtain ⟨_, _, rfl, h1, h⟩ := fk_pair_inv (fk_iso_inv h)
 obtain ⟨_, _, rfl, h2, h⟩ := fk_pair_inv h
 obtain ⟨_, _, rfl, h3, h⟩ := fk_pair_inv h
 obtain ⟨A, c, h2, _, hF⟩ := fk_sl_inv h2
 obtain ⟨A', c', h3, _, hF'⟩ := fk_sl_inv h3
 rw [(fk_int_inv h1).1, h2, h3, fk_nil_inv h]
 exact ⟨A, c, A', c', rfl, hF, hF'⟩
theorem rdata_open {x : DataD} {W : World} {ok : Nat → Prop} {cs : List Value} (h : FK kRData W ok x cs) : ∃ A c A' c', cs = [.int .u32 x.mem, .slice A x.off.length c, .slice A' x.bts.length c'] ∧ FC kR W ok A x.off ∧ FC (rng .u8) W ok A' x.bts := by
 obtain ⟨_, _, rfl, h1, h⟩ := fk_pair_inv (fk_iso_inv h)
 obtain ⟨_, _, rfl, h2, h⟩ := fk_pair_inv h
 obtain ⟨_, _, rfl, h3, h⟩ := fk_pair_inv h
 obtain ⟨A, c, h2, _, hF⟩ := fk_sl_inv h2
 obtain ⟨A', c', h3, _, hF'⟩ := fk_sl_inv h3
 rw [(fk_int_inv h1).1, h2, h3, fk_nil_inv h]
 exact ⟨A, c, A', c', rfl, hF, hF'⟩
theorem rfn_open {x : FnD} {W : World} {ok : Nat → Prop} {cs : List Value} (h : FK kRFn W ok x cs) : ∃ A c A' c', cs = [.int .u32 x.ty, .slice A x.loc.length c, .slice A' x.body.length c'] ∧ FC (rng .u8) W ok A x.loc ∧ FC kR W ok A' x.body := by
 obtain ⟨_, _, rfl, h1, h⟩ := fk_pair_inv (fk_iso_inv h)
 obtain ⟨_, _, rfl, h2, h⟩ := fk_pair_inv h
 obtain ⟨_, _, rfl, h3, h⟩ := fk_pair_inv h
 obtain ⟨A, c, h2, _, hF⟩ := fk_sl_inv h2
 obtain ⟨A', c', h3, _, hF'⟩ := fk_sl_inv h3
 rw [(fk_int_inv h1).1, h2, h3, fk_nil_inv h]
 exact ⟨A, c, A', c', rfl, hF, hF'⟩
set_option maxRecDepth 100000 in
set_option maxHeartbeats 4000000 in
theorem sameOuter_eq (W : World) (M : ModD) (ok1 ok2 : Nat → Prop) (a0 a1 a2 a3 a4 a5 a6 a9 a10 b0 b1 b2 b3 b4 b5 b6 b9 b10 : Value) (sa sb : Bool) (at_ bt : Int)
  (h1 : Row kImp ok1 W a1 M.imports) (k1 : Row kImp ok2 W b1 M.imports) (h6 : Row kExp ok1 W a6 M.exports) (k6 : Row kExp ok2 W b6 M.exports) (h5 : Row kRCell ok1 W a5 M.globals) (k5 : Row kRCell ok2 W b5 M.globals)
  (l1 : M.imports.length ≤ 1048576) (l6 : M.exports.length ≤ 1048576) (l5 : M.globals.length ≤ 1048576) (q5 : ∀ x ∈ M.globals, bkL x.init ≤ 1048576) :
  Calls Tryz.prog 26 #[.agg #[a0, a1, a2, a3, a4, a5, a6, .bool sa, .int .u32 at_, a9, a10], .agg #[b0, b1, b2, b3, b4, b5, b6, .bool sb, .int .u32 bt, b9, b10]] W (AwPost20 W) := by
 obtain ⟨Aa1, ca1, rfl, _, F1⟩ := h1
 obtain ⟨Ab1, cb1, rfl, _, G1⟩ := k1
 obtain ⟨Aa6, ca6, rfl, _, F6⟩ := h6
 obtain ⟨Ab6, cb6, rfl, _, G6⟩ := k6
 obtain ⟨Aa5, ca5, rfl, _, F5⟩ := h5
 obtain ⟨Ab5, cb5, rfl, _, G5⟩ := k5
 have hal : Below W.heap.size W ((W.alloc (.cells #[a0, .slice Aa1 M.imports.length ca1, a2, a3, a4, .slice Aa5 M.globals.length ca5, .slice Aa6 M.exports.length ca6, .bool sa, .int .u32 at_, a9, a10] 47)).alloc (.cells #[b0, .slice Ab1 M.imports.length cb1, b2, b3, b4, .slice Ab5 M.globals.length cb5, .slice Ab6 M.exports.length cb6, .bool sb, .int .u32 bt, b9, b10] 47)) := bl_alloc (bl_alloc (Below.refl _ _) _) _
 have hA := (Blk.new W #[a0, .slice Aa1 M.imports.length ca1, a2, a3, a4, .slice Aa5 M.globals.length ca5, .slice Aa6 M.exports.length ca6, .bool sa, .int .u32 at_, a9, a10] 47).alloc (.cells #[b0, .slice Ab1 M.imports.length cb1, b2, b3, b4, .slice Ab5 M.globals.length cb5, .slice Ab6 M.exports.length cb6, .bool sb, .int .u32 bt, b9, b10] 47)
 have hB := Blk.new (W.alloc (.cells #[a0, .slice Aa1 M.imports.length ca1, a2, a3, a4, .slice Aa5 M.globals.length ca5, .slice Aa6 M.exports.length ca6, .bool sa, .int .u32 at_, a9, a10] 47)) #[b0, .slice Ab1 M.imports.length cb1, b2, b3, b4, .slice Ab5 M.globals.length cb5, .slice Ab6 M.exports.length cb6, .bool sb, .int .u32 bt, b9, b10] 47
 rw [World.size_alloc] at hB
 have HF1 := Lib.hid (Ft.below F1 hal)
 have HG1 := Lib.hid (Ft.below G1 hal)
 have HF6 := Lib.hid (Ft.below F6 hal)
 have HG6 := Lib.hid (Ft.below G6 hal)
 have HF5 := Lib.hid (Ft.below F5 hal)
 have HG5 := Lib.hid (Ft.below G5 hal)
 have HBL := Lib.hid hal
 have HQ := Lib.hid q5
 clear F1 G1 F6 G6 F5 G5 q5 hal
 go_enter Tryz.func26, Tryz.ntmps26
 go_wp2_with fail
 generalize (W.alloc (.cells #[a0, .slice Aa1 M.imports.length ca1, a2, a3, a4, .slice Aa5 M.globals.length ca5, .slice Aa6 M.exports.length ca6, .bool sa, .int .u32 at_, a9, a10] 47)).alloc (.cells #[b0, .slice Ab1 M.imports.length cb1, b2, b3, b4, .slice Ab5 M.globals.length cb5, .slice Ab6 M.exports.length cb6, .bool sb, .int .u32 bt, b9, b10] 47) = W1 at *
 have p1 := hA.cell 1
 have p5 := hA.cell 5
 have p6 := hA.cell 6
 have r1 := hB.cell 1
 have r5 := hB.cell 5
 have r6 := hB.cell 6
 have pl := hA.lt
 have rl := hB.lt
 have HPA := Lib.hid hA
 have HPB := Lib.hid hB
 clear hA hB
 go_wp2_with fail
 go_loopw [5] (fun i wr => ∃ (j m : Nat), j ≤ M.imports.length ∧ i = .int .i64 j ∧ wr = W1.drewN m) (fun i _ => M.imports.length - (intOf i).toNat)
 case atStart => exact ⟨0, 0, Nat.zero_le _, rfl, rfl⟩
 case round =>
  obtain ⟨j, m, hj, rfl, rfl⟩ := hrel
  by_cases hlt : j < M.imports.length
  ·have hlt2 : (j : Int) < (M.imports.length : Int) := by omega
   obtain ⟨x1, o1, x2, o2, x, cs1, cs2, rfl, rfl, hx, hk1, hk2, hc1, hc2⟩ := FC.two HF1.out HG1.out (show 0 < 9 by decide) j hlt
   obtain rfl := imp_open hk1
   obtain rfl := imp_open hk2
   have hz : kImp.sz = 9 := rfl
   have d0 := hc1 0 _ rfl
   have d1 := hc1 1 _ rfl
   have d2 := hc1 2 _ rfl
   have d3 := hc1 3 _ rfl
   have d4 := hc1 4 _ rfl
   have d5 := hc1 5 _ rfl
   have d6 := hc1 6 _ rfl
   have d7 := hc1 7 _ rfl
   have d8 := hc1 8 _ rfl
   have e0 := hc2 0 _ rfl
   have e1 := hc2 1 _ rfl
   have e2 := hc2 2 _ rfl
   have e3 := hc2 3 _ rfl
   have e4 := hc2 4 _ rfl
   have e5 := hc2 5 _ rfl
   have e6 := hc2 6 _ rfl
   have e7 := hc2 7 _ rfl
   have e8 := hc2 8 _ rfl
   simp only [hz, Nat.add_zero] at d0 d1 d2 d3 d4 d5 d6 d7 d8 e0 e1 e2 e3 e4 e5 e6 e7 e8
   have hb1 := World.block_lt_of_cell? _ _ d0
   have hb2 := World.block_lt_of_cell? _ _ e0
   clear hx hk1 hk2 hc1 hc2
   go_wp2_with fail
   go_quiet (fail)
   go_wp2_with fail
   go_roundw
   case rel => exact ⟨j + 1, _, by omega, by go_num, rfl⟩
   case measure => simp [intOf]; omega
  ·have hlt2 : ¬ (j : Int) < (M.imports.length : Int) := by omega
   clear hlt
   go_wp2_with fail
   go_loopw [6] (fun i wr => ∃ (j m : Nat), j ≤ M.exports.length ∧ i = .int .i64 j ∧ wr = W1.drewN m) (fun i _ => M.exports.length - (intOf i).toNat)
   case atStart => exact ⟨0, m, Nat.zero_le _, rfl, rfl⟩
   case round =>
    obtain ⟨j, m, hj, rfl, rfl⟩ := hrel
    by_cases hlt : j < M.exports.length
    ·have hlt2 : (j : Int) < (M.exports.length : Int) := by omega
     obtain ⟨x1, o1, x2, o2, x, cs1, cs2, rfl, rfl, hx, hk1, hk2, hc1, hc2⟩ := FC.two HF6.out HG6.out (show 0 < 3 by decide) j hlt
     obtain rfl := exp_open hk1
     obtain rfl := exp_open hk2
     have hz : kExp.sz = 3 := rfl
     have d0 := hc1 0 _ rfl
     have d1 := hc1 1 _ rfl
     have d2 := hc1 2 _ rfl
     have e0 := hc2 0 _ rfl
     have e1 := hc2 1 _ rfl
     have e2 := hc2 2 _ rfl
     simp only [hz, Nat.add_zero] at d0 d1 d2 e0 e1 e2
     have hb1 := World.block_lt_of_cell? _ _ d0
     have hb2 := World.block_lt_of_cell? _ _ e0
     clear hx hk1 hk2 hc1 hc2
     go_wp2_with fail
     go_quiet (fail)
     go_wp2_with fail
     go_roundw
     case rel => exact ⟨j + 1, _, by omega, by go_num, rfl⟩
     case measure => simp [intOf]; omega
    ·have hlt2 : ¬ (j : Int) < (M.exports.length : Int) := by omega
     clear hlt
     go_wp2_with fail
     go_loopw [7] (fun i wr => ∃ (j : Nat), j ≤ M.globals.length ∧ i = .int .i64 j ∧ Hid (Below W1.heap.size W1 wr)) (fun i _ => M.globals.length - (intOf i).toNat)
     case atStart => exact ⟨0, Nat.zero_le _, rfl, bl_drewN m⟩
     case round =>
      obtain ⟨j, hj, rfl, HB⟩ := hrel
      have hpa := HPA.out.below HB.out pl
      have hpb := HPB.out.below HB.out rl
      have p5 := hpa.cell 5
      have r5 := hpb.cell 5
      have pl' := hpa.lt
      have rl' := hpb.lt
      by_cases hlt : j < M.globals.length
      ·have hlt2 : (j : Int) < (M.globals.length : Int) := by omega
       obtain ⟨x1, o1, x2, o2, x, cs1, cs2, hA1, hA2, hx, hk1, hk2, hc1, hc2⟩ := FC.two (Ft.below HF5.out HB.out) (Ft.below HG5.out HB.out) (show 0 < 3 by decide) j hlt
       obtain ⟨P1, q1, rfl, g1⟩ := rcell_open hk1
       obtain ⟨P2, q2, rfl, g2⟩ := rcell_open hk2
       have hq := HQ.out x (List.mem_of_getElem? hx.out)
       have HS := Lib.hid (fun X (h : Below wr.heap.size wr X) => same_eq _ x.init (Nat.le_refl _) hq X P1 P2 q1 q2 (Ft.below g1 h).now (Ft.below g2 h).now)
       subst hA1 hA2
       have hz : kRCell.sz = 3 := rfl
       have d0 := hc1 0 _ rfl
       have d1 := hc1 1 _ rfl
       have d2 := hc1 2 _ rfl
       have e0 := hc2 0 _ rfl
       have e1 := hc2 1 _ rfl
       have e2 := hc2 2 _ rfl
       simp only [hz, Nat.add_zero] at d0 d1 d2 e0 e1 e2
       have hb1 := World.block_lt_of_cell? _ _ d0
       have hb2 := World.block_lt_of_cell? _ _ e0
       have HD := Lib.hid (show ∀ X, Below wr.heap.size wr X → X.cell? ⟨W.heap.size, 5, none⟩ = some (.slice (some ⟨x1, o1, none⟩) M.globals.length ca5) ∧ X.cell? ⟨W.heap.size + 1, 5, none⟩ = some (.slice (some ⟨x2, o2, none⟩) M.globals.length cb5) ∧ X.cell? ⟨x1, o1 + j * 3, none⟩ = some (.int .u8 x.ty.1) ∧ X.cell? ⟨x1, o1 + j * 3 + 1, none⟩ = some (.bool x.ty.2) ∧ X.cell? ⟨x1, o1 + j * 3 + 2, none⟩ = some (.slice P1 x.init.length q1) ∧ X.cell? ⟨x2, o2 + j * 3, none⟩ = some (.int .u8 x.ty.1) ∧ X.cell? ⟨x2, o2 + j * 3 + 1, none⟩ = some (.bool x.ty.2) ∧ X.cell? ⟨x2, o2 + j * 3 + 2, none⟩ = some (.slice P2 x.init.length q2) from fun X h => ⟨(h.cell (p := ⟨_, _, none⟩) pl').trans p5, (h.cell (p := ⟨_, _, none⟩) rl').trans r5, pw_cell_below h d0, pw_cell_below h d1, pw_cell_below h d2, pw_cell_below h e0, pw_cell_below h e1, pw_cell_below h e2⟩)
       clear hx hk1 hk2 hc1 hc2 g1 g2 hpa hpb hq
       go_wp2_with fail
       go_region_held3 (fun X => X.cell? ⟨W.heap.size, 5, none⟩ = some (.slice (some ⟨x1, o1, none⟩) M.globals.length ca5) ∧ X.cell? ⟨W.heap.size + 1, 5, none⟩ = some (.slice (some ⟨x2, o2, none⟩) M.globals.length cb5) ∧ X.cell? ⟨x1, o1 + j * 3, none⟩ = some (.int .u8 x.ty.1) ∧ X.cell? ⟨x1, o1 + j * 3 + 1, none⟩ = some (.bool x.ty.2) ∧ X.cell? ⟨x1, o1 + j * 3 + 2, none⟩ = some (.slice P1 x.init.length q1) ∧ X.cell? ⟨x2, o2 + j * 3, none⟩ = some (.int .u8 x.ty.1) ∧ X.cell? ⟨x2, o2 + j * 3 + 1, none⟩ = some (.bool x.ty.2) ∧ X.cell? ⟨x2, o2 + j * 3 + 2, none⟩ = some (.slice P2 x.init.length q2)) (first | exact HD.out _ (bl_drew (Below.refl _ _)) | exact HD.out _ hB2)
        (first | (go_at_call 28; refine (HS.out _ (bl_drew (Below.refl _ _))).mono ?_; rintro E W2 ⟨rfl, hBx⟩; have hB2 := below_from (bl_drew (Below.refl wr.heap.size wr)) hBx))
       all_goals have HB3 := Lib.hid (HB.out.trans (hB2.mono HB.out.size))
       all_goals clear hBx hB2
       all_goals go_wp2_with fail
       all_goals go_roundw
       case rel => exact ⟨j + 1, by omega, by go_num, HB3⟩
       case measure => simp [intOf]; omega
      ·have hlt2 : ¬ (j : Int) < (M.globals.length : Int) := by omega
       clear hlt
       go_wp2_with fail
       go_ret
       exact ⟨rfl, HBL.out.trans (HB.out.mono HBL.out.size)⟩
end Go.Proofs.YtofaiocffifhfaaGreat
end
section
namespace Go.Proofs.YtofaiocffifhfaaGreat
open Go.RowKit Go.Shelf YtofaiocffifhfaaGreatB Go.Proofs.YtofaiocffifhfaaGreatW.PrintWords
structure Small (M : ModD) (fns : List FnD) : Prop where
 l0 : M.types.length ≤ 1048576
 l1 : M.imports.length ≤ 1048576
 l2 : fns.length ≤ 1048576
 l3 : M.tables.length ≤ 1048576
 l4 : M.mems.length ≤ 1048576
 l5 : M.globals.length ≤ 1048576
 l6 : M.exports.length ≤ 1048576
 l9 : M.elems.length ≤ 1048576
 l10 : M.datas.length ≤ 1048576
 t0 : ∀ x ∈ M.types, x.1.length ≤ 1048576 ∧ x.2.length ≤ 1048576
 b2 : ∀ x ∈ fns, bkL x.body ≤ 1048576
 b5 : ∀ x ∈ M.globals, bkL x.init ≤ 1048576
 b9 : ∀ x ∈ M.elems, bkL x.off ≤ 1048576
 b10 : ∀ x ∈ M.datas, bkL x.off ≤ 1048576
 o2 : ∀ x ∈ fns, x.loc.length ≤ 1048576
 o9 : ∀ x ∈ M.elems, x.fns.length ≤ 1048576
 o10 : ∀ x ∈ M.datas, x.bts.length ≤ 1048576
set_option maxRecDepth 100000 in
set_option maxHeartbeats 4000000 in
theorem Same20_eq (W : World) (M : ModD) (fns : List FnD) (ok1 ok2 : Nat → Prop) (a0 a1 a2 a3 a4 a5 a6 a9 a10 b0 b1 b2 b3 b4 b5 b6 b9 b10 : Value) (hs : Small M fns) (ha : PRows ok1 W M fns a0 a1 a2 a3 a4 a5 a6 a9 a10) (hb : PRows ok2 W M fns b0 b1 b2 b3 b4 b5 b6 b9 b10) :
  Calls Tryz.prog 10 #[.agg #[a0, a1, a2, a3, a4, a5, a6, .bool M.starts, .int .u32 M.start, a9, a10], .agg #[b0, b1, b2, b3, b4, b5, b6, .bool M.starts, .int .u32 M.start, b9, b10]] W (AwPost20 W) := by
 obtain ⟨Aa0, ca0, rfl, ga0, F0⟩ := ha.r0
 obtain ⟨Ab0, cb0, rfl, gb0, G0⟩ := hb.r0
 obtain ⟨Aa1, ca1, rfl, ga1, F1⟩ := ha.r1
 obtain ⟨Ab1, cb1, rfl, gb1, G1⟩ := hb.r1
 obtain ⟨Aa2, ca2, rfl, ga2, F2⟩ := ha.r2
 obtain ⟨Ab2, cb2, rfl, gb2, G2⟩ := hb.r2
 obtain ⟨Aa3, ca3, rfl, ga3, F3⟩ := ha.r3
 obtain ⟨Ab3, cb3, rfl, gb3, G3⟩ := hb.r3
 obtain ⟨Aa4, ca4, rfl, ga4, F4⟩ := ha.r4
 obtain ⟨Ab4, cb4, rfl, gb4, G4⟩ := hb.r4
 obtain ⟨Aa5, ca5, rfl, ga5, F5⟩ := ha.r5
 obtain ⟨Ab5, cb5, rfl, gb5, G5⟩ := hb.r5
 obtain ⟨Aa6, ca6, rfl, ga6, F6⟩ := ha.r6
 obtain ⟨Ab6, cb6, rfl, gb6, G6⟩ := hb.r6
 obtain ⟨Aa9, ca9, rfl, ga9, F9⟩ := ha.r9
 obtain ⟨Ab9, cb9, rfl, gb9, G9⟩ := hb.r9
 obtain ⟨Aa10, ca10, rfl, ga10, F10⟩ := ha.r10
 obtain ⟨Ab10, cb10, rfl, gb10, G10⟩ := hb.r10
 have hal : Below W.heap.size W ((W.alloc (.cells #[.slice Aa0 M.types.length ca0, .slice Aa1 M.imports.length ca1, .slice Aa2 fns.length ca2, .slice Aa3 M.tables.length ca3, .slice Aa4 M.mems.length ca4, .slice Aa5 M.globals.length ca5, .slice Aa6 M.exports.length ca6, .bool M.starts, .int .u32 M.start, .slice Aa9 M.elems.length ca9, .slice Aa10 M.datas.length ca10] 47)).alloc (.cells #[.slice Ab0 M.types.length cb0, .slice Ab1 M.imports.length cb1, .slice Ab2 fns.length cb2, .slice Ab3 M.tables.length cb3, .slice Ab4 M.mems.length cb4, .slice Ab5 M.globals.length cb5, .slice Ab6 M.exports.length cb6, .bool M.starts, .int .u32 M.start, .slice Ab9 M.elems.length cb9, .slice Ab10 M.datas.length cb10] 47)) := bl_alloc (bl_alloc (Below.refl _ _) _) _
 have hA := (Blk.new W #[.slice Aa0 M.types.length ca0, .slice Aa1 M.imports.length ca1, .slice Aa2 fns.length ca2, .slice Aa3 M.tables.length ca3, .slice Aa4 M.mems.length ca4, .slice Aa5 M.globals.length ca5, .slice Aa6 M.exports.length ca6, .bool M.starts, .int .u32 M.start, .slice Aa9 M.elems.length ca9, .slice Aa10 M.datas.length ca10] 47).alloc (.cells #[.slice Ab0 M.types.length cb0, .slice Ab1 M.imports.length cb1, .slice Ab2 fns.length cb2, .slice Ab3 M.tables.length cb3, .slice Ab4 M.mems.length cb4, .slice Ab5 M.globals.length cb5, .slice Ab6 M.exports.length cb6, .bool M.starts, .int .u32 M.start, .slice Ab9 M.elems.length cb9, .slice Ab10 M.datas.length cb10] 47)
 have hB := Blk.new (W.alloc (.cells #[.slice Aa0 M.types.length ca0, .slice Aa1 M.imports.length ca1, .slice Aa2 fns.length ca2, .slice Aa3 M.tables.length ca3, .slice Aa4 M.mems.length ca4, .slice Aa5 M.globals.length ca5, .slice Aa6 M.exports.length ca6, .bool M.starts, .int .u32 M.start, .slice Aa9 M.elems.length ca9, .slice Aa10 M.datas.length ca10] 47)) #[.slice Ab0 M.types.length cb0, .slice Ab1 M.imports.length cb1, .slice Ab2 fns.length cb2, .slice Ab3 M.tables.length cb3, .slice Ab4 M.mems.length cb4, .slice Ab5 M.globals.length cb5, .slice Ab6 M.exports.length cb6, .bool M.starts, .int .u32 M.start, .slice Ab9 M.elems.length cb9, .slice Ab10 M.datas.length cb10] 47
 rw [World.size_alloc] at hB
 have HF0 := Lib.hid (Ft.below F0 hal)
 have HG0 := Lib.hid (Ft.below G0 hal)
 have HA0 := Lib.hid ga0
 have HB0 := Lib.hid gb0
 have HF1 := Lib.hid (Ft.below F1 hal)
 have HG1 := Lib.hid (Ft.below G1 hal)
 have HA1 := Lib.hid ga1
 have HB1 := Lib.hid gb1
 have HF2 := Lib.hid (Ft.below F2 hal)
 have HG2 := Lib.hid (Ft.below G2 hal)
 have HA2 := Lib.hid ga2
 have HB2 := Lib.hid gb2
 have HF3 := Lib.hid (Ft.below F3 hal)
 have HG3 := Lib.hid (Ft.below G3 hal)
 have HA3 := Lib.hid ga3
 have HB3 := Lib.hid gb3
 have HF4 := Lib.hid (Ft.below F4 hal)
 have HG4 := Lib.hid (Ft.below G4 hal)
 have HA4 := Lib.hid ga4
 have HB4 := Lib.hid gb4
 have HF5 := Lib.hid (Ft.below F5 hal)
 have HG5 := Lib.hid (Ft.below G5 hal)
 have HA5 := Lib.hid ga5
 have HB5 := Lib.hid gb5
 have HF6 := Lib.hid (Ft.below F6 hal)
 have HG6 := Lib.hid (Ft.below G6 hal)
 have HA6 := Lib.hid ga6
 have HB6 := Lib.hid gb6
 have HF9 := Lib.hid (Ft.below F9 hal)
 have HG9 := Lib.hid (Ft.below G9 hal)
 have HA9 := Lib.hid ga9
 have HB9 := Lib.hid gb9
 have HF10 := Lib.hid (Ft.below F10 hal)
 have HG10 := Lib.hid (Ft.below G10 hal)
 have HA10 := Lib.hid ga10
 have HB10 := Lib.hid gb10
 have HBL := Lib.hid hal
 have HSM := Lib.hid hs
 clear hal hs ha hb F0 G0 ga0 gb0 F1 G1 ga1 gb1 F2 G2 ga2 gb2 F3 G3 ga3 gb3 F4 G4 ga4 gb4 F5 G5 ga5 gb5 F6 G6 ga6 gb6 F9 G9 ga9 gb9 F10 G10 ga10 gb10
 go_enter Tryz.func10, Tryz.ntmps10
 go_wp2_with fail
 generalize (W.alloc (.cells #[.slice Aa0 M.types.length ca0, .slice Aa1 M.imports.length ca1, .slice Aa2 fns.length ca2, .slice Aa3 M.tables.length ca3, .slice Aa4 M.mems.length ca4, .slice Aa5 M.globals.length ca5, .slice Aa6 M.exports.length ca6, .bool M.starts, .int .u32 M.start, .slice Aa9 M.elems.length ca9, .slice Aa10 M.datas.length ca10] 47)).alloc (.cells #[.slice Ab0 M.types.length cb0, .slice Ab1 M.imports.length cb1, .slice Ab2 fns.length cb2, .slice Ab3 M.tables.length cb3, .slice Ab4 M.mems.length cb4, .slice Ab5 M.globals.length cb5, .slice Ab6 M.exports.length cb6, .bool M.starts, .int .u32 M.start, .slice Ab9 M.elems.length cb9, .slice Ab10 M.datas.length cb10] 47) = W1 at *
 have HPA := Lib.hid hA
 have HPB := Lib.hid hB
 have pl := hA.lt
 have rl := hB.lt
 have HD := Lib.hid (fun X (h : Below W1.heap.size W1 X) => (⟨(hA.below h pl).cell 0, (hA.below h pl).cell 1, (hA.below h pl).cell 2, (hA.below h pl).cell 3, (hA.below h pl).cell 4, (hA.below h pl).cell 5, (hA.below h pl).cell 6, (hA.below h pl).cell 7, (hA.below h pl).cell 8, (hA.below h pl).cell 9, (hA.below h pl).cell 10, (hB.below h rl).cell 0, (hB.below h rl).cell 1, (hB.below h rl).cell 2, (hB.below h rl).cell 3, (hB.below h rl).cell 4, (hB.below h rl).cell 5, (hB.below h rl).cell 6, (hB.below h rl).cell 7, (hB.below h rl).cell 8, (hB.below h rl).cell 9, (hB.below h rl).cell 10, (hA.below h pl).lt, (hB.below h rl).lt⟩ : X.cell? ⟨W.heap.size, 0, none⟩ = some (.slice Aa0 M.types.length ca0) ∧ X.cell? ⟨W.heap.size, 1, none⟩ = some (.slice Aa1 M.imports.length ca1) ∧ X.cell? ⟨W.heap.size, 2, none⟩ = some (.slice Aa2 fns.length ca2) ∧ X.cell? ⟨W.heap.size, 3, none⟩ = some (.slice Aa3 M.tables.length ca3) ∧ X.cell? ⟨W.heap.size, 4, none⟩ = some (.slice Aa4 M.mems.length ca4) ∧ X.cell? ⟨W.heap.size, 5, none⟩ = some (.slice Aa5 M.globals.length ca5) ∧ X.cell? ⟨W.heap.size, 6, none⟩ = some (.slice Aa6 M.exports.length ca6) ∧ X.cell? ⟨W.heap.size, 7, none⟩ = some (.bool M.starts) ∧ X.cell? ⟨W.heap.size, 8, none⟩ = some (.int .u32 M.start) ∧ X.cell? ⟨W.heap.size, 9, none⟩ = some (.slice Aa9 M.elems.length ca9) ∧ X.cell? ⟨W.heap.size, 10, none⟩ = some (.slice Aa10 M.datas.length ca10) ∧ X.cell? ⟨W.heap.size + 1, 0, none⟩ = some (.slice Ab0 M.types.length cb0) ∧ X.cell? ⟨W.heap.size + 1, 1, none⟩ = some (.slice Ab1 M.imports.length cb1) ∧ X.cell? ⟨W.heap.size + 1, 2, none⟩ = some (.slice Ab2 fns.length cb2) ∧ X.cell? ⟨W.heap.size + 1, 3, none⟩ = some (.slice Ab3 M.tables.length cb3) ∧ X.cell? ⟨W.heap.size + 1, 4, none⟩ = some (.slice Ab4 M.mems.length cb4) ∧ X.cell? ⟨W.heap.size + 1, 5, none⟩ = some (.slice Ab5 M.globals.length cb5) ∧ X.cell? ⟨W.heap.size + 1, 6, none⟩ = some (.slice Ab6 M.exports.length cb6) ∧ X.cell? ⟨W.heap.size + 1, 7, none⟩ = some (.bool M.starts) ∧ X.cell? ⟨W.heap.size + 1, 8, none⟩ = some (.int .u32 M.start) ∧ X.cell? ⟨W.heap.size + 1, 9, none⟩ = some (.slice Ab9 M.elems.length cb9) ∧ X.cell? ⟨W.heap.size + 1, 10, none⟩ = some (.slice Ab10 M.datas.length cb10) ∧ W.heap.size < X.heap.size ∧ W.heap.size + 1 < X.heap.size))
 have HT := Lib.hid (fun X (h : Below W1.heap.size W1 X) => sameTypes_eq X Aa0 Ab0 ca0 cb0 M.types _ _ (Ft.below HF0.out h) (Ft.below HG0.out h) HSM.out.l0 HSM.out.t0)
 have HL3 := Lib.hid (fun X (h : Below W1.heap.size W1 X) => sameLimits_eq X Aa3 Ab3 ca3 cb3 M.tables _ _ (Ft.below HF3.out h) (Ft.below HG3.out h) HSM.out.l3)
 have HL4 := Lib.hid (fun X (h : Below W1.heap.size W1 X) => sameLimits_eq X Aa4 Ab4 ca4 cb4 M.mems _ _ (Ft.below HF4.out h) (Ft.below HG4.out h) HSM.out.l4)
 have HO := Lib.hid (fun X (h : Below W1.heap.size W1 X) => sameOuter_eq X M ok1 ok2 (.slice Aa0 M.types.length ca0) (.slice Aa1 M.imports.length ca1) (.slice Aa2 fns.length ca2) (.slice Aa3 M.tables.length ca3) (.slice Aa4 M.mems.length ca4) (.slice Aa5 M.globals.length ca5) (.slice Aa6 M.exports.length ca6) (.slice Aa9 M.elems.length ca9) (.slice Aa10 M.datas.length ca10) (.slice Ab0 M.types.length cb0) (.slice Ab1 M.imports.length cb1) (.slice Ab2 fns.length cb2) (.slice Ab3 M.tables.length cb3) (.slice Ab4 M.mems.length cb4) (.slice Ab5 M.globals.length cb5) (.slice Ab6 M.exports.length cb6) (.slice Ab9 M.elems.length cb9) (.slice Ab10 M.datas.length cb10) M.starts M.starts M.start M.start ⟨_, _, rfl, HA1.out, Ft.below HF1.out h⟩ ⟨_, _, rfl, HB1.out, Ft.below HG1.out h⟩ ⟨_, _, rfl, HA6.out, Ft.below HF6.out h⟩ ⟨_, _, rfl, HB6.out, Ft.below HG6.out h⟩ ⟨_, _, rfl, HA5.out, Ft.below HF5.out h⟩ ⟨_, _, rfl, HB5.out, Ft.below HG5.out h⟩ HSM.out.l1 HSM.out.l6 HSM.out.l5 HSM.out.b5)
 clear hA hB
 refine (HT.out _ (Below.refl W1.heap.size W1)).mono ?_
 rintro E X1 ⟨rfl, m1, hx1⟩
 have hb1 : Below W1.heap.size W1 X1 := by rw [hx1]; exact bl_drewN m1
 obtain ⟨q0, q1, q2, q3, q4, q5, q6, q7, q8, q9, q10, q11, q12, q13, q14, q15, q16, q17, q18, q19, q20, q21, q22, q23⟩ := HD.out _ hb1
 clear hx1
 go_wp2_with fail
 refine (HO.out _ hb1).mono ?_
 rintro E X2 ⟨rfl, hx2⟩
 have hb2 := below_from hb1 hx2
 clear q0 q1 q2 q3 q4 q5 q6 q7 q8 q9 q10 q11 q12 q13 q14 q15 q16 q17 q18 q19 q20 q21 q22 q23 hx2 hb1
 obtain ⟨q0, q1, q2, q3, q4, q5, q6, q7, q8, q9, q10, q11, q12, q13, q14, q15, q16, q17, q18, q19, q20, q21, q22, q23⟩ := HD.out _ hb2
 go_wp2_with fail
 refine (HL3.out _ hb2).mono ?_
 rintro E X3 ⟨rfl, m3, hx3⟩
 have hb3 : Below W1.heap.size W1 X3 := by rw [hx3]; exact below_from hb2 (bl_drewN m3)
 clear q0 q1 q2 q3 q4 q5 q6 q7 q8 q9 q10 q11 q12 q13 q14 q15 q16 q17 q18 q19 q20 q21 q22 q23 hx3 hb2
 obtain ⟨q0, q1, q2, q3, q4, q5, q6, q7, q8, q9, q10, q11, q12, q13, q14, q15, q16, q17, q18, q19, q20, q21, q22, q23⟩ := HD.out _ hb3
 go_wp2_with fail
 refine (HL4.out _ hb3).mono ?_
 rintro E X4 ⟨rfl, m4, hx4⟩
 have hb4 : Below W1.heap.size W1 X4 := by rw [hx4]; exact below_from hb3 (bl_drewN m4)
 clear q0 q1 q2 q3 q4 q5 q6 q7 q8 q9 q10 q11 q12 q13 q14 q15 q16 q17 q18 q19 q20 q21 q22 q23 hx4 hb3
 obtain ⟨q0, q1, q2, q3, q4, q5, q6, q7, q8, q9, q10, q11, q12, q13, q14, q15, q16, q17, q18, q19, q20, q21, q22, q23⟩ := HD.out _ hb4
 have HX := Lib.hid hb4
 clear hb4 pl rl
 clear HT HL3 HL4 HO
 go_wp2_with fail
 clear q0 q1 q2 q3 q4 q5 q6 q7 q8 q9 q10 q11 q12 q13 q14 q15 q16 q17 q18 q19 q20 q21 q22 q23
 go_loopw [5] (fun i wr => ∃ (j : Nat), j ≤ fns.length ∧ i = .int .i64 j ∧ Hid (Below W1.heap.size W1 wr)) (fun i _ => fns.length - (intOf i).toNat)
 case atStart => exact ⟨0, Nat.zero_le _, rfl, HX.out⟩
 case round =>
  obtain ⟨j, hj, rfl, HB⟩ := hrel
  have hpa := HPA.out.below HB.out HPA.out.lt
  have hpb := HPB.out.below HB.out HPB.out.lt
  have p := hpa.cell 2
  have r := hpb.cell 2
  have pl' := hpa.lt
  have rl' := hpb.lt
  have hll := HSM.out.l2
  by_cases hlt : j < fns.length
  ·have hlt2 : (j : Int) < (fns.length : Int) := by omega
   obtain ⟨x1, o1, x2, o2, x, cs1, cs2, hA1, hA2, hx, hk1, hk2, hc1, hc2⟩ := FC.two (Ft.below HF2.out HB.out) (Ft.below HG2.out HB.out) (show 0 < 3 by decide) j hlt
   obtain ⟨P1, u1, Q1, t1, rfl, g1, e1⟩ := rfn_open hk1
   obtain ⟨P2, u2, Q2, t2, rfl, g2, e2⟩ := rfn_open hk2
   have hq := HSM.out.b2 x (List.mem_of_getElem? hx.out)
   have ho := HSM.out.o2 x (List.mem_of_getElem? hx.out)
   have HS := Lib.hid (fun X (h : Below wr.heap.size wr X) => same_eq _ x.body (Nat.le_refl _) hq X Q1 Q2 t1 t2 (Ft.below e1 h).now (Ft.below e2 h).now)
   have HC1 := Lib.hid (fun X (h : Below wr.heap.size wr X) => conv_str X P1 x.loc u1 (C_le (Ft.below g1 h).now ho))
   have HC2 := Lib.hid (fun X (h : Below wr.heap.size wr X) => conv_str X P2 x.loc u2 (C_le (Ft.below g2 h).now ho))
   subst hA1 hA2
   have hz : kRFn.sz = 3 := rfl
   have d0 := hc1 0 _ rfl
   have d1 := hc1 1 _ rfl
   have d2 := hc1 2 _ rfl
   have f0 := hc2 0 _ rfl
   have f1 := hc2 1 _ rfl
   have f2 := hc2 2 _ rfl
   simp only [hz, Nat.add_zero] at d0 d1 d2 f0 f1 f2
   have hb1 := World.block_lt_of_cell? _ _ d0
   have hb2 := World.block_lt_of_cell? _ _ f0
   have HDD := Lib.hid (show ∀ X, Below wr.heap.size wr X → X.cell? ⟨W.heap.size, 2, none⟩ = some (.slice (some ⟨x1, o1, none⟩) fns.length ca2) ∧ X.cell? ⟨W.heap.size + 1, 2, none⟩ = some (.slice (some ⟨x2, o2, none⟩) fns.length cb2) ∧ X.cell? ⟨x1, o1 + j * 3, none⟩ = some (.int .u32 x.ty) ∧ X.cell? ⟨x1, o1 + j * 3 + 1, none⟩ = some (.slice P1 x.loc.length u1) ∧ X.cell? ⟨x1, o1 + j * 3 + 2, none⟩ = some (.slice Q1 x.body.length t1) ∧ X.cell? ⟨x2, o2 + j * 3, none⟩ = some (.int .u32 x.ty) ∧ X.cell? ⟨x2, o2 + j * 3 + 1, none⟩ = some (.slice P2 x.loc.length u2) ∧ X.cell? ⟨x2, o2 + j * 3 + 2, none⟩ = some (.slice Q2 x.body.length t2) ∧ (convert 22 9 (.slice P1 x.loc.length u1)).run Tryz.prog X = .ok (.string (strOfNums x.loc)) X ∧ (convert 22 9 (.slice P2 x.loc.length u2)).run Tryz.prog X = .ok (.string (strOfNums x.loc)) X from fun X h => ⟨(h.cell (p := ⟨_, _, none⟩) pl').trans p, (h.cell (p := ⟨_, _, none⟩) rl').trans r, pw_cell_below h d0, pw_cell_below h d1, pw_cell_below h d2, pw_cell_below h f0, pw_cell_below h f1, pw_cell_below h f2, HC1.out X h, HC2.out X h⟩)
   clear hx hk1 hk2 hc1 hc2 g1 g2 e1 e2 hpa hpb hq ho
   go_wp2_with fail
   go_region_held3 (fun X => X.cell? ⟨W.heap.size, 2, none⟩ = some (.slice (some ⟨x1, o1, none⟩) fns.length ca2) ∧ X.cell? ⟨W.heap.size + 1, 2, none⟩ = some (.slice (some ⟨x2, o2, none⟩) fns.length cb2) ∧ X.cell? ⟨x1, o1 + j * 3, none⟩ = some (.int .u32 x.ty) ∧ X.cell? ⟨x1, o1 + j * 3 + 1, none⟩ = some (.slice P1 x.loc.length u1) ∧ X.cell? ⟨x1, o1 + j * 3 + 2, none⟩ = some (.slice Q1 x.body.length t1) ∧ X.cell? ⟨x2, o2 + j * 3, none⟩ = some (.int .u32 x.ty) ∧ X.cell? ⟨x2, o2 + j * 3 + 1, none⟩ = some (.slice P2 x.loc.length u2) ∧ X.cell? ⟨x2, o2 + j * 3 + 2, none⟩ = some (.slice Q2 x.body.length t2) ∧ (convert 22 9 (.slice P1 x.loc.length u1)).run Tryz.prog X = .ok (.string (strOfNums x.loc)) X ∧ (convert 22 9 (.slice P2 x.loc.length u2)).run Tryz.prog X = .ok (.string (strOfNums x.loc)) X) (first | with_reducible exact HDD.out _ hB3 | with_reducible exact HDD.out _ hB2 | exact HDD.out _ (bl_drew (Below.refl wr.heap.size wr)))
    (first | (go_at_call 28; refine (HS.out _ (bl_drew (Below.refl wr.heap.size wr))).mono ?_; rintro E W2 ⟨rfl, hBx⟩; have hB2 := below_from (bl_drew (Below.refl wr.heap.size wr)) hBx))
   all_goals have HB9 := Lib.hid (HB.out.trans (hB2.mono HB.out.size))
   all_goals clear hBx hB2 
   all_goals go_wp2_with fail
   all_goals (refine ⟨?_, ?_⟩; rotate_left; (simp [intOf]; omega))
   all_goals (first | exact ⟨j + 1, by omega, by go_num, HB9⟩ | ((repeat apply Exists.intro); refine ⟨?_, rfl⟩; exact ⟨j + 1, by omega, by go_num, HB9⟩))
  ·have hlt2 : ¬ (j : Int) < (fns.length : Int) := by omega
   clear hlt
   clear p r pl' rl'
   clear hpa hpb
   obtain ⟨q0, q1, q2, q3, q4, q5, q6, q7, q8, q9, q10, q11, q12, q13, q14, q15, q16, q17, q18, q19, q20, q21, q22, q23⟩ := HD.out _ HB.out
   go_wp2_with fail
   clear q0 q1 q2 q3 q4 q5 q6 q7 q8 q9 q10 q11 q12 q13 q14 q15 q16 q17 q18 q19 q20 q21 q22 q23
   go_loopw [6] (fun i wr => ∃ (j : Nat), j ≤ M.elems.length ∧ i = .int .i64 j ∧ Hid (Below W1.heap.size W1 wr)) (fun i _ => M.elems.length - (intOf i).toNat)
   case atStart => exact ⟨0, Nat.zero_le _, rfl, HB.out⟩
   case round =>
    obtain ⟨j, hj, rfl, HB⟩ := hrel
    have hpa := HPA.out.below HB.out HPA.out.lt
    have hpb := HPB.out.below HB.out HPB.out.lt
    have p := hpa.cell 9
    have r := hpb.cell 9
    have pl' := hpa.lt
    have rl' := hpb.lt
    have hll := HSM.out.l9
    by_cases hlt : j < M.elems.length
    ·have hlt2 : (j : Int) < (M.elems.length : Int) := by omega
     obtain ⟨x1, o1, x2, o2, x, cs1, cs2, hA1, hA2, hx, hk1, hk2, hc1, hc2⟩ := FC.two (Ft.below HF9.out HB.out) (Ft.below HG9.out HB.out) (show 0 < 3 by decide) j hlt
     obtain ⟨P1, u1, Q1, t1, rfl, g1, e1⟩ := relem_open hk1
     obtain ⟨P2, u2, Q2, t2, rfl, g2, e2⟩ := relem_open hk2
     have hq := HSM.out.b9 x (List.mem_of_getElem? hx.out)
     have ho := HSM.out.o9 x (List.mem_of_getElem? hx.out)
     have HS := Lib.hid (fun X (h : Below wr.heap.size wr X) => same_eq _ x.off (Nat.le_refl _) hq X P1 P2 u1 u2 (Ft.below g1 h).now (Ft.below g2 h).now)
     have HP := Lib.hid (fun X (h : Below wr.heap.size wr X) => samePlaces_eq X Q1 Q2 t1 t2 x.fns (C_le (Ft.below e1 h).now ho) (C_le (Ft.below e2 h).now ho))
     subst hA1 hA2
     have hz : kRElem.sz = 3 := rfl
     have d0 := hc1 0 _ rfl
     have d1 := hc1 1 _ rfl
     have d2 := hc1 2 _ rfl
     have f0 := hc2 0 _ rfl
     have f1 := hc2 1 _ rfl
     have f2 := hc2 2 _ rfl
     simp only [hz, Nat.add_zero] at d0 d1 d2 f0 f1 f2
     have hb1 := World.block_lt_of_cell? _ _ d0
     have hb2 := World.block_lt_of_cell? _ _ f0
     have HDD := Lib.hid (show ∀ X, Below wr.heap.size wr X → X.cell? ⟨W.heap.size, 9, none⟩ = some (.slice (some ⟨x1, o1, none⟩) M.elems.length ca9) ∧ X.cell? ⟨W.heap.size + 1, 9, none⟩ = some (.slice (some ⟨x2, o2, none⟩) M.elems.length cb9) ∧ X.cell? ⟨x1, o1 + j * 3, none⟩ = some (.int .u32 x.tab) ∧ X.cell? ⟨x1, o1 + j * 3 + 1, none⟩ = some (.slice P1 x.off.length u1) ∧ X.cell? ⟨x1, o1 + j * 3 + 2, none⟩ = some (.slice Q1 x.fns.length t1) ∧ X.cell? ⟨x2, o2 + j * 3, none⟩ = some (.int .u32 x.tab) ∧ X.cell? ⟨x2, o2 + j * 3 + 1, none⟩ = some (.slice P2 x.off.length u2) ∧ X.cell? ⟨x2, o2 + j * 3 + 2, none⟩ = some (.slice Q2 x.fns.length t2) from fun X h => ⟨(h.cell (p := ⟨_, _, none⟩) pl').trans p, (h.cell (p := ⟨_, _, none⟩) rl').trans r, pw_cell_below h d0, pw_cell_below h d1, pw_cell_below h d2, pw_cell_below h f0, pw_cell_below h f1, pw_cell_below h f2⟩)
     clear hx hk1 hk2 hc1 hc2 g1 g2 e1 e2 hpa hpb hq ho
     go_wp2_with fail
     go_region_held3 (fun X => X.cell? ⟨W.heap.size, 9, none⟩ = some (.slice (some ⟨x1, o1, none⟩) M.elems.length ca9) ∧ X.cell? ⟨W.heap.size + 1, 9, none⟩ = some (.slice (some ⟨x2, o2, none⟩) M.elems.length cb9) ∧ X.cell? ⟨x1, o1 + j * 3, none⟩ = some (.int .u32 x.tab) ∧ X.cell? ⟨x1, o1 + j * 3 + 1, none⟩ = some (.slice P1 x.off.length u1) ∧ X.cell? ⟨x1, o1 + j * 3 + 2, none⟩ = some (.slice Q1 x.fns.length t1) ∧ X.cell? ⟨x2, o2 + j * 3, none⟩ = some (.int .u32 x.tab) ∧ X.cell? ⟨x2, o2 + j * 3 + 1, none⟩ = some (.slice P2 x.off.length u2) ∧ X.cell? ⟨x2, o2 + j * 3 + 2, none⟩ = some (.slice Q2 x.fns.length t2)) (first | with_reducible exact HDD.out _ hB3 | with_reducible exact HDD.out _ hB2 | exact HDD.out _ (bl_drew (Below.refl wr.heap.size wr)))
      (first | (go_at_call 28; refine (HS.out _ (bl_drew (Below.refl wr.heap.size wr))).mono ?_; rintro E W2 ⟨rfl, hBx⟩; have hB2 := below_from (bl_drew (Below.refl wr.heap.size wr)) hBx) | (go_at_call 29; refine (HP.out _ hB2).mono ?_; rintro E W3 ⟨rfl, m3, rfl⟩; have hB3 := below_from hB2 (bl_drewN m3)))
     all_goals have HB9 := Lib.hid (HB.out.trans (hB3.mono HB.out.size))
     all_goals clear hBx hB2 hB3
     all_goals go_wp2_with fail
     all_goals (refine ⟨?_, ?_⟩; rotate_left; (simp [intOf]; omega))
     all_goals (first | exact ⟨j + 1, by omega, by go_num, HB9⟩ | ((repeat apply Exists.intro); refine ⟨?_, rfl⟩; exact ⟨j + 1, by omega, by go_num, HB9⟩))
    ·have hlt2 : ¬ (j : Int) < (M.elems.length : Int) := by omega
     clear hlt
     clear p r pl' rl'
     clear hpa hpb
     obtain ⟨q0, q1, q2, q3, q4, q5, q6, q7, q8, q9, q10, q11, q12, q13, q14, q15, q16, q17, q18, q19, q20, q21, q22, q23⟩ := HD.out _ HB.out
     go_wp2_with fail
     clear q0 q1 q2 q3 q4 q5 q6 q7 q8 q9 q10 q11 q12 q13 q14 q15 q16 q17 q18 q19 q20 q21 q22 q23
     go_loopw [7] (fun i wr => ∃ (j : Nat), j ≤ M.datas.length ∧ i = .int .i64 j ∧ Hid (Below W1.heap.size W1 wr)) (fun i _ => M.datas.length - (intOf i).toNat)
     case atStart => exact ⟨0, Nat.zero_le _, rfl, HB.out⟩
     case round =>
      obtain ⟨j, hj, rfl, HB⟩ := hrel
      have hpa := HPA.out.below HB.out HPA.out.lt
      have hpb := HPB.out.below HB.out HPB.out.lt
      have p := hpa.cell 10
      have r := hpb.cell 10
      have pl' := hpa.lt
      have rl' := hpb.lt
      have hll := HSM.out.l10
      by_cases hlt : j < M.datas.length
      ·have hlt2 : (j : Int) < (M.datas.length : Int) := by omega
       obtain ⟨x1, o1, x2, o2, x, cs1, cs2, hA1, hA2, hx, hk1, hk2, hc1, hc2⟩ := FC.two (Ft.below HF10.out HB.out) (Ft.below HG10.out HB.out) (show 0 < 3 by decide) j hlt
       obtain ⟨P1, u1, Q1, t1, rfl, g1, e1⟩ := rdata_open hk1
       obtain ⟨P2, u2, Q2, t2, rfl, g2, e2⟩ := rdata_open hk2
       have hq := HSM.out.b10 x (List.mem_of_getElem? hx.out)
       have ho := HSM.out.o10 x (List.mem_of_getElem? hx.out)
       have HS := Lib.hid (fun X (h : Below wr.heap.size wr X) => same_eq _ x.off (Nat.le_refl _) hq X P1 P2 u1 u2 (Ft.below g1 h).now (Ft.below g2 h).now)
       have HC1 := Lib.hid (fun X (h : Below wr.heap.size wr X) => conv_str X Q1 x.bts t1 (C_le (Ft.below e1 h).now ho))
       have HC2 := Lib.hid (fun X (h : Below wr.heap.size wr X) => conv_str X Q2 x.bts t2 (C_le (Ft.below e2 h).now ho))
       subst hA1 hA2
       have hz : kRData.sz = 3 := rfl
       have d0 := hc1 0 _ rfl
       have d1 := hc1 1 _ rfl
       have d2 := hc1 2 _ rfl
       have f0 := hc2 0 _ rfl
       have f1 := hc2 1 _ rfl
       have f2 := hc2 2 _ rfl
       simp only [hz, Nat.add_zero] at d0 d1 d2 f0 f1 f2
       have hb1 := World.block_lt_of_cell? _ _ d0
       have hb2 := World.block_lt_of_cell? _ _ f0
       have HDD := Lib.hid (show ∀ X, Below wr.heap.size wr X → X.cell? ⟨W.heap.size, 10, none⟩ = some (.slice (some ⟨x1, o1, none⟩) M.datas.length ca10) ∧ X.cell? ⟨W.heap.size + 1, 10, none⟩ = some (.slice (some ⟨x2, o2, none⟩) M.datas.length cb10) ∧ X.cell? ⟨x1, o1 + j * 3, none⟩ = some (.int .u32 x.mem) ∧ X.cell? ⟨x1, o1 + j * 3 + 1, none⟩ = some (.slice P1 x.off.length u1) ∧ X.cell? ⟨x1, o1 + j * 3 + 2, none⟩ = some (.slice Q1 x.bts.length t1) ∧ X.cell? ⟨x2, o2 + j * 3, none⟩ = some (.int .u32 x.mem) ∧ X.cell? ⟨x2, o2 + j * 3 + 1, none⟩ = some (.slice P2 x.off.length u2) ∧ X.cell? ⟨x2, o2 + j * 3 + 2, none⟩ = some (.slice Q2 x.bts.length t2) ∧ (convert 22 9 (.slice Q1 x.bts.length t1)).run Tryz.prog X = .ok (.string (strOfNums x.bts)) X ∧ (convert 22 9 (.slice Q2 x.bts.length t2)).run Tryz.prog X = .ok (.string (strOfNums x.bts)) X from fun X h => ⟨(h.cell (p := ⟨_, _, none⟩) pl').trans p, (h.cell (p := ⟨_, _, none⟩) rl').trans r, pw_cell_below h d0, pw_cell_below h d1, pw_cell_below h d2, pw_cell_below h f0, pw_cell_below h f1, pw_cell_below h f2, HC1.out X h, HC2.out X h⟩)
       clear hx hk1 hk2 hc1 hc2 g1 g2 e1 e2 hpa hpb hq ho
       go_wp2_with fail
       go_region_held3 (fun X => X.cell? ⟨W.heap.size, 10, none⟩ = some (.slice (some ⟨x1, o1, none⟩) M.datas.length ca10) ∧ X.cell? ⟨W.heap.size + 1, 10, none⟩ = some (.slice (some ⟨x2, o2, none⟩) M.datas.length cb10) ∧ X.cell? ⟨x1, o1 + j * 3, none⟩ = some (.int .u32 x.mem) ∧ X.cell? ⟨x1, o1 + j * 3 + 1, none⟩ = some (.slice P1 x.off.length u1) ∧ X.cell? ⟨x1, o1 + j * 3 + 2, none⟩ = some (.slice Q1 x.bts.length t1) ∧ X.cell? ⟨x2, o2 + j * 3, none⟩ = some (.int .u32 x.mem) ∧ X.cell? ⟨x2, o2 + j * 3 + 1, none⟩ = some (.slice P2 x.off.length u2) ∧ X.cell? ⟨x2, o2 + j * 3 + 2, none⟩ = some (.slice Q2 x.bts.length t2) ∧ (convert 22 9 (.slice Q1 x.bts.length t1)).run Tryz.prog X = .ok (.string (strOfNums x.bts)) X ∧ (convert 22 9 (.slice Q2 x.bts.length t2)).run Tryz.prog X = .ok (.string (strOfNums x.bts)) X) (first | with_reducible exact HDD.out _ hB3 | with_reducible exact HDD.out _ hB2 | exact HDD.out _ (bl_drew (Below.refl wr.heap.size wr)))
        (first | (go_at_call 28; refine (HS.out _ (bl_drew (Below.refl wr.heap.size wr))).mono ?_; rintro E W2 ⟨rfl, hBx⟩; have hB2 := below_from (bl_drew (Below.refl wr.heap.size wr)) hBx))
       all_goals have HB9 := Lib.hid (HB.out.trans (hB2.mono HB.out.size))
       all_goals clear hBx hB2 
       all_goals go_wp2_with fail
       all_goals (refine ⟨?_, ?_⟩; rotate_left; (simp [intOf]; omega))
       all_goals (first | exact ⟨j + 1, by omega, by go_num, HB9⟩ | ((repeat apply Exists.intro); refine ⟨?_, rfl⟩; exact ⟨j + 1, by omega, by go_num, HB9⟩))
      ·have hlt2 : ¬ (j : Int) < (M.datas.length : Int) := by omega
       clear hlt
       clear hpa hpb
       go_wp2_with fail
       go_ret
       exact ⟨rfl, HBL.out.trans (HB.out.mono HBL.out.size)⟩
end Go.Proofs.YtofaiocffifhfaaGreat
end
section
namespace Go.Proofs.YtofaiocffifhfaaGreat
open Go.RowKit Go.Shelf YtofaiocffifhfaaGreatB Go.Proofs.YtofaiocffifhfaaGreatW.PrintWords
def runS (sat : Bool) : List (Int × List Int) → ModD → Int → ModD × Int
 | [], M, _ => (M, 0)
 | (n, c) :: l, M, hi => if 11 < n ∨ (0 < n ∧ n ≤ hi) then (M, 104) else
   if backP (contM sat c n M).2 c.length = 0 then runS sat l (contM sat c n M).1 (if hi < n then n else hi) else ((contM sat c n M).1, backP (contM sat c n M).2 c.length)
def secB (s : Int × List Int) : List Int := s.1 :: (s.2.length : Int) :: s.2
def secsB (l : List (Int × List Int)) : List Int := l.flatMap secB
theorem secsB_cons (s : Int × List Int) (l : List (Int × List Int)) : secsB (s :: l) = secB s ++ secsB l := rfl
theorem piece_sec (P R c : List Int) (n : Int) (hc : c.length < 128) : pieceM (P ++ secB (n, c) ++ R) (P.length + 1) 0 = (c, P.length + 2 + c.length, 0) := by
 have hd : (P ++ secB (n, c) ++ R).drop (P.length + 1) = (c.length : Int) :: (c ++ R) := by
  rw [List.append_assoc, List.drop_append]
  simp [secB]
 have hu : u32M (P ++ secB (n, c) ++ R) (P.length + 1) = .ok (c.length, P.length + 2) := by
  unfold u32M uintM
  rw [hd, lebG, if_pos (by omega)]
  rw [if_pos (by simp [lstU]; try omega)]
  simp
  try omega
 have ht : takeM (P ++ secB (n, c) ++ R) (P.length + 2) c.length = .ok (c, P.length + 2 + c.length) := by
  unfold takeM
  rw [if_pos (by simp [secB]; omega)]
  congr 2
  rw [List.append_assoc, List.drop_append, List.drop_eq_nil_of_le (by omega)]
  simp [secB]
 unfold pieceM
 rw [hu]
 have h4 : rdOf (.ok (c.length, P.length + 2) : Except Int (Nat × Nat)) (P.length + 1) 0 = ((c.length : Int), P.length + 2, 0) := rfl
 rw [h4]
 simp only [Int.toNat_natCast, rdL, if_true]
 rw [ht]
theorem secM_runS (sat : Bool) : ∀ (l : List (Int × List Int)) (P : List Int) (f : Nat) (M : ModD) (hi : Int), (∀ s ∈ l, s.2.length < 128) → l.length < f →
  (let r := secM (secStep sat (P ++ secsB l)) (P ++ secsB l) f M hi P.length 0; (r.1, r.2.2)) = runS sat l M hi
 | [], P, f, M, hi, hl, hf => by
  obtain ⟨f, rfl⟩ : ∃ g, f = g + 1 := ⟨f - 1, by omega⟩
  dsimp only
  rw [secM, if_pos rfl]
  simp [secsB, runS]
 | (n, c) :: l, P, f, M, hi, hl, hf => by
  obtain ⟨f, rfl⟩ : ∃ g, f = g + 1 := ⟨f - 1, by simp only [List.length_cons] at hf; omega⟩
  have hc := hl (n, c) (by simp)
  have hx : (P ++ secsB ((n, c) :: l))[P.length]? = some n := by simp [secsB_cons, secB]
  have hp : pieceM (P ++ secsB ((n, c) :: l)) (P.length + 1) 0 = (c, P.length + 2 + c.length, 0) := by
   rw [secsB_cons, ← List.append_assoc]
   exact piece_sec P (secsB l) c n hc
  dsimp only
  rw [secM, if_pos rfl, hx, runS]
  dsimp only
  by_cases hb : 11 < n ∨ (0 < n ∧ n ≤ hi)
  ·rw [if_pos hb, if_pos hb]
  ·rw [if_neg hb, if_neg hb]
   have hs : secStep sat (P ++ secsB ((n, c) :: l)) M n (P.length + 1) = ((contM sat c n M).1, P.length + 2 + c.length, backP (contM sat c n M).2 c.length) := by
    unfold secStep
    rw [hp]
    rfl
   rw [hs]
   dsimp only
   generalize hbk : backP (contM sat c n M).2 c.length = e1
   by_cases he : e1 = 0
   ·subst he
    rw [if_pos rfl]
    have ih := secM_runS sat l (P ++ secB (n, c)) f (contM sat c n M).1 (if hi < n then n else hi) (fun s hs => hl s (by simp [hs])) (by simp only [List.length_cons] at hf; omega)
    dsimp only at ih
    rw [List.append_assoc, ← secsB_cons] at ih
    have hlen : (P ++ secB (n, c)).length = P.length + 2 + c.length := by simp [secB]; omega
    rw [hlen] at ih
    exact ih
   ·rw [if_neg he, secM_bad _ _ _ _ _ _ _ he]
theorem runS_insert (sat : Bool) (c0 : List Int) (h0 : ∀ M, (contM sat c0 0 M).1 = M ∧ backP (contM sat c0 0 M).2 c0.length = 0) : ∀ (l1 l2 : List (Int × List Int)) (M : ModD) (hi : Int), 0 ≤ hi →
  runS sat (l1 ++ (0, c0) :: l2) M hi = runS sat (l1 ++ l2) M hi
 | [], l2, M, hi, hh => by
  rw [List.nil_append, List.nil_append, runS, if_neg (by omega), if_pos (h0 M).2, (h0 M).1, if_neg (by omega)]
 | (n, c) :: l1, l2, M, hi, hh => by
  rw [List.cons_append, List.cons_append, runS, runS]
  split
  ·rfl
  ·split
   ·exact runS_insert sat c0 h0 l1 l2 _ _ (by split <;> omega)
   ·rfl
end Go.Proofs.YtofaiocffifhfaaGreat
end
section
namespace Go.Proofs.YtofaiocffifhfaaGreat
open Go.RowKit YtofaiocffifhfaaGreatB
abbrev Rr (α : Type) := List Int → Nat → Int → α × Nat × Int
def Agl (n : Nat) (B B' : List Int) : Prop := ∀ i, i < n → B'[i]? = B[i]?
theorem Agl.mono {n m : Nat} {B B' : List Int} (h : Agl n B B') (hm : m ≤ n) : Agl m B B' := fun i hi => h i (by omega)
theorem Agl.take {B : List Int} {k : Nat} : Agl k B (B.take k) := fun i hi => by rw [List.getElem?_take, if_pos hi]
theorem Agl.len {n : Nat} {B B' : List Int} (h : Agl n B B') (hn : n ≤ B.length) : n ≤ B'.length := by
  rcases Nat.eq_zero_or_pos n with h0 | h0
  · omega
  · have := h (n - 1) (by omega)
    rw [List.getElem?_eq_getElem (show n - 1 < B.length by omega)] at this
    have := (List.getElem?_eq_some_iff.1 this).1
    omega
structure Good {α : Type} (R : Rr α) : Prop where
  bad : ∀ B a e, e ≠ 0 → (R B a e).2.2 = e
  le : ∀ B a, a ≤ B.length → (R B a 0).2.2 = 0 → a ≤ (R B a 0).2.1 ∧ (R B a 0).2.1 ≤ B.length
  same : ∀ B B' a, a ≤ B.length → (R B a 0).2.2 = 0 → Agl (R B a 0).2.1 B B' → R B' a 0 = R B a 0
  cut : ∀ B a k, a ≤ B.length → (R B a 0).2.2 = 0 → a ≤ k → k < (R B a 0).2.1 → (R (B.take k) a 0).2.2 = 100
  shift : ∀ P B a, a ≤ B.length → (R B a 0).2.2 = 0 → R (P ++ B) (P.length + a) 0 = ((R B a 0).1, P.length + (R B a 0).2.1, 0)
theorem Good.congr {α : Type} {R S : Rr α} (hS : Good S) (h1 : ∀ B a e, (R B a e).2.2 = (S B a e).2.2) (h2 : ∀ B a, (S B a 0).2.2 = 0 → R B a 0 = S B a 0) : Good R where
  bad := fun B a e he => by rw [h1]; exact hS.bad B a e he
  le := fun B a ha h => by rw [h1] at h; rw [h2 B a h]; exact hS.le B a ha h
  same := fun B B' a ha h hA => by
    rw [h1] at h
    rw [h2 B a h] at hA ⊢
    have := hS.same B B' a ha h hA
    rw [h2 B' a (by rw [this]; exact h), this]
  cut := fun B a k ha h hk hk2 => by
    rw [h1] at h
    rw [h2 B a h] at hk2
    rw [h1]
    exact hS.cut B a k ha h hk hk2
  shift := fun P B a ha h => by
    rw [h1] at h
    rw [h2 B a h]
    have := hS.shift P B a ha h
    rw [h2 _ _ (by rw [this]), this]
theorem Good.bind {α β γ : Type} {R : Rr α} {S : α → Rr β} {f : α → β → γ} (hR : Good R) (hS : ∀ v, Good (S v)) :
    Good (fun B a e => (f (R B a e).1 (S (R B a e).1 B (R B a e).2.1 (R B a e).2.2).1, (S (R B a e).1 B (R B a e).2.1 (R B a e).2.2).2) : Rr γ) := by
  have hE : ∀ B a, (S (R B a 0).1 B (R B a 0).2.1 (R B a 0).2.2).2.2 = 0 → (R B a 0).2.2 = 0 := fun B a h => by
    apply Classical.byContradiction
    intro hn
    rw [(hS _).bad _ _ _ hn] at h
    exact hn h
  refine ⟨fun B a e he => ?_, fun B a ha h => ?_, fun B B' a ha h hA => ?_, fun B a k ha h hk hk2 => ?_, fun P B a ha h => ?_⟩
  · have := hR.bad B a e he
    try simp only
    rw [(hS _).bad _ _ _ (by rw [this]; exact he), this]
  · try simp only at h ⊢
    have h0 := hE _ _ h
    have l1 := hR.le B a ha h0
    rw [h0] at h ⊢
    have l2 := (hS _).le _ _ l1.2 h
    omega
  · try simp only at h hA ⊢
    have h0 := hE _ _ h
    have l1 := hR.le B a ha h0
    rw [h0] at h hA ⊢
    have l2 := (hS _).le _ _ l1.2 h
    have s1 := hR.same B B' a ha h0 (hA.mono l2.1)
    rw [s1, h0, (hS _).same B B' _ l1.2 h hA]
  · try simp only at h hk2 ⊢
    have h0 := hE _ _ h
    have l1 := hR.le B a ha h0
    rw [h0] at h hk2
    rcases Nat.lt_or_ge k (R B a 0).2.1 with hlt | hge
    · have c1 := hR.cut B a k ha h0 hk hlt
      rw [c1]
      exact (hS _).bad _ _ _ (by decide)
    · rw [hR.same B (B.take k) a ha h0 (Agl.take.mono hge), h0]
      exact (hS _).cut B _ k l1.2 h hge hk2
  · try simp only at h ⊢
    have h0 := hE _ _ h
    have l1 := hR.le B a ha h0
    rw [h0] at h ⊢
    have s1 := hR.shift P B a ha h0
    have s2 := (hS _).shift P B _ l1.2 h
    rw [s1]
    try simp only
    rw [s2]
theorem Good.map {α β : Type} {R : Rr α} (hR : Good R) (f : α → β) : Good (fun B a e => (f (R B a e).1, (R B a e).2) : Rr β) where
  bad := hR.bad
  le := hR.le
  same := fun B B' a ha h hA => by rw [hR.same B B' a ha h hA]
  cut := hR.cut
  shift := fun P B a ha h => by rw [hR.shift P B a ha h]
theorem Good.pure {α : Type} (v : α) : Good (fun _ a e => (v, a, e)) where
  bad := fun _ _ _ _ => rfl
  le := fun _ _ ha _ => ⟨Nat.le_refl _, ha⟩
  same := fun _ _ _ _ _ _ => rfl
  cut := fun _ _ _ _ _ h1 h2 => by simp only at h2; omega
  shift := fun _ _ _ _ _ => rfl
theorem Good.fail {α : Type} (v : α) (c : Int) (hc : c ≠ 0) : Good (fun _ a e => (v, a, if e = 0 then c else e)) where
  bad := fun _ _ _ he => by simp [he]
  le := fun _ _ _ h => absurd h (by simpa using hc)
  same := fun _ _ _ _ h => absurd h (by simpa using hc)
  cut := fun _ _ _ _ h => absurd h (by simpa using hc)
  shift := fun _ _ _ _ h => absurd h (by simpa using hc)
def byteR : Rr Int := fun B a e => if e = 0 then (match B[a]? with | some x => (x, a + 1, 0) | none => (0, a, 100)) else (0, a, e)
theorem byteR_some {B : List Int} {a : Nat} {x : Int} (h : B[a]? = some x) : byteR B a 0 = (x, a + 1, 0) := by simp [byteR, h]
theorem byteR_none {B : List Int} {a : Nat} (h : B[a]? = none) : byteR B a 0 = (0, a, 100) := by simp [byteR, h]
theorem good_byte : Good byteR := by
  have key : ∀ B a, (byteR B a 0).2.2 = 0 → ∃ x, B[a]? = some x := fun B a h => by
    cases hx : B[a]? with
    | none => rw [byteR_none hx] at h; exact absurd h (by simp)
    | some x => exact ⟨x, rfl⟩
  refine ⟨fun B a e he => by simp [byteR, he], fun B a ha h => ?_, fun B B' a ha h hA => ?_, fun B a k ha h hk hk2 => ?_, fun P B a ha h => ?_⟩
  · obtain ⟨x, hx⟩ := key B a h
    rw [byteR_some hx]
    have := (List.getElem?_eq_some_iff.1 hx).1
    try simp only
    omega
  · obtain ⟨x, hx⟩ := key B a h
    rw [byteR_some hx] at hA ⊢
    exact byteR_some (by rw [hA a (by simp)]; exact hx)
  · obtain ⟨x, hx⟩ := key B a h
    rw [byteR_some hx] at hk2
    try simp only at hk2
    obtain rfl : k = a := by omega
    rw [byteR_none (by rw [List.getElem?_take, if_neg (by omega)])]
  · obtain ⟨x, hx⟩ := key B a h
    rw [byteR_some hx, byteR_some (x := x) (by rw [List.getElem?_append_right (by omega), Nat.add_sub_cancel_left]; exact hx)]
    rfl
def lookR {α : Type} [Inhabited α] (T : Int → Rr α) : Rr α := fun B a e => if e = 0 then (match B[a]? with | some b => T b B a 0 | none => (default, a, 100)) else (default, a, e)
theorem Good.look {α : Type} [Inhabited α] (T : Int → Rr α) (hT : ∀ b, Good (T b)) (hp : ∀ b B a, B[a]? = some b → (T b B a 0).2.2 = 0 → a < (T b B a 0).2.1) : Good (lookR T) := by
  have h0 : ∀ B a, B[a]? = none → (lookR T B a 0).2.2 = 100 := fun B a h => by simp [lookR, h]
  have h1 : ∀ B a b, B[a]? = some b → lookR T B a 0 = T b B a 0 := fun B a b h => by simp [lookR, h]
  have key : ∀ B a, (lookR T B a 0).2.2 = 0 → ∃ x, B[a]? = some x := fun B a h => by
    cases hx : B[a]? with
    | none => rw [h0 B a hx] at h; exact absurd h (by simp)
    | some x => exact ⟨x, rfl⟩
  refine ⟨fun B a e he => by simp [lookR, he], fun B a ha h => ?_, fun B B' a ha h hA => ?_, fun B a k ha h hk hk2 => ?_, fun P B a ha h => ?_⟩
  · obtain ⟨x, hx⟩ := key B a h
    rw [h1 B a x hx] at h ⊢
    exact (hT x).le B a ha h
  · obtain ⟨x, hx⟩ := key B a h
    rw [h1 B a x hx] at h hA ⊢
    have hl := hp x B a hx h
    rw [h1 B' a x (by rw [hA a hl]; exact hx)]
    exact (hT x).same B B' a ha h hA
  · obtain ⟨x, hx⟩ := key B a h
    rw [h1 B a x hx] at h hk2
    rcases Nat.lt_or_ge a k with hlt | hge
    · rw [h1 (B.take k) a x (by rw [List.getElem?_take, if_pos hlt]; exact hx)]
      exact (hT x).cut B a k ha h hk hk2
    · exact h0 _ _ (by rw [List.getElem?_take, if_neg (by omega)])
  · obtain ⟨x, hx⟩ := key B a h
    rw [h1 B a x hx] at h ⊢
    rw [h1 (P ++ B) (P.length + a) x (by rw [List.getElem?_append_right (by omega), Nat.add_sub_cancel_left]; exact hx)]
    exact (hT x).shift P B a ha h
theorem Good.ite {α : Type} {R S : Rr α} {c : Prop} [Decidable c] (hR : Good R) (hS : Good S) : Good (fun B a e => if c then R B a e else S B a e) := by
  by_cases h : c
  · simpa [h] using hR
  · simpa [h] using hS
theorem good_rdOf {M : List Int → Nat → Except Int (Nat × Nat)} (hle : ∀ B a n nx, a ≤ B.length → M B a = .ok (n, nx) → a ≤ nx ∧ nx ≤ B.length)
    (hs : ∀ B B' a n nx, a ≤ B.length → M B a = .ok (n, nx) → Agl nx B B' → M B' a = .ok (n, nx)) (hc : ∀ B a k n nx, a ≤ B.length → M B a = .ok (n, nx) → a ≤ k → k < nx → M (B.take k) a = .error 100)
    (hh : ∀ P B a n nx, a ≤ B.length → M B a = .ok (n, nx) → M (P ++ B) (P.length + a) = .ok (n, P.length + nx)) (hz : ∀ B a, M B a ≠ .error 0) : Good (fun B a e => rdOf (M B a) a e) := by
  have key : ∀ B a, (rdOf (M B a) a 0).2.2 = 0 → ∃ n nx, M B a = .ok (n, nx) := fun B a h => by
    cases hm : M B a with
    | error e =>
      rw [hm] at h
      simp [rdOf, numE] at h
      exact absurd (h ▸ hm) (hz B a)
    | ok y => exact ⟨y.1, y.2, rfl⟩
  have ok : ∀ B a n nx, M B a = .ok (n, nx) → rdOf (M B a) a 0 = ((n : Int), nx, 0) := fun B a n nx h => by rw [h]; rfl
  refine ⟨fun B a e he => by simp [rdOf, he], fun B a ha h => ?_, fun B B' a ha h hA => ?_, fun B a k ha h hk hk2 => ?_, fun P B a ha h => ?_⟩
  · obtain ⟨n, nx, hm⟩ := key B a h
    try simp only
    rw [ok B a n nx hm]
    exact hle B a n nx ha hm
  · obtain ⟨n, nx, hm⟩ := key B a h
    try simp only at hA ⊢
    rw [ok B a n nx hm] at hA ⊢
    exact ok B' a n nx (hs B B' a n nx ha hm hA)
  · obtain ⟨n, nx, hm⟩ := key B a h
    try simp only at hk2 ⊢
    rw [ok B a n nx hm] at hk2
    rw [hc B a k n nx ha hm hk hk2]
    rfl
  · obtain ⟨n, nx, hm⟩ := key B a h
    try simp only
    rw [ok B a n nx hm, ok _ _ n (P.length + nx) (hh P B a n nx ha hm)]
-- Numbers of groups.
theorem lebG_same {lst : Int → Int → Bool} : ∀ (R R' : List Int) (l m h c : Nat), lebG lst R l = .ok (m, h, c) → (∀ i, i < c → R'[i]? = R[i]?) → lebG lst R' l = .ok (m, h, c)
  | [], R', l, m, h, c, e, _ => by simp [lebG] at e
  | x :: r, R', l, m, h, c, e, hA => by
    have hc := (lebG_c _ _ _ _ _ e).1
    match R', hA 0 (by omega) with
    | y :: r', hy =>
      obtain rfl : y = x := by simpa using hy
      rw [lebG] at e ⊢
      split at e
      next c1 =>
        rw [if_pos c1]
        split at e
        next c2 => rw [if_pos c2]; exact e
        next => cases e
      next c1 =>
        rw [if_neg c1]
        split at e
        next => cases e
        next c2 =>
        rw [if_neg c2]
        cases hr : lebG lst r (l - 7) with
        | error e' => rw [hr] at e; cases e
        | ok z =>
          obtain ⟨m', h', c'⟩ := z
          rw [hr] at e
          simp at e
          rw [lebG_same r r' (l - 7) m' h' c' hr (fun i hi => by simpa using hA (i + 1) (by omega))]
          simp [e]
    | [], hy => simp at hy
theorem lebG_cut {lst : Int → Int → Bool} : ∀ (R : List Int) (l m h c k : Nat), lebG lst R l = .ok (m, h, c) → k < c → lebG lst (R.take k) l = .error 100
  | [], l, m, h, c, k, e, _ => by simp [lebG] at e
  | x :: r, l, m, h, c, 0, e, _ => rfl
  | x :: r, l, m, h, c, k + 1, e, hk => by
    rw [List.take_succ_cons]
    rw [lebG] at e ⊢
    split at e
    next c1 =>
      split at e
      next c2 => simp at e; omega
      next => cases e
    next c1 =>
      rw [if_neg c1]
      split at e
      next => cases e
      next c2 =>
      rw [if_neg c2]
      cases hr : lebG lst r (l - 7) with
      | error e' => rw [hr] at e; cases e
      | ok z =>
        obtain ⟨m', h', c'⟩ := z
        rw [hr] at e
        simp at e
        rw [lebG_cut r (l - 7) m' h' c' k hr (by omega)]
theorem lebG_err {lst : Int → Int → Bool} : ∀ (R : List Int) (l : Nat), lebG lst R l ≠ .error 0
  | [], l => by simp [lebG]
  | x :: r, l => by
    rw [lebG]
    split
    · split <;> simp
    · split
      · simp
      · have := lebG_err (lst := lst) r (l - 7)
        cases hr : lebG lst r (l - 7) with
        | error e' => rw [hr] at this; exact this
        | ok z => simp
theorem good_leb {M : List Int → Nat → Except Int (Nat × Nat)} (lst : Int → Int → Bool) (l : Nat) (g : Nat → Nat → Except Int Nat) (hg : ∀ m h, g m h ≠ .error 0)
    (hM : ∀ B a, M B a = match lebG lst (B.drop a) l with | .error e => .error e | .ok (m, h, c) => (match g m h with | .error e => .error e | .ok n => .ok (n, a + c))) : Good (fun B a e => rdOf (M B a) a e) := by
  have key : ∀ B a n nx, M B a = .ok (n, nx) → ∃ m h c, lebG lst (B.drop a) l = .ok (m, h, c) ∧ g m h = .ok n ∧ nx = a + c := fun B a n nx hh => by
    rw [hM] at hh
    cases hr : lebG lst (B.drop a) l with
    | error e => rw [hr] at hh; cases hh
    | ok z =>
      obtain ⟨m, h, c⟩ := z
      rw [hr] at hh
      try simp only at hh
      cases hgm : g m h with
      | error e => rw [hgm] at hh; cases hh
      | ok y => rw [hgm] at hh; simp at hh; exact ⟨m, h, c, rfl, by rw [hgm, hh.1], hh.2.symm⟩
  have back : ∀ B a m h c n, lebG lst (B.drop a) l = .ok (m, h, c) → g m h = .ok n → M B a = .ok (n, a + c) := fun B a m h c n h1 h2 => by rw [hM, h1]; simp only [h2]
  refine good_rdOf (fun B a n nx ha hh => ?_) (fun B B' a n nx ha hh hA => ?_) (fun B a k n nx ha hh hk hk2 => ?_) (fun P B a n nx ha hh => ?_) (fun B a hh => ?_)
  · obtain ⟨m, h, c, h1, h2, rfl⟩ := key B a n nx hh
    have := lebG_c _ _ _ _ _ h1
    rw [List.length_drop] at this
    omega
  · obtain ⟨m, h, c, h1, h2, rfl⟩ := key B a n nx hh
    exact back B' a m h c n (lebG_same _ _ _ _ _ _ h1 (fun i hi => by rw [List.getElem?_drop, List.getElem?_drop]; exact hA _ (by omega))) h2
  · obtain ⟨m, h, c, h1, h2, rfl⟩ := key B a n nx hh
    rw [hM, List.drop_take, lebG_cut _ _ _ _ _ (k - a) h1 (by omega)]
  · obtain ⟨m, h, c, h1, h2, rfl⟩ := key B a n nx hh
    have := back (P ++ B) (P.length + a) m h c n (by rw [List.drop_append, List.drop_eq_nil_of_le (by omega), Nat.add_sub_cancel_left, List.nil_append]; exact h1) h2
    rw [this, Nat.add_assoc]
  · rw [hM] at hh
    cases hr : lebG lst (B.drop a) l with
    | error e => rw [hr] at hh; exact lebG_err _ _ (hr.trans (by simpa using hh))
    | ok z =>
      obtain ⟨m, h, c⟩ := z
      rw [hr] at hh
      try simp only at hh
      cases hgm : g m h with
      | error e => rw [hgm] at hh; exact hg m h (hgm.trans (by simpa using hh))
      | ok y => rw [hgm] at hh; cases hh
theorem Good.of0 {α : Type} {R S : Rr α} (hS : Good S) (hb : ∀ B a e, e ≠ 0 → (R B a e).2.2 = e) (h0 : ∀ B a, R B a 0 = S B a 0) : Good R :=
  hS.congr (fun B a e => by by_cases he : e = 0; · rw [he, h0]
                            · rw [hb B a e he, hS.bad B a e he]) (fun B a _ => h0 B a)
theorem good_u32 : Good (fun B a e => rdOf (u32M B a) a e) := good_leb lstU 32 (fun m _ => .ok (m % 18446744073709551616)) (fun _ _ h => by cases h) (fun B a => by
  unfold u32M uintM; cases lebG lstU (B.drop a) 32 <;> rfl)
theorem good_s32 : Good (fun B a e => rdOf (s32M B a) a e) := good_leb lstS 32 (fun m h => .ok (sgnV m h % 4294967296)) (fun _ _ h => by cases h) (fun B a => by
  unfold s32M sintM; cases lebG lstS (B.drop a) 32 <;> rfl)
theorem good_s64 : Good (fun B a e => rdOf (s64M B a) a e) := good_leb lstS 64 (fun m h => .ok (sgnV m h)) (fun _ _ h => by cases h) (fun B a => by
  unfold s64M sintM; cases lebG lstS (B.drop a) 64 <;> rfl)
theorem good_count : Good (fun B a e => rdOf (countM B a) a e) := good_leb lstU 32 (fun m _ => if m % 18446744073709551616 > 4096 then .error 3 else .ok (m % 18446744073709551616)) (fun m _ h => by split at h <;> cases h) (fun B a => by
  unfold countM u32M uintM
  cases lebG lstU (B.drop a) 32 with
  | error e => rfl
  | ok y => simp only; split <;> rfl)
theorem good_fix (n : Nat) : Good (fun B a e => rdOf (fixM B a n) a e) := by
  have key : ∀ B a v nx, fixM B a n = .ok (v, nx) → a + n ≤ B.length ∧ v = leN ((B.drop a).take n) ∧ nx = a + n := fun B a v nx h => by
    unfold fixM at h
    split at h
    next c => cases h; exact ⟨c, rfl, rfl⟩
    next => cases h
  refine good_rdOf (fun B a v nx ha hh => ?_) (fun B B' a v nx ha hh hA => ?_) (fun B a k v nx ha hh hk hk2 => ?_) (fun P B a v nx ha hh => ?_) (fun B a hh => ?_)
  · have := key B a v nx hh; omega
  · obtain ⟨h1, rfl, rfl⟩ := key B a v nx hh
    have hl := hA.len h1
    unfold fixM
    rw [if_pos hl]
    have : (B'.drop a).take n = (B.drop a).take n := by
      apply List.ext_getElem?
      intro i
      simp only [List.getElem?_take, List.getElem?_drop]
      split
      · exact hA _ (by omega)
      · rfl
    rw [this]
  · obtain ⟨h1, rfl, rfl⟩ := key B a v nx hh
    unfold fixM
    rw [if_neg (by rw [List.length_take]; omega)]
  · obtain ⟨h1, rfl, rfl⟩ := key B a v nx hh
    unfold fixM
    rw [if_pos (by rw [List.length_append]; omega), List.drop_append, List.drop_eq_nil_of_le (by omega), Nat.add_sub_cancel_left, List.nil_append, Nat.add_assoc]
  · unfold fixM at hh
    split at hh <;> cases hh
theorem good_res : Good (fun B a e => rdOf (resM B a) a e) := by
  have key : ∀ B a v nx, resM B a = .ok (v, nx) → ∃ x, B[a]? = some x ∧ nx = a + 1 := fun B a v nx h => by
    unfold resM amongM at h
    cases hx : B[a]? with
    | none => rw [hx] at h; cases h
    | some x =>
      rw [hx] at h
      try simp only at h
      split at h
      · cases h
      next h' => split at h' <;> cases h'; cases h; exact ⟨x, rfl, rfl⟩
  have cong : ∀ B B' a, B'[a]? = B[a]? → resM B' a = resM B a := fun B B' a h => by unfold resM amongM; rw [h]
  refine good_rdOf (fun B a v nx ha hh => ?_) (fun B B' a v nx ha hh hA => ?_) (fun B a k v nx ha hh hk hk2 => ?_) (fun P B a v nx ha hh => ?_) (fun B a hh => ?_)
  · obtain ⟨x, hx, rfl⟩ := key B a v nx hh
    have := (List.getElem?_eq_some_iff.1 hx).1
    omega
  · obtain ⟨x, hx, rfl⟩ := key B a v nx hh
    rw [cong B B' a (hA a (by omega))]; exact hh
  · obtain ⟨x, hx, rfl⟩ := key B a v nx hh
    unfold resM amongM
    rw [List.getElem?_take, if_neg (by omega)]
  · obtain ⟨x, hx, rfl⟩ := key B a v nx hh
    have e : (P ++ B)[P.length + a]? = B[a]? := by rw [List.getElem?_append_right (by omega), Nat.add_sub_cancel_left]
    unfold resM amongM at hh ⊢
    rw [e]
    rw [hx] at hh ⊢
    try simp only at hh ⊢
    split at hh
    · cases hh
    next h' =>
      split at h'
      next c => rw [if_pos c]; cases h'; cases hh; rfl
      next => cases h'
  · unfold resM amongM at hh
    cases hx : B[a]? with
    | none => rw [hx] at hh; cases hh
    | some x =>
      rw [hx] at hh
      try simp only at hh
      split at hh
      next h' => split at h' <;> cases h'; cases hh
      next => cases hh
def zeroR : Rr Unit := fun B a e => ((), zeroM B a e)
theorem good_zero : Good zeroR := by
  refine (Good.bind (f := fun _ _ => ()) good_byte (S := fun x => fun B a e => if x = 0 then ((), a, e) else ((), a, if e = 0 then 107 else e)) (fun x => Good.ite (Good.pure ()) (Good.fail () 107 (by decide)))).congr (fun B a e => ?_) (fun B a h => ?_)
  · by_cases he : e = 0
    · subst he
      cases hx : B[a]? with
      | none => rw [byteR_none hx]; simp [zeroR, zeroM, hx]
      | some x => rw [byteR_some hx]; simp only [zeroR, zeroM, hx]; by_cases h : x = 0 <;> simp [h]
    · rw [show byteR B a e = (0, a, e) from by simp [byteR, he]]
      simp [zeroR, zeroM, he]
  · cases hx : B[a]? with
    | none => rw [byteR_none hx] at h; simp at h
    | some x =>
      rw [byteR_some hx] at h ⊢
      by_cases h2 : x = 0
      · simp [zeroR, zeroM, hx, h2]
      · simp [h2] at h
theorem good_lab : ∀ (k : Nat) (acc : List Int), Good (fun B a e => labM B k a e acc)
  | 0, acc => Good.pure acc
  | k + 1, acc => by
    refine (Good.bind (f := fun _ y => y) good_u32 (S := fun v => fun B a e => labM B k a e (acc ++ [v])) (fun v => good_lab k _)).of0 (fun B a e he => ?_) (fun B a => ?_)
    · rw [labM_bad _ _ _ _ _ he]
    · rw [labM, if_pos rfl]
theorem good_labels : Good (fun B a e => labelsM B a e) := Good.bind (f := fun _ y => y) good_count (S := fun (n : Int) => fun B a e => labM B n.toNat a e []) (fun n => good_lab _ _)
def secondR : Rr Int := fun B a e => secondM B a e
theorem good_second : Good secondR := by
  refine (Good.bind (f := fun _ y => y) good_u32 (S := fun n => fun B a e => if n > 7 then (64512 + n, a, if e = 0 then 108 else e) else (64512 + n, a, e)) (fun n => Good.ite (Good.fail _ 108 (by decide)) (Good.pure _))).congr (fun B a e => ?_) (fun B a h => ?_)
  · simp only [secondR, secondM]
    split <;> rfl
  · simp only [secondR, secondM] at h ⊢
    split <;> rfl
def opT (sat : Bool) (deep : Nat) (b : Int) : Rr Int := fun B a e =>
  if (immM b).1 = 1 ∧ 64 ≤ deep then (0, a, if e = 0 then 3 else e) else if b = 252 ∧ sat = true then ((secondR B (byteR B a e).2.1 (byteR B a e).2.2).1, (secondR B (byteR B a e).2.1 (byteR B a e).2.2).2)
  else if (immM b).2 = true then byteR B a e else (0, a, if e = 0 then 108 else e)
theorem good_opT (sat : Bool) (deep : Nat) (b : Int) : Good (opT sat deep b) :=
  Good.ite (Good.fail _ 3 (by decide)) (Good.ite (Good.bind (f := fun _ y => y) good_byte (S := fun _ => secondR) (fun _ => good_second)) (Good.ite good_byte (Good.fail _ 108 (by decide))))
theorem opT_gt (sat : Bool) (deep : Nat) (b : Int) (B : List Int) (a : Nat) (hx : B[a]? = some b) (h : (opT sat deep b B a 0).2.2 = 0) : a < (opT sat deep b B a 0).2.1 := by
  have hl := (List.getElem?_eq_some_iff.1 hx).1
  unfold opT at h ⊢
  rw [byteR_some hx] at h ⊢
  split at h
  next => exact absurd h (by simp)
  next c =>
  rw [if_neg c]
  split at h
  next c1 =>
    rw [if_pos c1]
    have := good_second.le B (a + 1) (by omega) h
    try simp only
    omega
  next c1 =>
  rw [if_neg c1]
  split at h
  next c2 => rw [if_pos c2]; simp
  next => exact absurd h (by simp)
def opR (sat : Bool) (deep : Nat) : Rr Int := fun B a e => opM sat B a (deepE B deep a e)
theorem opR_bad (sat : Bool) (deep : Nat) (B : List Int) (a : Nat) (e : Int) (he : e ≠ 0) : opR sat deep B a e = (0, a, e) := by
  simp [opR, opM, deepE, peekM, he]
theorem opR_look (sat : Bool) (deep : Nat) (B : List Int) (a : Nat) : opR sat deep B a 0 = lookR (opT sat deep) B a 0 := by
  cases hx : B[a]? with
  | none => simp [opR, opM, deepE, peekM, hx, lookR]
  | some b =>
    have hp0 : peekM B a 0 = (b, 0) := by simp [peekM, hx]
    have hp3 : peekM B a 3 = (0, 3) := by simp [peekM]
    have hd : deepE B deep a 0 = if (immM b).1 = 1 ∧ 64 ≤ deep then 3 else 0 := by simp only [deepE, hp0]; by_cases c : (immM b).1 = 1 ∧ 64 ≤ deep <;> simp [c]
    rw [show lookR (opT sat deep) B a 0 = opT sat deep b B a 0 from by simp [lookR, hx], show opR sat deep B a 0 = opM sat B a (deepE B deep a 0) from rfl, hd]
    unfold opT
    by_cases c : (immM b).1 = 1 ∧ 64 ≤ deep
    · rw [if_pos c, if_pos c]; simp [opM, hp3]
    · rw [if_neg c, if_neg c, byteR_some hx]; simp only [opM, hp0, if_true]; rfl
theorem good_op (sat : Bool) (deep : Nat) : Good (opR sat deep) :=
  (Good.look (opT sat deep) (good_opT sat deep) (fun b B a => opT_gt sat deep b B a)).of0 (fun B a e he => by rw [opR_bad _ _ _ _ _ he]) (fun B a => opR_look sat deep B a)
theorem op_gt {sat : Bool} {deep : Nat} {B : List Int} {a : Nat} (h : (opR sat deep B a 0).2.2 = 0) : a < (opR sat deep B a 0).2.1 := by
  rw [opR_look] at h ⊢
  cases hx : B[a]? with
  | none => simp [lookR, hx] at h
  | some b =>
    simp only [lookR, hx, if_true] at h ⊢
    exact opT_gt sat deep b B a hx h
abbrev Bk := List Int → Bool → Nat → Int → List Ins × Int × Nat × Int
def bkR (bk : Bk) (m : Bool) : Rr (List Ins × Int) := fun B a e => (((bk B m a e).1, (bk B m a e).2.1), (bk B m a e).2.2.1, (bk B m a e).2.2.2)
def bodyR (bk : Bk) (op i : Int) : Rr Ins := fun B a e => if e = 0 then bodyM (bk B) B op i a else (leafI op, a, e)
theorem good_body (bk : Bk) (hbk : ∀ m, Good (bkR bk m)) (op i : Int) : Good (bodyR bk op i) := by
  have hb : ∀ (B : List Int) (a : Nat) (e : Int), e ≠ 0 → (bodyR bk op i B a e).2.2 = e := fun B a e he => by simp [bodyR, he]
  by_cases h1 : i = 1
  · refine (Good.bind (f := fun _ y => y) good_res (S := fun t => fun B a e =>
      ((if (bkR bk (op == 4) B a e).1.2 = 5 then ((Ins.mk op t 0 0 0 [] (bkR bk (op == 4) B a e).1.1 (bkR bk false B (bkR bk (op == 4) B a e).2.1 (bkR bk (op == 4) B a e).2.2).1.1 true), (bkR bk false B (bkR bk (op == 4) B a e).2.1 (bkR bk (op == 4) B a e).2.2).2)
        else ((Ins.mk op t 0 0 0 [] (bkR bk (op == 4) B a e).1.1 [] false), (bkR bk (op == 4) B a e).2)) : Ins × Nat × Int))
      (fun t => (Good.bind (f := fun _ y => y) (hbk (op == 4)) (S := fun v => fun B a e => if v.2 = 5 then (Ins.mk op t 0 0 0 [] v.1 (bkR bk false B a e).1.1 true, (bkR bk false B a e).2) else (Ins.mk op t 0 0 0 [] v.1 [] false, a, e))
        (fun v => Good.ite ((hbk false).map (fun y => Ins.mk op t 0 0 0 [] v.1 y.1 true)) (Good.pure (Ins.mk op t 0 0 0 [] v.1 [] false)))).congr (fun B a e => rfl) (fun B a _ => rfl))).of0 hb (fun B a => ?_)
    rw [show bodyR bk op i B a 0 = (if (bkR bk (op == 4) B (rdOf (resM B a) a 0).2.1 (rdOf (resM B a) a 0).2.2).1.2 = 5 then
        ((Ins.mk op (rdOf (resM B a) a 0).1 0 0 0 [] (bkR bk (op == 4) B (rdOf (resM B a) a 0).2.1 (rdOf (resM B a) a 0).2.2).1.1 (bkR bk false B (bkR bk (op == 4) B (rdOf (resM B a) a 0).2.1 (rdOf (resM B a) a 0).2.2).2.1 (bkR bk (op == 4) B (rdOf (resM B a) a 0).2.1 (rdOf (resM B a) a 0).2.2).2.2).1.1 true), (bkR bk false B (bkR bk (op == 4) B (rdOf (resM B a) a 0).2.1 (rdOf (resM B a) a 0).2.2).2.1 (bkR bk (op == 4) B (rdOf (resM B a) a 0).2.1 (rdOf (resM B a) a 0).2.2).2.2).2)
        else ((Ins.mk op (rdOf (resM B a) a 0).1 0 0 0 [] (bkR bk (op == 4) B (rdOf (resM B a) a 0).2.1 (rdOf (resM B a) a 0).2.2).1.1 [] false), (bkR bk (op == 4) B (rdOf (resM B a) a 0).2.1 (rdOf (resM B a) a 0).2.2).2)) from by
      unfold bodyR bodyM
      rw [if_pos rfl, if_pos h1]
      rfl]
  · have hz : ∀ (B : List Int) (a : Nat), bodyR bk op i B a 0 = bodyM (bk B) B op i a := fun B a => by simp [bodyR]
    by_cases c2 : i = 2 ∨ i = 4
    · refine (good_u32.map (fun v => Ins.mk op 0 v 0 0 [] [] [] false)).of0 hb (fun B a => ?_)
      rw [hz]; unfold bodyM; rw [if_neg h1, if_pos c2]
    by_cases c3 : i = 3
    · refine (Good.bind (f := fun _ y => y) good_labels (S := fun l => fun B a e => (Ins.mk op 0 (rdOf (u32M B a) a e).1 0 0 l [] [] false, (rdOf (u32M B a) a e).2)) (fun l => good_u32.map (fun w => Ins.mk op 0 w 0 0 l [] [] false))).of0 hb (fun B a => ?_)
      rw [hz]; unfold bodyM; rw [if_neg h1, if_neg c2, if_pos c3]
    by_cases c5 : i = 5
    · refine (Good.bind (f := fun v _ => Ins.mk op 0 v 0 0 [] [] [] false) good_u32 (S := fun _ => zeroR) (fun _ => good_zero)).of0 hb (fun B a => ?_)
      rw [hz]; unfold bodyM; rw [if_neg h1, if_neg c2, if_neg c3, if_pos c5]; rfl
    by_cases c6 : i = 6
    · refine (Good.bind (f := fun v u => Ins.mk op 0 v u 0 [] [] [] false) good_u32 (S := fun _ => fun B a e => rdOf (u32M B a) a e) (fun _ => good_u32)).of0 hb (fun B a => ?_)
      rw [hz]; unfold bodyM; rw [if_neg h1, if_neg c2, if_neg c3, if_neg c5, if_pos c6]
    by_cases c7 : i = 7
    · refine (good_zero.map (fun _ => leafI op)).of0 hb (fun B a => ?_)
      rw [hz]; unfold bodyM; rw [if_neg h1, if_neg c2, if_neg c3, if_neg c5, if_neg c6, if_pos c7]; rfl
    by_cases c8 : i = 8
    · refine (good_s32.map (fun v => Ins.mk op 0 0 0 v [] [] [] false)).of0 hb (fun B a => ?_)
      rw [hz]; unfold bodyM; rw [if_neg h1, if_neg c2, if_neg c3, if_neg c5, if_neg c6, if_neg c7, if_pos c8]
    by_cases c9 : i = 9
    · refine (good_s64.map (fun v => Ins.mk op 0 0 0 v [] [] [] false)).of0 hb (fun B a => ?_)
      rw [hz]; unfold bodyM; rw [if_neg h1, if_neg c2, if_neg c3, if_neg c5, if_neg c6, if_neg c7, if_neg c8, if_pos c9]
    by_cases c10 : i = 10
    · refine ((good_fix 4).map (fun v => Ins.mk op 0 0 0 v [] [] [] false)).of0 hb (fun B a => ?_)
      rw [hz]; unfold bodyM; rw [if_neg h1, if_neg c2, if_neg c3, if_neg c5, if_neg c6, if_neg c7, if_neg c8, if_neg c9, if_pos c10]
    by_cases c11 : i = 11
    · refine ((good_fix 8).map (fun v => Ins.mk op 0 0 0 v [] [] [] false)).of0 hb (fun B a => ?_)
      rw [hz]; unfold bodyM; rw [if_neg h1, if_neg c2, if_neg c3, if_neg c5, if_neg c6, if_neg c7, if_neg c8, if_neg c9, if_neg c10, if_pos c11]
    · refine (Good.pure (leafI op)).of0 hb (fun B a => ?_)
      rw [hz]; unfold bodyM; rw [if_neg h1, if_neg c2, if_neg c3, if_neg c5, if_neg c6, if_neg c7, if_neg c8, if_neg c9, if_neg c10, if_neg c11]
def insR (bk : Bk) (sat : Bool) (deep : Nat) : Rr Ins := fun B a e => insM (bk B) sat B deep a e
theorem ins_parts (bk : Bk) (sat : Bool) (deep : Nat) (B : List Int) (a : Nat) (e : Int) : (insR bk sat deep B a e).2.2 = (bodyR bk (opR sat deep B a e).1 (immM (opR sat deep B a e).1).1 B (opR sat deep B a e).2.1 (opR sat deep B a e).2.2).2.2 ∧
    ((opR sat deep B a e).2.2 = 0 → insR bk sat deep B a e = bodyR bk (opR sat deep B a e).1 (immM (opR sat deep B a e).1).1 B (opR sat deep B a e).2.1 (opR sat deep B a e).2.2) := by
  rw [show insR bk sat deep B a e = if (opR sat deep B a e).2.2 = 0 then bodyM (bk B) B (opR sat deep B a e).1 (immM (opR sat deep B a e).1).1 (opR sat deep B a e).2.1 else (leafI 0, (opR sat deep B a e).2.1, (opR sat deep B a e).2.2) from rfl]
  generalize opR sat deep B a e = o
  unfold bodyR
  by_cases h : o.2.2 = 0 <;> simp [h]
theorem good_ins (bk : Bk) (hbk : ∀ m, Good (bkR bk m)) (sat : Bool) (deep : Nat) : Good (insR bk sat deep) := by
  refine (Good.bind (f := fun _ y => y) (good_op sat deep) (S := fun op => bodyR bk op (immM op).1) (fun op => good_body bk hbk op _)).congr (fun B a e => (ins_parts bk sat deep B a e).1) (fun B a h => (ins_parts bk sat deep B a 0).2 ?_)
  apply Classical.byContradiction
  intro hn
  rw [(good_body bk hbk _ _).bad _ _ _ hn] at h
  exact hn h
theorem ins_gt (bk : Bk) (hbk : ∀ m, Good (bkR bk m)) {sat : Bool} {deep : Nat} {B : List Int} {a : Nat} (ha : a ≤ B.length) (h : (insR bk sat deep B a 0).2.2 = 0) : a < (insR bk sat deep B a 0).2.1 := by
  have hp := ins_parts bk sat deep B a 0
  have h0 : (opR sat deep B a 0).2.2 = 0 := by
    apply Classical.byContradiction
    intro hn
    rw [hp.1, (good_body bk hbk _ _).bad _ _ _ hn] at h
    exact hn h
  rw [hp.2 h0] at h ⊢
  have g1 := op_gt h0
  have g2 := (good_op sat deep).le B a ha h0
  rw [h0] at h ⊢
  have g3 := (good_body bk hbk _ _).le _ _ g2.2 h
  omega
def bkF (sat : Bool) (f deep : Nat) : Bk := fun B m a e => blkM sat B f deep m a e []
def blkR (sat : Bool) (f deep : Nat) (may : Bool) (acc : List Ins) : Rr (List Ins × Int) := fun B a e => (((blkM sat B f deep may a e acc).1, (blkM sat B f deep may a e acc).2.1), (blkM sat B f deep may a e acc).2.2.1, (blkM sat B f deep may a e acc).2.2.2)
def blkT (sat : Bool) (f deep : Nat) (may : Bool) (acc : List Ins) (b : Int) : Rr (List Ins × Int) := fun B a e =>
  if b = 11 then ((acc, 11), (byteR B a e).2) else if b = 5 then (if may = true then ((acc, 5), (byteR B a e).2) else (([], 0), a, if e = 0 then 108 else e))
  else ((blkR sat f deep may (acc ++ [(insR (bkF sat f (deep + 1)) sat deep B a e).1]) B (insR (bkF sat f (deep + 1)) sat deep B a e).2.1 (insR (bkF sat f (deep + 1)) sat deep B a e).2.2).1,
    (blkR sat f deep may (acc ++ [(insR (bkF sat f (deep + 1)) sat deep B a e).1]) B (insR (bkF sat f (deep + 1)) sat deep B a e).2.1 (insR (bkF sat f (deep + 1)) sat deep B a e).2.2).2)
theorem blkR_bad (sat : Bool) (f deep : Nat) (may : Bool) (acc : List Ins) (B : List Int) (a : Nat) (e : Int) (he : e ≠ 0) : blkR sat f deep may acc B a e = (([], 0), a, e) := by
  cases f with
  | zero => simp [blkR, blkM]
  | succ f => simp [blkR, blkM, he]
theorem blkR_look (sat : Bool) (f deep : Nat) (may : Bool) (acc : List Ins) (B : List Int) (a : Nat) :
    (blkR sat (f + 1) deep may acc B a 0).2.2 = (lookR (blkT sat f deep may acc) B a 0).2.2 ∧ ((lookR (blkT sat f deep may acc) B a 0).2.2 = 0 → blkR sat (f + 1) deep may acc B a 0 = lookR (blkT sat f deep may acc) B a 0) := by
  cases hx : B[a]? with
  | none => simp [blkR, blkM, lookR, hx]
  | some b =>
    simp only [blkR, blkM, lookR, hx, blkT, if_true, byteR_some hx]
    by_cases c : b = 11
    · simp [c]
    by_cases c5 : b = 5
    · subst c5
      rw [if_neg c, if_neg c]
      simp only [if_true]
      split <;> exact ⟨rfl, fun _ => rfl⟩
    · rw [if_neg c, if_neg c, if_neg c5, if_neg c5]
      show (_ ∧ _)
      have hi : insM (fun m a' e' => blkM sat B f (deep + 1) m a' e' []) sat B deep a 0 = insR (bkF sat f (deep + 1)) sat deep B a 0 := rfl
      rw [hi]
      by_cases h0 : (insR (bkF sat f (deep + 1)) sat deep B a 0).2.2 = 0
      · rw [if_pos h0, h0]
        exact ⟨rfl, fun _ => rfl⟩
      · rw [if_neg h0, show blkM sat B f deep may (insR (bkF sat f (deep + 1)) sat deep B a 0).2.1 (insR (bkF sat f (deep + 1)) sat deep B a 0).2.2 (acc ++ [(insR (bkF sat f (deep + 1)) sat deep B a 0).1]) = ([], 0, (insR (bkF sat f (deep + 1)) sat deep B a 0).2.1, (insR (bkF sat f (deep + 1)) sat deep B a 0).2.2) from by
          cases f with
          | zero => rfl
          | succ f => rw [blkM, if_neg h0]]
        exact ⟨rfl, fun h => rfl⟩
theorem good_blk (sat : Bool) : ∀ (f deep : Nat) (may : Bool) (acc : List Ins), Good (blkR sat f deep may acc)
  | 0, deep, may, acc => Good.pure ([], 0)
  | f + 1, deep, may, acc => by
    have hbk : ∀ m, Good (bkR (bkF sat f (deep + 1)) m) := fun m => good_blk sat f (deep + 1) m []
    refine (Good.look (blkT sat f deep may acc) (fun b => ?_) (fun b B a hx h => ?_)).congr (fun B a e => ?_) (fun B a h => (blkR_look sat f deep may acc B a).2 h)
    · exact Good.ite (good_byte.map (fun _ => (acc, 11))) (Good.ite (Good.ite (good_byte.map (fun _ => (acc, 5))) (Good.fail _ 108 (by decide))) (Good.bind (f := fun _ y => y) (good_ins _ hbk sat deep) (S := fun x => blkR sat f deep may (acc ++ [x])) (fun x => good_blk sat f deep may _)))
    · have hl := (List.getElem?_eq_some_iff.1 hx).1
      unfold blkT at h ⊢
      rw [byteR_some hx] at h ⊢
      split at h
      next c => rw [if_pos c]; simp
      next c =>
      rw [if_neg c]
      split at h
      next c5 =>
        rw [if_pos c5]
        split at h
        next c6 => rw [if_pos c6]; simp
        next => exact absurd h (by simp)
      next c5 =>
      rw [if_neg c5]
      have h0 : (insR (bkF sat f (deep + 1)) sat deep B a 0).2.2 = 0 := by
        apply Classical.byContradiction
        intro hn
        rw [(good_blk sat f deep may _).bad _ _ _ hn] at h
        exact hn h
      have g1 := ins_gt _ hbk (by omega) h0
      have g2 := (good_ins _ hbk sat deep).le B a (by omega) h0
      rw [h0] at h ⊢
      have g3 := (good_blk sat f deep may _).le _ _ g2.2 h
      try simp only
      omega
    · by_cases he : e = 0
      · subst he; exact (blkR_look sat f deep may acc B a).1
      · rw [blkR_bad _ _ _ _ _ _ _ _ he]; simp [lookR, he]
end Go.Proofs.YtofaiocffifhfaaGreat
end
section
namespace Go.Proofs.YtofaiocffifhfaaGreat
open Go.RowKit YtofaiocffifhfaaGreatB
def tE (en : Int) : Nat := if en = 0 then 0 else 1
theorem bkF_app (sat : Bool) (f d : Nat) (B : List Int) : bkF sat f d B = fun m a' e' => blkM sat B f d m a' e' [] := rfl
theorem u32_gt {B : List Int} {a : Nat} (h : (rdOf (u32M B a) a 0).2.2 = 0) : a < (rdOf (u32M B a) a 0).2.1 := by
 unfold rdOf at h ⊢
 rw [if_pos rfl] at h ⊢
 unfold u32M uintM at h ⊢
 cases hr : lebG lstU (B.drop a) 32 with
 | error e =>
  rw [hr] at h
  simp only [numE] at h
  rw [h] at hr
  exact absurd hr (lebG_err _ _)
 | ok y =>
  obtain ⟨m, hh, c⟩ := y
  have := lebG_c _ _ _ _ _ hr
  simp only [numA]
  omega
theorem bkL_append : ∀ (l m : List Ins), bkL (l ++ m) = bkL l + bkL m
 | [], m => by simp [bkL]
 | x :: l, m => by rw [List.cons_append, bkL, bkL, bkL_append l m]; omega
theorem bkL_one (x : Ins) : bkL [x] = bkI x := by simp [bkL]
theorem lab_len {B : List Int} : ∀ (k a : Nat) (acc : List Int), a ≤ B.length → (labM B k a 0 acc).2.2 = 0 → (labM B k a 0 acc).1.length + a ≤ acc.length + (labM B k a 0 acc).2.1
 | 0, a, acc, ha, h => Nat.le_refl _
 | k + 1, a, acc, ha, h => by
  rw [labM, if_pos rfl] at h ⊢
  have e1 : (rdOf (u32M B a) a 0).2.2 = 0 := by
   apply Classical.byContradiction
   intro hn
   rw [labM_bad _ _ _ _ _ hn] at h
   exact hn h
  have g1 := good_u32.le B a ha e1
  try simp only at g1
  have g2 := u32_gt e1
  rw [e1] at h ⊢
  have ih := lab_len k _ (acc ++ [(rdOf (u32M B a) a 0).1]) g1.2 h
  rw [List.length_append, List.length_singleton] at ih
  omega
theorem labels_len {B : List Int} {a : Nat} (ha : a ≤ B.length) (h : (labelsM B a 0).2.2 = 0) : (labelsM B a 0).1.length + a ≤ (labelsM B a 0).2.1 := by
 unfold labelsM at h ⊢
 have e1 : (rdOf (countM B a) a 0).2.2 = 0 := by
  apply Classical.byContradiction
  intro hn
  rw [labM_bad _ _ _ _ _ hn] at h
  exact hn h
 have g1 := good_count.le B a ha e1
 try simp only at g1
 rw [e1] at h ⊢
 have := lab_len _ _ [] g1.2 h
 rw [List.length_nil] at this
 omega
theorem body_size {bk : Bk} {B : List Int} {op i : Int} {a : Nat} (ha : a ≤ B.length) (hg : ∀ m, Good (bkR bk m)) (hs : ∀ m a', a' ≤ B.length → (bk B m a' 0).2.2.2 = 0 → bkL (bk B m a' 0).1 + a' ≤ (bk B m a' 0).2.2.1)
  (h : (bodyM (bk B) B op i a).2.2 = 0) : bkI (bodyM (bk B) B op i a).1 + a ≤ (bodyM (bk B) B op i a).2.1 + 1 := by
 by_cases h1 : i = 1
 ·unfold bodyM at h ⊢
  simp only [h1, if_true] at h ⊢
  have hb : ∀ m a' e', (bk B m a' e').2.2.2 = 0 → e' = 0 := fun m a' e' hh => by
   apply Classical.byContradiction
   intro hn
   have := (hg m).bad B a' e' hn
   simp only [bkR] at this
   exact hn (this.symm.trans hh)
  split at h
  next c5 =>
   rw [if_pos c5]
   have e1 := hb _ _ _ h
   have e0 := hb _ _ _ e1
   have g1 := good_res.le B a ha e0
   try simp only at g1
   rw [e0] at e1 c5 ⊢
   have g2 := (hg (op == 4)).le B _ g1.2 e1
   simp only [bkR] at g2
   have s1 := hs _ _ g1.2 e1
   rw [e0, e1] at h
   rw [e1]
   have s2 := hs _ _ g2.2 h
   rw [bkI]
   simp only [List.length_nil]
   omega
  next c5 =>
   rw [if_neg c5]
   have e0 := hb _ _ _ h
   have g1 := good_res.le B a ha e0
   try simp only at g1
   rw [e0] at h ⊢
   have s1 := hs _ _ g1.2 h
   rw [bkI, bkL]
   simp only [List.length_nil]
   omega
 ·have hb := (good_body bk hg op i).le B a ha (by unfold bodyR; rw [if_pos rfl]; exact h)
  unfold bodyR at hb
  rw [if_pos rfl] at hb
  by_cases h3 : i = 3
  ·unfold bodyM at h hb ⊢
   subst h3
   simp only [show ¬((3 : Int) = 1) from by omega, show ¬((3 : Int) = 2 ∨ (3 : Int) = 4) from by omega, if_false, if_true] at h hb ⊢
   have e2 : (labelsM B a 0).2.2 = 0 := by
    apply Classical.byContradiction
    intro hn
    have := good_u32.bad B (labelsM B a 0).2.1 _ hn
    try simp only at this
    exact hn (this.symm.trans h)
   have g1 := good_labels.le B a ha e2
   try simp only at g1
   have g3 := labels_len ha e2
   rw [e2] at h
   have g2 := good_u32.le B _ g1.2 h
   try simp only at g2
   rw [e2]
   simp only [bkI, bkL]
   omega
  ·have : bkI (bodyM (bk B) B op i a).1 = 1 := by
    unfold bodyM
    simp only [h1, if_false, h3]
    repeat' split
    all_goals rfl
   omega
theorem ins_size {bk : Bk} {sat : Bool} {B : List Int} {deep a : Nat} (ha : a ≤ B.length) (hg : ∀ m, Good (bkR bk m)) (hs : ∀ m a', a' ≤ B.length → (bk B m a' 0).2.2.2 = 0 → bkL (bk B m a' 0).1 + a' ≤ (bk B m a' 0).2.2.1)
  (h : (insM (bk B) sat B deep a 0).2.2 = 0) : bkI (insM (bk B) sat B deep a 0).1 + a ≤ (insM (bk B) sat B deep a 0).2.1 := by
 unfold insM at h ⊢
 simp only at h ⊢
 split at h
 next c =>
  rw [if_pos c]
  have g1 := op_gt (sat := sat) (deep := deep) (B := B) (a := a) c
  have g2 := (good_op sat deep).le B a ha c
  simp only [opR] at g1 g2
  have := body_size g2.2 hg hs h
  omega
 next c => exact absurd h c
theorem blk_size {sat : Bool} {B : List Int} : ∀ (f deep : Nat) (may : Bool) (a : Nat) (acc : List Ins), a ≤ B.length → (blkM sat B f deep may a 0 acc).2.2.2 = 0 →
  bkL (blkM sat B f deep may a 0 acc).1 + a + tE (blkM sat B f deep may a 0 acc).2.1 ≤ bkL acc + (blkM sat B f deep may a 0 acc).2.2.1
 | 0, deep, may, a, acc, ha, h => by simp [blkM, bkL, tE]
 | f + 1, deep, may, a, acc, ha, h => by
  rw [blkM] at h ⊢
  simp only [if_true] at h ⊢
  cases hx : B[a]? with
  | none => rw [hx] at h; exact absurd h (by simp)
  | some b =>
   rw [hx] at h
   simp only at h ⊢
   by_cases c : b = 11
   ·rw [if_pos c]; simp [tE]; omega
   rw [if_neg c] at h ⊢
   by_cases c5 : b = 5
   ·rw [if_pos c5] at h ⊢
    cases may
    ·exact absurd h (by simp)
    ·simp [tE]; omega
   rw [if_neg c5] at h ⊢
   have hg : ∀ m, Good (bkR (bkF sat f (deep + 1)) m) := fun m => good_blk sat f (deep + 1) m []
   by_cases h0 : (insM (fun m a' e' => blkM sat B f (deep + 1) m a' e' []) sat B deep a 0).2.2 = 0
   ·rw [if_pos h0] at h ⊢
    have g2 := (good_ins (bkF sat f (deep + 1)) hg sat deep).le B a ha h0
    have g3 := ins_size (bk := bkF sat f (deep + 1)) ha hg (fun m a' ha' hh => by have := blk_size f (deep + 1) m a' [] ha' hh; simp only [bkL, bkF_app] at this ⊢; omega) h0
    simp only [insR, bkF_app] at g2 g3
    have ih := blk_size f deep may _ _ g2.2 h
    rw [bkL_append, bkL_one] at ih
    omega
   ·rw [if_neg h0] at h
    exact absurd h h0
-- What an expression's reader says.
end Go.Proofs.YtofaiocffifhfaaGreat
end
section
namespace Go.Proofs.YtofaiocffifhfaaGreat
open Go.RowKit Go.Shelf YtofaiocffifhfaaGreatB Go.Proofs.YtofaiocffifhfaaGreatW.PrintWords
theorem locM_len20 {B : List Int} (hB : Byts B) (a : Nat) (e : Int) : (locM B a e).1.length ≤ 1024 := by
 unfold locM
 dsimp only
 split
 ·split
  ·simp
  ·split
   ·simp
   ·rename_i h1 h2
    have := expand_len _ (fun x hx => (grpsM_all hB (rdOf (countM B a) a e).1.toNat (rdOf (countM B a) a e).2.1 (rdOf (countM B a) a e).2.2 x hx).1.1)
    unfold sumG at h2
    dsimp only
    omega
 ·simp
theorem expr_bkA {sat : Bool} {B : List Int} (a : Nat) (e : Int) : bkL (exprM sat B a e).1 ≤ B.length := by
 by_cases he : e = 0
 ·subst he
  unfold exprM
  dsimp only
  split
  next h0 =>
   by_cases ha : a ≤ B.length
   ·have hL := (good_blk sat (B.length + 1) 0 false []).le B a ha h0
    have hS := blk_size (sat := sat) (B := B) (B.length + 1) 0 false a [] ha h0
    simp only [blkR] at hL
    simp only [bkL] at hS
    omega
   ·have h1 := blkR_look sat B.length 0 false [] B a
    unfold lookR at h1
    rw [if_pos rfl, List.getElem?_eq_none (by omega)] at h1
    simp only [blkR] at h1
    have h2 := h1.1
    rw [h0] at h2
    omega
  next => simp [bkL]
 ·unfold exprM
  rw [blkM_bad _ _ _ _ _ _ he]
  simp [he, bkL]
theorem lsM_all {α : Type} {P : α → Prop} (rd : Nat → Int → α × Nat × Int) (h : ∀ a e, P (rd a e).1) : ∀ (k a : Nat) (e : Int), ∀ x ∈ (lsM rd k a e).1, P x
 | 0, a, e, x, hx => by simp [lsM] at hx
 | k + 1, a, e, x, hx => by
  rw [lsM] at hx
  split at hx
  ·simp only [List.mem_cons] at hx
   rcases hx with rfl | hx
   ·exact h _ _
   ·exact lsM_all rd h k _ _ x hx
  ·simp at hx
theorem lsOf_all {α : Type} {P : α → Prop} (rd : Nat → Int → α × Nat × Int) (B : List Int) (h : ∀ a e, P (rd a e).1) (a : Nat) (e : Int) : ∀ x ∈ (lsOf rd B a e).1, P x := lsM_all rd h _ _ _
theorem tysM_len (B : List Int) : ∀ (k a : Nat) (e : Int), (tysM B k a e).1.length ≤ k
 | 0, a, e => by simp [tysM]
 | k + 1, a, e => by
  rw [tysM]
  split
  ·have := tysM_len B k (rdOf (valM B a) a 0).2.1 (rdOf (valM B a) a 0).2.2
   simp only [List.length_cons]
   omega
  ·simp
theorem tysOf_len {B : List Int} (hB : Byts B) (a : Nat) (e : Int) : (tysOf B a e).1.length ≤ 4096 := by
 have h1 := tysM_len B (rdOf (countM B a) a e).1.toNat (rdOf (countM B a) a e).2.1 (rdOf (countM B a) a e).2.2
 have h2 := countM_rd (a := a) (e := e) hB
 unfold tysOf
 omega
theorem funM_len {B : List Int} (hB : Byts B) (a : Nat) (e : Int) : (funM B a e).1.1.length ≤ 1048576 ∧ (funM B a e).1.2.length ≤ 1048576 := by
 have key : (fun1M B a).1.1.length ≤ 4096 ∧ (fun1M B a).1.2.length ≤ 4096 := by
  unfold fun1M
  dsimp only
  exact ⟨tysOf_len hB _ _, tysOf_len hB _ _⟩
 unfold funM
 split
 ·split
  ·exact ⟨by simp only; omega, by simp only; omega⟩
  ·simp
 ·simp
theorem take_len {B : List Int} (a n : Nat) (e : Int) : (rdL (takeM B a n) a e).1.length ≤ B.length := by
 unfold rdL takeM
 split
 ·split
  next l nx h =>
   split at h
   ·injection h with h
    injection h with h1 h2
    rw [← h1, List.length_take]
    simp only [List.length_drop]
    omega
   ·cases h
  next => simp
 ·simp
theorem piece_len {B : List Int} (a : Nat) (e : Int) : (pieceM B a e).1.length ≤ B.length := take_len _ _ _
structure SmM (M : ModD) : Prop where
 l0 : M.types.length ≤ 4096
 l1 : M.imports.length ≤ 4096
 l3 : M.tables.length ≤ 4096
 l4 : M.mems.length ≤ 4096
 l5 : M.globals.length ≤ 4096
 l6 : M.exports.length ≤ 4096
 l9 : M.elems.length ≤ 4096
 l10 : M.datas.length ≤ 4096
 l12 : M.bodies.length ≤ 4096
 t0 : ∀ x ∈ M.types, x.1.length ≤ 1048576 ∧ x.2.length ≤ 1048576
 b5 : ∀ x ∈ M.globals, bkL x.init ≤ 1048576
 b9 : ∀ x ∈ M.elems, bkL x.off ≤ 1048576 ∧ x.fns.length ≤ 1048576
 b10 : ∀ x ∈ M.datas, bkL x.off ≤ 1048576 ∧ x.bts.length ≤ 1048576
 b12 : ∀ x ∈ M.bodies, bkL x.body ≤ 1048576 ∧ x.loc.length ≤ 1048576
theorem smM_none : SmM {} := by constructor <;> simp
theorem bodM_small {sat : Bool} {B : List Int} (hB : Byts B) (a : Nat) (e : Int) : bkL (bodM sat B a e).1.body ≤ 1048576 ∧ (bodM sat B a e).1.loc.length ≤ 1048576 := by
 have h1 := piece_len (B := B) a e
 have hP := piece_byts hB a e
 have hl := hB.1
 unfold bodM
 dsimp only
 split
 ·have h2 := expr_bkA (sat := sat) (B := (pieceM B a e).1) (locM (pieceM B a e).1 0 0).2.1 (locM (pieceM B a e).1 0 0).2.2
  have h3 := locM_len20 hP 0 0
  unfold bod1M
  dsimp only
  omega
 ·simp [bkL]
theorem cellM_small {sat : Bool} {B : List Int} (hB : Byts B) (a : Nat) (e : Int) : bkL (cellM sat B a e).1.init ≤ 1048576 := by
 have h1 := expr_bkA (sat := sat) (B := B) (gtyM B a e).2.1 (gtyM B a e).2.2
 have hl := hB.1
 unfold cellM
 dsimp only
 omega
theorem elemM_small {sat : Bool} {B : List Int} (hB : Byts B) (a : Nat) (e : Int) : bkL (elemM sat B a e).1.off ≤ 1048576 ∧ (elemM sat B a e).1.fns.length ≤ 1048576 := by
 have h1 := expr_bkA (sat := sat) (B := B) (u32R B a e).2.1 (u32R B a e).2.2
 have h2 := lsOf_len (u32R B) hB (exprM sat B (u32R B a e).2.1 (u32R B a e).2.2).2.1 (exprM sat B (u32R B a e).2.1 (u32R B a e).2.2).2.2
 have hl := hB.1
 unfold elemM
 dsimp only [u32sM]
 omega
theorem dataM_small {sat : Bool} {B : List Int} (hB : Byts B) (a : Nat) (e : Int) : bkL (dataM sat B a e).1.off ≤ 1048576 ∧ (dataM sat B a e).1.bts.length ≤ 1048576 := by
 have h1 := expr_bkA (sat := sat) (B := B) (u32R B a e).2.1 (u32R B a e).2.2
 have h2 := piece_len (B := B) (exprM sat B (u32R B a e).2.1 (u32R B a e).2.2).2.1 (exprM sat B (u32R B a e).2.1 (u32R B a e).2.2).2.2
 have hl := hB.1
 unfold dataM
 dsimp only
 omega
theorem contM_small {sat : Bool} {B : List Int} (hB : Byts B) (n : Int) (M : ModD) (h : SmM M) : SmM (contM sat B n M).1 := by
 have hl := hB.1
 unfold contM
 split
 ·exact h
 ·exact { h with l0 := lsOf_len _ hB 0 0, t0 := lsOf_all _ B (fun a e => funM_len hB a e) 0 0 }
 ·exact { h with l1 := lsOf_len _ hB 0 0 }
 ·exact { h with }
 ·exact { h with l3 := lsOf_len _ hB 0 0 }
 ·exact { h with l4 := lsOf_len _ hB 0 0 }
 ·exact { h with l5 := lsOf_len _ hB 0 0, b5 := lsOf_all (cellM sat B) B (fun a e => cellM_small hB a e) 0 0 }
 ·exact { h with l6 := lsOf_len _ hB 0 0 }
 ·exact { h with }
 ·exact { h with l9 := lsOf_len _ hB 0 0, b9 := lsOf_all (elemM sat B) B (fun a e => elemM_small hB a e) 0 0 }
 ·exact { h with l12 := lsOf_len _ hB 0 0, b12 := lsOf_all _ B (fun a e => bodM_small hB a e) 0 0 }
 ·exact { h with l10 := lsOf_len _ hB 0 0, b10 := lsOf_all (dataM sat B) B (fun a e => dataM_small hB a e) 0 0 }
 ·exact h
theorem secStep_small {sat : Bool} {B : List Int} (hB : Byts B) (M : ModD) (n : Int) (a : Nat) (h : SmM M) : SmM (secStep sat B M n a).1 := by
 unfold secStep
 dsimp only
 split
 ·exact contM_small (piece_byts hB a 0) n M h
 ·exact h
theorem small_of {M : ModD} (h : SmM M) (he : M.tys.length = M.bodies.length) : Small M (fnsM M) := by
 have h2 : (fnsM M).length ≤ 4096 := by have := h.l12; simp [fnsM]; omega
 have h3 : ∀ x ∈ fnsM M, bkL x.body ≤ 1048576 ∧ x.loc.length ≤ 1048576 := fun x hx => by
  obtain ⟨i, hi, rfl⟩ := List.getElem_of_mem hx
  have hib : i < M.bodies.length := by simp [fnsM] at hi; omega
  have := h.b12 _ (List.getElem_mem hib)
  simpa [fnsM] using this
 have a0 := h.l0; have a1 := h.l1; have a3 := h.l3; have a4 := h.l4; have a5 := h.l5; have a6 := h.l6; have a9 := h.l9; have a10 := h.l10
 exact ⟨by omega, by omega, by omega, by omega, by omega, by omega, by omega, by omega, by omega, h.t0, fun x hx => (h3 x hx).1, h.b5, fun x hx => (h.b9 x hx).1, fun x hx => (h.b10 x hx).1, fun x hx => (h3 x hx).2, fun x hx => (h.b9 x hx).2, fun x hx => (h.b10 x hx).2⟩
theorem small_none : Small {} [] := by constructor <;> simp
theorem dec_small {sat : Bool} {B : List Int} (hB : Byts B) : Small (decM sat B).1.1 (decM sat B).1.2 := by
 unfold decM
 split
 ·exact small_none
 ·split
  ·exact small_none
  ·dsimp only
   have hT : Byts (B.drop 8) := ⟨by have := hB.1; simp only [List.length_drop]; omega, fun x hx => hB.2 x (List.mem_of_mem_drop hx)⟩
   have hs := secM_inv SmM (secStep sat (B.drop 8)) (B.drop 8) (fun M n a h => secStep_small hT M n a h) ((B.drop 8).length + 1) {} 0 0 0 smM_none
   split
   ·split
    next he => exact small_of hs he
    next => exact small_none
   ·exact small_none
end Go.Proofs.YtofaiocffifhfaaGreat
end
section
namespace Go.Proofs.YtofaiocffifhfaaGreat
open Go.RowKit Go.Shelf YtofaiocffifhfaaGreatB Go.Proofs.YtofaiocffifhfaaGreatW.PrintWords
def cusC (custom : List Int) : List Int := 1 :: 120 :: custom
theorem cus_ok (custom : List Int) : cusM (cusC custom) 0 0 = ((cusC custom).length, 0) := by
 have hu : u32M (cusC custom) 0 = .ok (1, 1) := by
  unfold u32M uintM cusC
  rw [List.drop_zero, lebG, if_pos (by decide)]
  rw [if_pos (by simp [lstU])]
  rfl
 have ht : takeM (cusC custom) 1 1 = .ok ([120], 2) := by
  unfold takeM cusC
  rw [if_pos (by simp)]
  rfl
 have hp : pieceM (cusC custom) 0 0 = ([120], 2, 0) := by
  unfold pieceM
  rw [hu]
  have h4 : rdOf (.ok (1, 1) : Except Int (Nat × Nat)) 0 0 = ((1 : Int), 1, 0) := rfl
  rw [h4]
  show rdL (takeM (cusC custom) 1 (1 : Int).toNat) 1 0 = _
  rw [show (1 : Int).toNat = 1 from rfl, ht]
  rfl
 have hn : namM (cusC custom) 0 0 = (strOfNums [120], 2, 0) := by
  unfold namM nam1M rdBack
  rw [hp]
  have h8 : utfOk (strOfNums [120]) = true := by decide
  simp [h8]
 unfold cusM
 rw [hn]
 dsimp only
 have hl : (cusC custom).length = custom.length + 2 := by simp [cusC]
 have h2 : takeM (cusC custom) 2 ((cusC custom).length - 2) = .ok (((cusC custom).drop 2).take ((cusC custom).length - 2), 2 + ((cusC custom).length - 2)) := by
  unfold takeM
  rw [if_pos (by omega)]
 rw [h2]
 simp only [rdL, if_true]
 rw [show 2 + ((cusC custom).length - 2) = (cusC custom).length by omega]
theorem cus_cont (custom : List Int) (sat : Bool) (M : ModD) : (contM sat (cusC custom) 0 M).1 = M ∧ backP (contM sat (cusC custom) 0 M).2 (cusC custom).length = 0 := by
 have h : contM sat (cusC custom) 0 M = (M, cusM (cusC custom) 0 0) := rfl
 rw [h, cus_ok]
 simp [backP]
theorem secsB_append (l m : List (Int × List Int)) : secsB (l ++ m) = secsB l ++ secsB m := by simp [secsB]
theorem secsB_one (s : Int × List Int) : secsB [s] = secB s := by simp [secsB]
theorem secsB_len : ∀ (l : List (Int × List Int)), l.length ≤ (secsB l).length
 | [] => by simp [secsB]
 | s :: l => by
  have := secsB_len l
  rw [secsB_cons, List.length_append]
  simp only [secB, List.length_cons]
  omega
theorem decM_secs (sat : Bool) (l : List (Int × List Int)) (hl : ∀ s ∈ l, s.2.length < 128) (hlen : (magicL ++ secsB l).length ≤ 65536) :
  decM sat (magicL ++ secsB l) = (if (runS sat l {} 0).2 = 0 then (if (runS sat l {} 0).1.tys.length = (runS sat l {} 0).1.bodies.length then (((runS sat l {} 0).1, fnsM (runS sat l {} 0).1), 0) else (({}, []), 109)) else (({}, []), (runS sat l {} 0).2)) := by
 have hd : (magicL ++ secsB l).drop 8 = secsB l := by simp [magicL]
 have ht : (magicL ++ secsB l).take 8 = magicL := by simp [magicL]
 have h := secM_runS sat l [] ((secsB l).length + 1) {} 0 hl (by have := secsB_len l; omega)
 dsimp only at h
 rw [List.nil_append, List.length_nil] at h
 unfold decM
 rw [if_neg (by omega), if_neg (by rw [ht]; simp [magicL]), hd]
 dsimp only
 rw [← h]
def insS (l : List (Int × List Int)) (k : Nat) (c : List Int) (j : Nat) : List (Int × List Int) := if j ≤ k then l.take j else l.take k ++ (0, c) :: (l.take j).drop k
theorem insS_at {l : List (Int × List Int)} {k : Nat} {c : List Int} {x : Int × List Int} (hx : l[k]? = some x) : insS l k c (k + 1) = insS l k c k ++ [(0, c), x] := by
 unfold insS
 rw [if_neg (by omega), if_pos (Nat.le_refl _), List.take_add_one, hx]
 have hk : k < l.length := (List.getElem?_eq_some_iff.1 hx).1
 rw [List.drop_append_of_le_length (by simp; omega)]
 simp
theorem insS_ne {l : List (Int × List Int)} {k j : Nat} {c : List Int} {x : Int × List Int} (hx : l[j]? = some x) (h : j ≠ k) : insS l k c (j + 1) = insS l k c j ++ [x] := by
 have hj : j < l.length := (List.getElem?_eq_some_iff.1 hx).1
 unfold insS
 rcases Nat.lt_or_ge j k with hlt | hge
 ·rw [if_pos (by omega), if_pos (by omega), List.take_add_one, hx]
  rfl
 ·rw [if_neg (by omega), if_neg (by omega), List.take_add_one, hx]
  rw [List.drop_append_of_le_length (by simp; omega)]
  simp
theorem dec_custom (sat : Bool) (l : List (Int × List Int)) (k : Nat) (custom : List Int) (hl : ∀ s ∈ l, s.2.length < 128) (hc : custom.length ≤ 50) (h1 : (magicL ++ secsB l).length ≤ 65536) (h2 : (magicL ++ secsB (insS l k (cusC custom) l.length)).length ≤ 65536) :
  decM sat (magicL ++ secsB (insS l k (cusC custom) l.length)) = decM sat (magicL ++ secsB l) := by
 by_cases hk : l.length ≤ k
 ·have : insS l k (cusC custom) l.length = l := by unfold insS; rw [if_pos hk, List.take_length]
  rw [this]
 ·have he : insS l k (cusC custom) l.length = l.take k ++ (0, cusC custom) :: l.drop k := by unfold insS; rw [if_neg hk, List.take_length]
  rw [he] at h2 ⊢
  have hl2 : ∀ s ∈ l.take k ++ (0, cusC custom) :: l.drop k, s.2.length < 128 := by
   intro s hs
   simp only [List.mem_append, List.mem_cons] at hs
   rcases hs with hs | rfl | hs
   ·exact hl s (List.mem_of_mem_take hs)
   ·simp [cusC]; omega
   ·exact hl s (List.mem_of_mem_drop hs)
  rw [decM_secs sat _ hl2 h2, decM_secs sat l hl h1, runS_insert sat (cusC custom) (fun M => cus_cont custom sat M) _ _ _ _ (Int.le_refl 0), List.take_append_drop]
end Go.Proofs.YtofaiocffifhfaaGreat
end
