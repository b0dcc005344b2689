/- Lemmas towards this claim's statement: what the functions named here come to, each under the conditions that it states itself. -/
import Derived.Test.YtfndlpfceokloaaOwn
namespace Go.Proofs.Ytfndlpfceokloaa
open Go.RowKit YtfndlpfceokloaaB Go.Proofs.YtfndlpfceokloaaW.PrintWords
/-- api.Instr, the reference's Instr. -/
abbrev kI := kIns 22 160
abbrev kR := kIns 22 174
theorem opens_Instr (n : Nat) : OpensAt Try.prog 160 kI bkI n :=
  opens_Ins_fix (opens_Ins Try.underlying22 Try.underlying3 Try.underlying5 Try.underlying24 Try.underlying4 Try.underlying158 Try.underlying52 Try.underlying160 (by kernel_rfl) (by kernel_rfl) (by kernel_rfl)) n
theorem opens_Instrs (n : Nat) : OpensAt Try.prog 52 (Kd.slice 160 kI) bkL (n + 1) :=
  opens_bk (opens_slice Try.underlying52 (by kernel_rfl) (opens_Instr n)) (fun a => by rw [bkL_sum]; omega)
theorem infoR : (Try.prog.info? 174).map (fun i => (i.zero, i.size, i.bytes)) = some (some (.agg #[.int .i64 0, .int .u8 0, .int .u32 0, .int .u32 0, .int .u64 0, .slice none 0 0, .slice none 0 0, .slice none 0 0, .bool false]), 9, 112) := by kernel_rfl
def PlainPost (w : World) (ok : Nat → Prop) (l : List Ins) (e : Ending) (w' : World) : Prop :=
  Below w.heap.size w w' ∧ ∃ A c, e = .returned (.slice A l.length c) ∧ l.length ≤ c ∧ FC kR w' (fun k => ok k ∨ w.heap.size ≤ k) A l
abbrev insCells (x : Ins) (AL AT AE : Option Addr) (cL cT cE : Nat) : Array Value := #[.int .i64 x.op, .int .u8 x.ty, .int .u32 x.a, .int .u32 x.b, .int .u64 x.bits, .slice AL x.list.length cL, .slice AT x.th.length cT, .slice AE x.el.length cE, .bool x.has]
theorem plain_elem {t w0 : Nat} {ok : Nat → Prop} {W W1 W2 : World} {v : Value} {xs : List Ins} {x : Ins} {AL A1 A2 : Option Addr} {cL c1 c2 : Nat}
    (hw0 : w0 ≤ W.heap.size) (hO : Own kR t W w0 (fun k => ok k ∨ w0 ≤ k) v xs) (hB1 : Below W.heap.size W W1) (hB2 : Below W1.heap.size W1 W2)
    (hL : FC (rng .u32) W (fun k => ok k ∧ k < w0) AL x.list) (hT : FC kR W1 (fun k => (ok k ∧ k < w0) ∨ W.heap.size ≤ k) A1 x.th) (hE : FC kR W2 (fun k => (ok k ∧ k < w0) ∨ W1.heap.size ≤ k) A2 x.el)
    (h1 : (Lit.int .i64 x.op).wf = true) (h2 : (Lit.int .u8 x.ty).wf = true) (h3 : (Lit.int .u32 x.a).wf = true) (h4 : (Lit.int .u32 x.b).wf = true) (h5 : (Lit.int .u64 x.bits).wf = true)
    (l1 : x.list.length ≤ cL) (l2 : x.th.length ≤ c1) (l3 : x.el.length ≤ c2) :
    FK kR W2 (fun k => (ok k ∨ w0 ≤ k) ∧ some k ≠ v.ownBlock) x (insCells x AL A1 A2 cL c1 c2).toList ∧ Own kR t W2 w0 (fun k => ok k ∨ w0 ≤ k) v xs := by
  have hs1 := hB1.size
  have hv : ∀ k, v.ownBlock = some k → w0 ≤ k ∧ k < W.heap.size := fun k hk => hO.block hk
  have ha : ∀ k, ok k ∧ k < w0 → (ok k ∨ w0 ≤ k) ∧ some k ≠ v.ownBlock := fun k hk => ⟨.inl hk.1, fun e => by have := hv k e.symm; omega⟩
  refine ⟨ins_mkF h1 h2 h3 h4 h5 (((hL.below hB1).below hB2).mono ha) ((hT.below hB2).mono ?_) (hE.mono ?_) l1 l2 l3, (hO.below hB1).below hB2⟩
  · rintro k (hk | hk)
    · exact ha k hk
    · exact ⟨.inr (by omega), fun e => by have := hv k e.symm; omega⟩
  · rintro k (hk | hk)
    · exact ha k hk
    · exact ⟨.inr (by omega), fun e => by have := hv k e.symm; omega⟩
set_option maxRecDepth 100000 in
set_option maxHeartbeats 4000000 in
theorem plain_any : ∀ (n : Nat) (l : List Ins), bkL l ≤ n → n ≤ 1048576 → ∀ (ok : Nat → Prop) (w : World) (A : Option Addr) (c : Nat), FC kI w ok A l →
    Calls Try.prog 28 #[.slice A l.length c] w (PlainPost w ok l) := by
  intro n
  induction n using Nat.strongRecOn with
  | ind n ih =>
  intro l hbk hn ok w A c hF
  have hlen := bkL_len l
  have IH := Lib.hid ih
  have hF2 : FC kI w (fun k => ok k ∧ k < w.heap.size) A l := Ft.bound hF (fun k hk hlt => ⟨hk, hlt⟩)
  clear ih hF
  go_enter Try.func28, Try.ntmps28
  go_wp2_with fail
  go_loopw [3, 8] (fun v k wr => ∃ j : Nat, j ≤ l.length ∧ k = .int .i64 j ∧ Own kR 174 wr w.heap.size (fun k => ok k ∨ w.heap.size ≤ k) v (l.take j) ∧ Below w.heap.size w wr) (fun _ k _ => l.length - (intOf k).toNat)
  case atStart => exact ⟨0, Nat.zero_le _, rfl, Own.nil, Below.refl _ _⟩
  case round =>
    obtain ⟨j, hj, rfl, hown, hB⟩ := hrel
    have hsz := hB.size
    by_cases hlt : j < l.length
    · obtain ⟨b, o, x, cs, rfl, hx, hk, hc⟩ := FC.at_ (Ft.below hF2 hB) (by decide) j hlt
      obtain ⟨AL, cL, AT, cT, AE, cE, rfl, g1, g2, g3, g4, g5, hL, hT, hE, l1, l2, l3⟩ := ins_openF hk
      have hz : kI.sz = 9 := rfl
      have d0 := hc 0 _ rfl
      have d1 := hc 1 _ rfl
      have d2 := hc 2 _ rfl
      have d3 := hc 3 _ rfl
      have d4 := hc 4 _ rfl
      have d5 := hc 5 _ rfl
      have d6 := hc 6 _ rfl
      have d7 := hc 7 _ rfl
      have d8 := hc 8 _ rfl
      simp only [hz, Nat.add_zero] at d0 d1 d2 d3 d4 d5 d6 d7 d8
      have hblt : b < wr.heap.size := World.block_lt_of_cell? _ _ d0
      have hbx := bkL_get hx.out
      have hbt := bkL_th x
      have hbe := bkL_el x
      clear hc hk hz
      have hBl : Below w.heap.size w (wr.alloc (.cells (insCells x AL AT AE cL cT cE) 160)) := hB.alloc (by omega) _
      have hTl := Lib.hid (Ft.below hT ((Below.refl wr.heap.size wr).alloc (Nat.le_refl _) (.cells (insCells x AL AT AE cL cT cE) 160)))
      have hEl := Lib.hid (Ft.below hE ((Below.refl wr.heap.size wr).alloc (Nat.le_refl _) (.cells (insCells x AL AT AE cL cT cE) 160)))
      have hLl := Lib.hid (Ft.below hL ((Below.refl wr.heap.size wr).alloc (Nat.le_refl _) (.cells (insCells x AL AT AE cL cT cE) 160)))
      have hOl := Own.below hown ((Below.refl wr.heap.size wr).alloc (Nat.le_refl _) (.cells (insCells x AL AT AE cL cT cE) 160))
      have hW := Blk.new wr (insCells x AL AT AE cL cT cE) 160
      go_wp2_with fail
      have hsW : (wr.alloc (.cells (insCells x AL AT AE cL cT cE) 160)).heap.size = wr.heap.size + 1 := World.size_alloc _ _
      simp only [insCells] at hW hBl hTl hEl hLl hOl hsW
      generalize hWe : wr.alloc (.cells #[.int .i64 x.op, .int .u8 x.ty, .int .u32 x.a, .int .u32 x.b, .int .u64 x.bits, .slice AL x.list.length cL, .slice AT x.th.length cT, .slice AE x.el.length cE, .bool x.has] 160) = W at *
      have hvb := Lib.hid (show ∀ k, u3.ownBlock = some k → w.heap.size ≤ k ∧ k < wr.heap.size from fun k hk => hown.block hk)
      have hne : some wr.heap.size ≠ u3.ownBlock := fun e => by have := hvb.out _ e.symm; omega
      have hOd := Lib.hid (hOl.below ((Below.refl W.heap.size W).drew))
      have hTd := Lib.hid (Ft.below hTl.out ((Below.refl W.heap.size W).drew))
      have hEd := Lib.hid (Ft.below hEl.out ((Below.refl W.heap.size W).drew))
      have hLd := Lib.hid (Ft.below hLl.out ((Below.refl W.heap.size W).drew))
      have hBd := Lib.hid hBl.drew
      clear hWe hown hOl hTl hEl hLl hBl
      have e0 : W.cell? ⟨wr.heap.size, 0, none⟩ = some (.int .i64 x.op) := by rw [hW.cell]; rfl
      have e1 : W.cell? ⟨wr.heap.size, 1, none⟩ = some (.int .u8 x.ty) := by rw [hW.cell]; rfl
      have e2 : W.cell? ⟨wr.heap.size, 2, none⟩ = some (.int .u32 x.a) := by rw [hW.cell]; rfl
      have e3 : W.cell? ⟨wr.heap.size, 3, none⟩ = some (.int .u32 x.b) := by rw [hW.cell]; rfl
      have e4 : W.cell? ⟨wr.heap.size, 4, none⟩ = some (.int .u64 x.bits) := by rw [hW.cell]; rfl
      have e5 : W.cell? ⟨wr.heap.size, 5, none⟩ = some (.slice AL x.list.length cL) := by rw [hW.cell]; rfl
      have e6 : W.cell? ⟨wr.heap.size, 6, none⟩ = some (.slice AT x.th.length cT) := by rw [hW.cell]; rfl
      have e7 : W.cell? ⟨wr.heap.size, 7, none⟩ = some (.slice AE x.el.length cE) := by rw [hW.cell]; rfl
      have e8 : W.cell? ⟨wr.heap.size, 8, none⟩ = some (.bool x.has) := by rw [hW.cell]; rfl
      go_region_held3 (fun w' => w'.cell? ⟨wr.heap.size, 0, none⟩ = some (.int .i64 x.op) ∧ w'.cell? ⟨wr.heap.size, 1, none⟩ = some (.int .u8 x.ty) ∧ w'.cell? ⟨wr.heap.size, 2, none⟩ = some (.int .u32 x.a) ∧ w'.cell? ⟨wr.heap.size, 3, none⟩ = some (.int .u32 x.b) ∧ w'.cell? ⟨wr.heap.size, 4, none⟩ = some (.int .u64 x.bits) ∧ w'.cell? ⟨wr.heap.size, 5, none⟩ = some (.slice AL x.list.length cL) ∧ w'.cell? ⟨wr.heap.size, 6, none⟩ = some (.slice AT x.th.length cT) ∧ w'.cell? ⟨wr.heap.size, 7, none⟩ = some (.slice AE x.el.length cE) ∧ w'.cell? ⟨wr.heap.size, 8, none⟩ = some (.bool x.has))
        (first | exact ⟨e0, e1, e2, e3, e4, e5, e6, e7, e8⟩ | exact ⟨World.grownBy.cell hg1 (pw_cell_below (w := W.drew) hB12 e0) hne, World.grownBy.cell hg1 (pw_cell_below (w := W.drew) hB12 e1) hne, World.grownBy.cell hg1 (pw_cell_below (w := W.drew) hB12 e2) hne, World.grownBy.cell hg1 (pw_cell_below (w := W.drew) hB12 e3) hne, World.grownBy.cell hg1 (pw_cell_below (w := W.drew) hB12 e4) hne, World.grownBy.cell hg1 (pw_cell_below (w := W.drew) hB12 e5) hne, World.grownBy.cell hg1 (pw_cell_below (w := W.drew) hB12 e6) hne, World.grownBy.cell hg1 (pw_cell_below (w := W.drew) hB12 e7) hne, World.grownBy.cell hg1 (pw_cell_below (w := W.drew) hB12 e8) hne⟩ | exact ⟨pw_cell_below (w := W.drew) (hB13 _) e0, pw_cell_below (w := W.drew) (hB13 _) e1, pw_cell_below (w := W.drew) (hB13 _) e2, pw_cell_below (w := W.drew) (hB13 _) e3, pw_cell_below (w := W.drew) (hB13 _) e4, pw_cell_below (w := W.drew) (hB13 _) e5, pw_cell_below (w := W.drew) (hB13 _) e6, pw_cell_below (w := W.drew) (hB13 _) e7, pw_cell_below (w := W.drew) (hB13 _) e8⟩ | exact ⟨pw_cell_below (w := W.drew) hB12 e0, pw_cell_below (w := W.drew) hB12 e1, pw_cell_below (w := W.drew) hB12 e2, pw_cell_below (w := W.drew) hB12 e3, pw_cell_below (w := W.drew) hB12 e4, pw_cell_below (w := W.drew) hB12 e5, pw_cell_below (w := W.drew) hB12 e6, pw_cell_below (w := W.drew) hB12 e7, pw_cell_below (w := W.drew) hB12 e8⟩ | exact ⟨pw_cell_below (w := W.drew) hB1 e0, pw_cell_below (w := W.drew) hB1 e1, pw_cell_below (w := W.drew) hB1 e2, pw_cell_below (w := W.drew) hB1 e3, pw_cell_below (w := W.drew) hB1 e4, pw_cell_below (w := W.drew) hB1 e5, pw_cell_below (w := W.drew) hB1 e6, pw_cell_below (w := W.drew) hB1 e7, pw_cell_below (w := W.drew) hB1 e8⟩)
        (first
          | (go_at_call_of 28 (Value.slice AT x.th.length cT); refine (IH.out (bkL x.th) (by omega) x.th (Nat.le_refl _) (by omega) (fun k => ok k ∧ k < w.heap.size) _ AT cT hTd.out).mono ?_; rintro e1' W1 ⟨hB1, A1, c1, rfl, hl1, hF1⟩)
          | (go_at_call_of 28 (Value.slice AE x.el.length cE); refine (IH.out (bkL x.el) (by omega) x.el (Nat.le_refl _) (by omega) (fun k => ok k ∧ k < w.heap.size) _ AE cE (Ft.below hEd.out hB1)).mono ?_; rintro e2' W2 ⟨hB2, A2, c2, rfl, hl2, hG2⟩; have hB12 := hB1.trans (hB2.mono hB1.size); have hB13 := fun o' => hB12.alloc hB12.size o'; obtain ⟨hK, hO2⟩ := plain_elem (by exact hBd.out.size) hOd.out hB1 hB2 hLd.out hF1 hG2 g1 g2 g3 g4 g5 l1 hl1 hl2)
          | (refine Own.append_step w.heap.size rfl (.tmp 12) (.tmp 34) 54 174 _ 112 rfl Try.underlying54 infoR rfl (by decide) (by decide) u3 (l.take j) x _ (fun k => ok k ∨ w.heap.size ≤ k) rfl rfl hK hO2 ?_ ?_ ?_; (exact Nat.le_trans hBd.out.size (Nat.le_trans hB1.size hB2.size)); (rw [List.length_take]; omega); intro v1 w1 hown1 hg1 hat1; have hBw1 := (hBd.out.trans (hB12.mono hBd.out.size)).grown hg1 (Nat.le_trans hBd.out.size (Nat.le_trans hB1.size hB2.size)) (fun k hk => (hvb.out k hk).1)))
      · clear hK hO2 hF1 hG2 hat1
        rw [show l.take j ++ [x] = l.take (j + 1) from by rw [List.take_add_one, hx.out]; rfl] at hown1
        go_wp2_with fail
        go_roundw
        case rel => exact ⟨j + 1, by omega, by go_num, hown1, hBw1⟩
        case measure => simp [intOf]; omega
    · obtain rfl : j = l.length := by omega
      rw [List.take_length] at hown
      obtain ⟨A', c', rfl, hl', hF'⟩ := hown.reads
      go_wp2_with fail
      go_ret
      exact ⟨hB, A', c', rfl, hl', hF'.mono (fun k hk => by rcases hk with (hk | hk) | hk; exact .inl hk; exact .inr hk; exact .inr hk)⟩
end Go.Proofs.Ytfndlpfceokloaa
