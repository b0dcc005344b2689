/- Lemmas towards this claim's statement: what the functions named here come to, each under the conditions that it states itself. -/
import Derived.Test.YtofaiocffifhfaaGreatCu4
section
namespace Go.Proofs.YtofaiocffifhfaaGreat
open Go.RowKit Go.Shelf YtofaiocffifhfaaGreatB Go.Proofs.YtofaiocffifhfaaGreatW.PrintWords
set_option maxRecDepth 100000 in
set_option maxHeartbeats 16000000 in
theorem instr_n (bk : Bool → Nat → Int → List Ins × Int × Nat × Int) (W : World) (R p q : Nat) (sat : Bool) (deep : Nat) (B : List Int) (a a1 : Nat) (b opc iv i : Int) (ib ib2 : Bool) (hR : Rp W R p sat deep) (hRp : R ≠ p) (hC : Cur W p q B a 0) (hB : Byts B) (hx : B[a]? = some b)
  (hi : immM b = (iv, ib)) (hi1 : (iv == 1) = false) (ho : opM sat B a 0 = (opc, a1, 0)) (hopc : 0 ≤ opc ∧ opc ≤ 5000000000) (hi2 : immM opc = (i, ib2)) (c1 : ¬ i = 1) :
  Calls Tryz.prog 141 #[.pointer (some ⟨R, 0, none⟩)] W (InsPost W p q B (bodyM bk B opc i a1)) := by
 have hxb := hB.get hx
 have hplt := hC.lt
 have hRlt := hR.lt
 have hqlt : q < W.heap.size := by
  rcases hC.qlt with h | h
  ·rw [h] at hx; simp at hx
  ·exact h
 have HP := Lib.hid (peek_any (W.alloc (.cells zeroC 153)) R p q sat deep B a 0 (Blk.alloc hR _) hRp (hC.alloc _) hB)
 rw [show peekM B a 0 = (b, 0) from by simp [peekM, hx]] at HP
 have HI1 := Lib.hid (fun X => Imm_any X b hxb.1 (by omega))
 have HI2 := Lib.hid (fun X => Imm_any X opc hopc.1 hopc.2)
 rw [hi] at HI1
 rw [hi2] at HI2
 have HOP := Lib.hid (fun X h1 h2 => op_any X R p q sat deep B a 0 h1 hRp h2 hB)
 rw [ho] at HOP
 have HR := Lib.hid (show Rp (W.alloc (.cells zeroC 153)) R p sat deep from Blk.alloc hR _)
 have HZ := Lib.hid (Blk.new W zeroC 153)
 have HB := Lib.hid hB
 have hb0 := hxb.1
 have hb1 := hxb.2
 have HW := Lib.hid hC
 have HC1 := Lib.hid c1
 clear hR hC hB hx hi ho hi2 hxb c1
 go_enter Tryz.func141, Tryz.ntmps141
 go_wp2_with fail
 refine HP.out.mono ?_
 rintro E W1 ⟨rfl, hG1⟩
 have HR1 := Lib.hid (HR.out.goes hRp hG1)
 have HZ1 := Lib.hid (HZ.out.grown hG1.2 (by simp; omega))
 have HG1 := Lib.hid hG1.of_alloc
 clear hG1 HP HR HZ
 go_wp2_with fail
 refine (HI1.out _).mono ?_
 rintro E W2 ⟨rfl, hB2⟩
 have hg2 : Goes W1 W2 p q B a 0 := ⟨HG1.out.1.below hB2, grown_below hB2 _⟩
 have HR2 := Lib.hid (HR1.out.goes hRp hg2)
 have HZ2 := Lib.hid (HZ1.out.grown hg2.2 (by simp; omega))
 have HG2 := Lib.hid (HG1.out.trans hg2)
 clear hg2 hB2 HR1 HZ1 HG1
 go_wp2_with fail
 refine (HOP.out _ HR2.out HG2.out.1).mono ?_
 rintro E W3 ⟨rfl, hG3⟩
 have HR3 := Lib.hid (HR2.out.goes hRp hG3)
 have HZ3 := Lib.hid (HZ2.out.grown hG3.2 (by simp; omega))
 have HG3 := Lib.hid (HG2.out.trans hG3)
 clear hG3 HR2 HZ2 HG2 HOP
 go_wp2_with fail
 refine (HI2.out _).mono ?_
 rintro E W4 ⟨rfl, hB4⟩
 have XB4 : Blk W4 W3.heap.size (insC opc 0 0 0 0 (.slice none 0 0) (.slice none 0 0) (.slice none 0 0) false) 153 := (Blk.new W3 (insC opc 0 0 0 0 (.slice none 0 0) (.slice none 0 0) (.slice none 0 0) false) 153).below hB4 (by simp)
 have hg4 : Goes W3 W4 p q B a1 0 := Goes.of_alloc (o := .cells (insC opc 0 0 0 0 (.slice none 0 0) (.slice none 0 0) (.slice none 0 0) false) 153) ⟨(HG3.out.1.alloc _).below hB4, grown_below hB4 _⟩
 have HR4 := Lib.hid (HR3.out.goes hRp hg4)
 have HZ4 := Lib.hid (HZ3.out.grown hg4.2 (by simp; omega))
 have HG4 := Lib.hid (HG3.out.trans hg4)
 have HX4 := Lib.hid XB4
 have hXp : p < W3.heap.size := Nat.lt_of_lt_of_le hplt HG3.out.2.size
 have hXR : R < W3.heap.size := Nat.lt_of_lt_of_le hRlt HG3.out.2.size
 have hXZ : W.heap.size < W3.heap.size := HZ3.out.lt
 obtain ⟨X, hXe⟩ : ∃ X, X = W3.heap.size := ⟨_, rfl⟩
 rw [← hXe] at HX4 hXp hXR hXZ ⊢
 clear hB4 XB4 hg4 HR3 HZ3 HG3 hXe
 go_wp2_with fail
 refine (rgood_any _ _ _ _ _ _ _ _ _ true HR4.out HG4.out.1 rfl).mono ?_
 rintro E w' ⟨rfl, rfl⟩
 clear HI1 HI2 hi1
 by_cases c2 : i = 2
 ·obtain rfl : i = 2 := c2
  have HV := Lib.hid (show bodyM bk B opc 2 a1 = (.mk opc 0 (rdOf (u32M B a1) a1 0).1 0 0 [] [] [] false, (rdOf (u32M B a1) a1 0).2.1, (rdOf (u32M B a1) a1 0).2.2) from rfl)
  obtain ⟨s0, s1, s2, sf, slt⟩ := HR4.out.cells
  obtain ⟨x0, x1, x2, x3, x4, x5, x6, x7, x8⟩ := insC_cells HX4.out
  obtain ⟨xf0, xf1, xf2, xf3, xf4, xf5, xf6, xf7, xf8, xlt⟩ := insC_frozen HX4.out
  obtain ⟨z0, z1, z2, z3, z4, z5, z6, z7, z8⟩ := insC_cells HZ4.out
  obtain ⟨zf0, zf1, zf2, zf3, zf4, zf5, zf6, zf7, zf8, zlt⟩ := insC_frozen HZ4.out
  go_wp2_with fail
  have hvb := u32_bound B a1 0 HB.out
  have H := Lib.hid (U32_any W4 p q B a1 0 HG4.out.1 HB.out)
  generalize rdOf (u32M B a1) a1 0 = t at *
  obtain ⟨v14, a14, e14⟩ := t
  simp only at HV
  obtain ⟨hv14, hw14⟩ := hvb
  refine H.out.mono ?_
  rintro E W14 ⟨rfl, hG⟩
  have hG0 : Goes W4 W14 p q B a14 e14 := hG
  have HR14 := Lib.hid (HR4.out.goes hRp hG0)
  have HX14 := Lib.hid (HX4.out.grown hG0.2 (by simp; omega))
  have HZ14 := Lib.hid (HZ4.out.grown hG0.2 (by simp; omega))
  have HG14 := Lib.hid (HG4.out.trans hG0)
  clear hG hG0 H HR4 HX4 HZ4 HG4
  clear s0 s1 s2 sf slt x0 x1 x2 x3 x4 x5 x6 x7 x8 xf0 xf1 xf2 xf3 xf4 xf5 xf6 xf7 xf8 xlt z0 z1 z2 z3 z4 z5 z6 z7 z8 zf0 zf1 zf2 zf3 zf4 zf5 zf6 zf7 zf8 zlt
  obtain ⟨s0, s1, s2, sf, slt⟩ := HR14.out.cells
  obtain ⟨x0, x1, x2, x3, x4, x5, x6, x7, x8⟩ := insC_cells HX14.out
  obtain ⟨xf0, xf1, xf2, xf3, xf4, xf5, xf6, xf7, xf8, xlt⟩ := insC_frozen HX14.out
  obtain ⟨z0, z1, z2, z3, z4, z5, z6, z7, z8⟩ := insC_cells HZ14.out
  obtain ⟨zf0, zf1, zf2, zf3, zf4, zf5, zf6, zf7, zf8, zlt⟩ := insC_frozen HZ14.out
  go_wp2_with fail
  have HX15 := Lib.hid (show Blk (W14.setCell ⟨X, 2, none⟩ (.int .u32 v14)) X (insC opc 0 v14 0 0 (.slice none 0 0) (.slice none 0 0) (.slice none 0 0) false) 153 from by have := HX14.out.set 2 (.int .u32 v14); simpa [insC] using this)
  have HZ15 := Lib.hid (show Blk (W14.setCell ⟨X, 2, none⟩ (.int .u32 v14)) W.heap.size zeroC 153 from HZ14.out.set_other ⟨X, 2, none⟩ (.int .u32 v14) (by simp; omega))
  have HR15 := Lib.hid (show Rp (W14.setCell ⟨X, 2, none⟩ (.int .u32 v14)) R p sat deep from HR14.out.other X (by omega) 2 (.int .u32 v14))
  have HG15 := Lib.hid (show Goes W (W14.setCell ⟨X, 2, none⟩ (.int .u32 v14)) p q B a14 e14 from HG14.out.setNew HW.out X (by omega) 2 (.int .u32 v14))
  clear HX14 HZ14 HR14 HG14
  clear s0 s1 s2 sf slt x0 x1 x2 x3 x4 x5 x6 x7 x8 xf0 xf1 xf2 xf3 xf4 xf5 xf6 xf7 xf8 xlt z0 z1 z2 z3 z4 z5 z6 z7 z8 zf0 zf1 zf2 zf3 zf4 zf5 zf6 zf7 zf8 zlt
  change bodyPost _ _ _ Exit.ret _ (put9 (W14.setCell ⟨X, 2, none⟩ (.int .u32 v14)) W.heap.size (.int .i64 opc) (.int .u8 0) (.int .u32 v14) (.int .u32 0) (.int .u64 0) (.slice none 0 0) (.slice none 0 0) (.slice none 0 0) (.bool false))
  have hgF : Goes W (put9 (W14.setCell ⟨X, 2, none⟩ (.int .u32 v14)) W.heap.size (.int .i64 opc) (.int .u8 0) (.int .u32 v14) (.int .u32 0) (.int .u64 0) (.slice none 0 0) (.slice none 0 0) (.slice none 0 0) (.bool false)) p q B a14 e14 := put9_goes HW.out HG15.out _ (Nat.le_refl _) _ _ _ _ _ _ _ _ _
  have hbF := put9_blk HZ15.out (.int .i64 opc) (.int .u8 0) (.int .u32 v14) (.int .u32 0) (.int .u64 0) (.slice none 0 0) (.slice none 0 0) (.slice none 0 0) (.bool false)
  generalize put9 (W14.setCell ⟨X, 2, none⟩ (.int .u32 v14)) W.heap.size (.int .i64 opc) (.int .u8 0) (.int .u32 v14) (.int .u32 0) (.int .u64 0) (.slice none 0 0) (.slice none 0 0) (.slice none 0 0) (.bool false) = V9 at *
  obtain ⟨y0, y1, y2, y3, y4, y5, y6, y7, y8⟩ := insC_cells hbF
  rw [HV.out]
  have HGF := Lib.hid hgF
  refine bodyPost_ret (v := .agg (insC opc 0 v14 0 0 (.slice none 0 0) (.slice none 0 0) (.slice none 0 0) false)) (by simp [results, Tryz.results141, go_sem, y0, y1, y2, y3, y4, y5, y6, y7, y8, insC]) rfl ⟨.mk opc 0 v14 0 0 [] [] [] false, none, none, none, 0, 0, 0, rfl, ?_, fun _ => rfl, HGF.out⟩
  exact fk_flat hopc (by omega) (by omega) (by omega) (by omega)
 by_cases c4 : i = 4
 ·obtain rfl : i = 4 := c4
  have HV := Lib.hid (show bodyM bk B opc 4 a1 = (.mk opc 0 (rdOf (u32M B a1) a1 0).1 0 0 [] [] [] false, (rdOf (u32M B a1) a1 0).2.1, (rdOf (u32M B a1) a1 0).2.2) from rfl)
  obtain ⟨s0, s1, s2, sf, slt⟩ := HR4.out.cells
  obtain ⟨x0, x1, x2, x3, x4, x5, x6, x7, x8⟩ := insC_cells HX4.out
  obtain ⟨xf0, xf1, xf2, xf3, xf4, xf5, xf6, xf7, xf8, xlt⟩ := insC_frozen HX4.out
  obtain ⟨z0, z1, z2, z3, z4, z5, z6, z7, z8⟩ := insC_cells HZ4.out
  obtain ⟨zf0, zf1, zf2, zf3, zf4, zf5, zf6, zf7, zf8, zlt⟩ := insC_frozen HZ4.out
  go_wp2_with fail
  have hvb := u32_bound B a1 0 HB.out
  have H := Lib.hid (U32_any W4 p q B a1 0 HG4.out.1 HB.out)
  generalize rdOf (u32M B a1) a1 0 = t at *
  obtain ⟨v14, a14, e14⟩ := t
  simp only at HV
  obtain ⟨hv14, hw14⟩ := hvb
  refine H.out.mono ?_
  rintro E W14 ⟨rfl, hG⟩
  have hG0 : Goes W4 W14 p q B a14 e14 := hG
  have HR14 := Lib.hid (HR4.out.goes hRp hG0)
  have HX14 := Lib.hid (HX4.out.grown hG0.2 (by simp; omega))
  have HZ14 := Lib.hid (HZ4.out.grown hG0.2 (by simp; omega))
  have HG14 := Lib.hid (HG4.out.trans hG0)
  clear hG hG0 H HR4 HX4 HZ4 HG4
  clear s0 s1 s2 sf slt x0 x1 x2 x3 x4 x5 x6 x7 x8 xf0 xf1 xf2 xf3 xf4 xf5 xf6 xf7 xf8 xlt z0 z1 z2 z3 z4 z5 z6 z7 z8 zf0 zf1 zf2 zf3 zf4 zf5 zf6 zf7 zf8 zlt
  obtain ⟨s0, s1, s2, sf, slt⟩ := HR14.out.cells
  obtain ⟨x0, x1, x2, x3, x4, x5, x6, x7, x8⟩ := insC_cells HX14.out
  obtain ⟨xf0, xf1, xf2, xf3, xf4, xf5, xf6, xf7, xf8, xlt⟩ := insC_frozen HX14.out
  obtain ⟨z0, z1, z2, z3, z4, z5, z6, z7, z8⟩ := insC_cells HZ14.out
  obtain ⟨zf0, zf1, zf2, zf3, zf4, zf5, zf6, zf7, zf8, zlt⟩ := insC_frozen HZ14.out
  go_wp2_with fail
  have HX15 := Lib.hid (show Blk (W14.setCell ⟨X, 2, none⟩ (.int .u32 v14)) X (insC opc 0 v14 0 0 (.slice none 0 0) (.slice none 0 0) (.slice none 0 0) false) 153 from by have := HX14.out.set 2 (.int .u32 v14); simpa [insC] using this)
  have HZ15 := Lib.hid (show Blk (W14.setCell ⟨X, 2, none⟩ (.int .u32 v14)) W.heap.size zeroC 153 from HZ14.out.set_other ⟨X, 2, none⟩ (.int .u32 v14) (by simp; omega))
  have HR15 := Lib.hid (show Rp (W14.setCell ⟨X, 2, none⟩ (.int .u32 v14)) R p sat deep from HR14.out.other X (by omega) 2 (.int .u32 v14))
  have HG15 := Lib.hid (show Goes W (W14.setCell ⟨X, 2, none⟩ (.int .u32 v14)) p q B a14 e14 from HG14.out.setNew HW.out X (by omega) 2 (.int .u32 v14))
  clear HX14 HZ14 HR14 HG14
  clear s0 s1 s2 sf slt x0 x1 x2 x3 x4 x5 x6 x7 x8 xf0 xf1 xf2 xf3 xf4 xf5 xf6 xf7 xf8 xlt z0 z1 z2 z3 z4 z5 z6 z7 z8 zf0 zf1 zf2 zf3 zf4 zf5 zf6 zf7 zf8 zlt
  change bodyPost _ _ _ Exit.ret _ (put9 (W14.setCell ⟨X, 2, none⟩ (.int .u32 v14)) W.heap.size (.int .i64 opc) (.int .u8 0) (.int .u32 v14) (.int .u32 0) (.int .u64 0) (.slice none 0 0) (.slice none 0 0) (.slice none 0 0) (.bool false))
  have hgF : Goes W (put9 (W14.setCell ⟨X, 2, none⟩ (.int .u32 v14)) W.heap.size (.int .i64 opc) (.int .u8 0) (.int .u32 v14) (.int .u32 0) (.int .u64 0) (.slice none 0 0) (.slice none 0 0) (.slice none 0 0) (.bool false)) p q B a14 e14 := put9_goes HW.out HG15.out _ (Nat.le_refl _) _ _ _ _ _ _ _ _ _
  have hbF := put9_blk HZ15.out (.int .i64 opc) (.int .u8 0) (.int .u32 v14) (.int .u32 0) (.int .u64 0) (.slice none 0 0) (.slice none 0 0) (.slice none 0 0) (.bool false)
  generalize put9 (W14.setCell ⟨X, 2, none⟩ (.int .u32 v14)) W.heap.size (.int .i64 opc) (.int .u8 0) (.int .u32 v14) (.int .u32 0) (.int .u64 0) (.slice none 0 0) (.slice none 0 0) (.slice none 0 0) (.bool false) = V9 at *
  obtain ⟨y0, y1, y2, y3, y4, y5, y6, y7, y8⟩ := insC_cells hbF
  rw [HV.out]
  have HGF := Lib.hid hgF
  refine bodyPost_ret (v := .agg (insC opc 0 v14 0 0 (.slice none 0 0) (.slice none 0 0) (.slice none 0 0) false)) (by simp [results, Tryz.results141, go_sem, y0, y1, y2, y3, y4, y5, y6, y7, y8, insC]) rfl ⟨.mk opc 0 v14 0 0 [] [] [] false, none, none, none, 0, 0, 0, rfl, ?_, fun _ => rfl, HGF.out⟩
  exact fk_flat hopc (by omega) (by omega) (by omega) (by omega)
 by_cases c3 : i = 3
 ·obtain rfl : i = 3 := c3
  have HV := Lib.hid (show bodyM bk B opc 3 a1 = (.mk opc 0 (rdOf (u32M B (labelsM B a1 0).2.1) (labelsM B a1 0).2.1 (labelsM B a1 0).2.2).1 0 0 (labelsM B a1 0).1 [] [] false, (rdOf (u32M B (labelsM B a1 0).2.1) (labelsM B a1 0).2.1 (labelsM B a1 0).2.2).2.1, (rdOf (u32M B (labelsM B a1 0).2.1) (labelsM B a1 0).2.1 (labelsM B a1 0).2.2).2.2) from rfl)
  obtain ⟨s0, s1, s2, sf, slt⟩ := HR4.out.cells
  obtain ⟨x0, x1, x2, x3, x4, x5, x6, x7, x8⟩ := insC_cells HX4.out
  obtain ⟨xf0, xf1, xf2, xf3, xf4, xf5, xf6, xf7, xf8, xlt⟩ := insC_frozen HX4.out
  obtain ⟨z0, z1, z2, z3, z4, z5, z6, z7, z8⟩ := insC_cells HZ4.out
  obtain ⟨zf0, zf1, zf2, zf3, zf4, zf5, zf6, zf7, zf8, zlt⟩ := insC_frozen HZ4.out
  go_wp2_with fail
  have H := Lib.hid (labels_any W4 R p q sat deep B a1 0 HR4.out hRp HG4.out.1 HB.out)
  generalize labelsM B a1 0 = t at *
  obtain ⟨v14, a14, e14⟩ := t
  simp only at HV
  refine H.out.mono ?_
  rintro E W14 ⟨⟨A5, c5, rfl, hl5, hF5⟩, hG⟩
  have hG0 : Goes W4 W14 p q B a14 e14 := hG
  have HR14 := Lib.hid (HR4.out.goes hRp hG0)
  have HX14 := Lib.hid (HX4.out.grown hG0.2 (by simp; omega))
  have HZ14 := Lib.hid (HZ4.out.grown hG0.2 (by simp; omega))
  have HG14 := Lib.hid (HG4.out.trans hG0)
  have HF14 := Lib.hid hF5
  clear hF5
  have hZF := HZ4.out.lt
  have hXF := HX4.out.lt
  clear hG hG0 H HR4 HX4 HZ4 HG4
  clear s0 s1 s2 sf slt x0 x1 x2 x3 x4 x5 x6 x7 x8 xf0 xf1 xf2 xf3 xf4 xf5 xf6 xf7 xf8 xlt z0 z1 z2 z3 z4 z5 z6 z7 z8 zf0 zf1 zf2 zf3 zf4 zf5 zf6 zf7 zf8 zlt
  obtain ⟨s0, s1, s2, sf, slt⟩ := HR14.out.cells
  obtain ⟨x0, x1, x2, x3, x4, x5, x6, x7, x8⟩ := insC_cells HX14.out
  obtain ⟨xf0, xf1, xf2, xf3, xf4, xf5, xf6, xf7, xf8, xlt⟩ := insC_frozen HX14.out
  obtain ⟨z0, z1, z2, z3, z4, z5, z6, z7, z8⟩ := insC_cells HZ14.out
  obtain ⟨zf0, zf1, zf2, zf3, zf4, zf5, zf6, zf7, zf8, zlt⟩ := insC_frozen HZ14.out
  go_wp2_with fail
  have HX15 := Lib.hid (show Blk (W14.setCell ⟨X, 5, none⟩ (.slice A5 v14.length c5)) X (insC opc 0 0 0 0 (.slice A5 v14.length c5) (.slice none 0 0) (.slice none 0 0) false) 153 from by have := HX14.out.set 5 (.slice A5 v14.length c5); simpa [insC] using this)
  have HZ15 := Lib.hid (show Blk (W14.setCell ⟨X, 5, none⟩ (.slice A5 v14.length c5)) W.heap.size zeroC 153 from HZ14.out.set_other ⟨X, 5, none⟩ (.slice A5 v14.length c5) (by simp; omega))
  have HR15 := Lib.hid (show Rp (W14.setCell ⟨X, 5, none⟩ (.slice A5 v14.length c5)) R p sat deep from HR14.out.other X (by omega) 5 (.slice A5 v14.length c5))
  have HG15 := Lib.hid (show Goes W (W14.setCell ⟨X, 5, none⟩ (.slice A5 v14.length c5)) p q B a14 e14 from HG14.out.setNew HW.out X (by omega) 5 (.slice A5 v14.length c5))
  have HF15 := Lib.hid (FC.set HF14.out X 5 (.slice A5 v14.length c5) (by simp; omega))
  generalize W14.setCell ⟨X, 5, none⟩ (.slice A5 v14.length c5) = W15 at *
  clear HX14 HZ14 HR14 HG14 HF14
  clear s0 s1 s2 sf slt x0 x1 x2 x3 x4 x5 x6 x7 x8 xf0 xf1 xf2 xf3 xf4 xf5 xf6 xf7 xf8 xlt z0 z1 z2 z3 z4 z5 z6 z7 z8 zf0 zf1 zf2 zf3 zf4 zf5 zf6 zf7 zf8 zlt
  obtain ⟨s0, s1, s2, sf, slt⟩ := HR15.out.cells
  obtain ⟨x0, x1, x2, x3, x4, x5, x6, x7, x8⟩ := insC_cells HX15.out
  obtain ⟨xf0, xf1, xf2, xf3, xf4, xf5, xf6, xf7, xf8, xlt⟩ := insC_frozen HX15.out
  obtain ⟨z0, z1, z2, z3, z4, z5, z6, z7, z8⟩ := insC_cells HZ15.out
  obtain ⟨zf0, zf1, zf2, zf3, zf4, zf5, zf6, zf7, zf8, zlt⟩ := insC_frozen HZ15.out
  have hvb := u32_bound B a14 e14 HB.out
  have H := Lib.hid (U32_any W15 p q B a14 e14 HG15.out.1 HB.out)
  generalize rdOf (u32M B a14) a14 e14 = t at *
  obtain ⟨v25, a25, e25⟩ := t
  simp only at HV
  obtain ⟨hv25, hw25⟩ := hvb
  refine H.out.mono ?_
  rintro E W25 ⟨rfl, hG⟩
  have hG0 : Goes W15 W25 p q B a25 e25 := hG
  have HR25 := Lib.hid (HR15.out.goes hRp hG0)
  have HX25 := Lib.hid (HX15.out.grown hG0.2 (by simp; omega))
  have HZ25 := Lib.hid (HZ15.out.grown hG0.2 (by simp; omega))
  have HG25 := Lib.hid (HG15.out.trans hG0)
  have HF25 := Lib.hid (FC.goes HF15.out hG0 (by simp; omega))
  clear hG hG0 H HR15 HX15 HZ15 HG15 HF15
  clear s0 s1 s2 sf slt x0 x1 x2 x3 x4 x5 x6 x7 x8 xf0 xf1 xf2 xf3 xf4 xf5 xf6 xf7 xf8 xlt z0 z1 z2 z3 z4 z5 z6 z7 z8 zf0 zf1 zf2 zf3 zf4 zf5 zf6 zf7 zf8 zlt
  obtain ⟨s0, s1, s2, sf, slt⟩ := HR25.out.cells
  obtain ⟨x0, x1, x2, x3, x4, x5, x6, x7, x8⟩ := insC_cells HX25.out
  obtain ⟨xf0, xf1, xf2, xf3, xf4, xf5, xf6, xf7, xf8, xlt⟩ := insC_frozen HX25.out
  obtain ⟨z0, z1, z2, z3, z4, z5, z6, z7, z8⟩ := insC_cells HZ25.out
  obtain ⟨zf0, zf1, zf2, zf3, zf4, zf5, zf6, zf7, zf8, zlt⟩ := insC_frozen HZ25.out
  go_wp2_with fail
  have HX26 := Lib.hid (show Blk (W25.setCell ⟨X, 2, none⟩ (.int .u32 v25)) X (insC opc 0 v25 0 0 (.slice A5 v14.length c5) (.slice none 0 0) (.slice none 0 0) false) 153 from by have := HX25.out.set 2 (.int .u32 v25); simpa [insC] using this)
  have HZ26 := Lib.hid (show Blk (W25.setCell ⟨X, 2, none⟩ (.int .u32 v25)) W.heap.size zeroC 153 from HZ25.out.set_other ⟨X, 2, none⟩ (.int .u32 v25) (by simp; omega))
  have HR26 := Lib.hid (show Rp (W25.setCell ⟨X, 2, none⟩ (.int .u32 v25)) R p sat deep from HR25.out.other X (by omega) 2 (.int .u32 v25))
  have HG26 := Lib.hid (show Goes W (W25.setCell ⟨X, 2, none⟩ (.int .u32 v25)) p q B a25 e25 from HG25.out.setNew HW.out X (by omega) 2 (.int .u32 v25))
  have HF26 := Lib.hid (FC.set HF25.out X 2 (.int .u32 v25) (by simp; omega))
  clear HX25 HZ25 HR25 HG25 HF25
  clear s0 s1 s2 sf slt x0 x1 x2 x3 x4 x5 x6 x7 x8 xf0 xf1 xf2 xf3 xf4 xf5 xf6 xf7 xf8 xlt z0 z1 z2 z3 z4 z5 z6 z7 z8 zf0 zf1 zf2 zf3 zf4 zf5 zf6 zf7 zf8 zlt
  change bodyPost _ _ _ Exit.ret _ (put9 (W25.setCell ⟨X, 2, none⟩ (.int .u32 v25)) W.heap.size (.int .i64 opc) (.int .u8 0) (.int .u32 v25) (.int .u32 0) (.int .u64 0) (.slice A5 v14.length c5) (.slice none 0 0) (.slice none 0 0) (.bool false))
  have hgF : Goes W (put9 (W25.setCell ⟨X, 2, none⟩ (.int .u32 v25)) W.heap.size (.int .i64 opc) (.int .u8 0) (.int .u32 v25) (.int .u32 0) (.int .u64 0) (.slice A5 v14.length c5) (.slice none 0 0) (.slice none 0 0) (.bool false)) p q B a25 e25 := put9_goes HW.out HG26.out _ (Nat.le_refl _) _ _ _ _ _ _ _ _ _
  have hbF := put9_blk HZ26.out (.int .i64 opc) (.int .u8 0) (.int .u32 v25) (.int .u32 0) (.int .u64 0) (.slice A5 v14.length c5) (.slice none 0 0) (.slice none 0 0) (.bool false)
  have hFF := put9_FC HF26.out W.heap.size (by simp; omega) (.int .i64 opc) (.int .u8 0) (.int .u32 v25) (.int .u32 0) (.int .u64 0) (.slice A5 v14.length c5) (.slice none 0 0) (.slice none 0 0) (.bool false)
  generalize put9 (W25.setCell ⟨X, 2, none⟩ (.int .u32 v25)) W.heap.size (.int .i64 opc) (.int .u8 0) (.int .u32 v25) (.int .u32 0) (.int .u64 0) (.slice A5 v14.length c5) (.slice none 0 0) (.slice none 0 0) (.bool false) = V9 at *
  obtain ⟨y0, y1, y2, y3, y4, y5, y6, y7, y8⟩ := insC_cells hbF
  rw [HV.out]
  have HGF := Lib.hid hgF
  have HFF := Lib.hid hFF
  refine bodyPost_ret (v := .agg (insC opc 0 v25 0 0 (.slice A5 v14.length c5) (.slice none 0 0) (.slice none 0 0) false)) (by simp [results, Tryz.results141, go_sem, y0, y1, y2, y3, y4, y5, y6, y7, y8, insC]) rfl ⟨.mk opc 0 v25 0 0 v14 [] [] false, A5, none, none, c5, 0, 0, rfl, ?_, fun _ => rfl, HGF.out⟩
  refine ins_mkF (x := .mk opc 0 v25 0 0 v14 [] [] false) (nest_wf hopc.1 hopc.2) rfl (show (Lit.int .u32 v25).wf = true from by simp [Lit.wf, IntKind.min, IntKind.max, IntKind.signed, IntKind.bits]; omega) rfl rfl (HFF.out.mono ?_) FC.nil FC.nil hl5 (Nat.le_refl _) (Nat.le_refl _)
  intro k hk; exact Nat.le_trans (Nat.le_of_lt hZF) hk
 by_cases c5 : i = 5
 ·obtain rfl : i = 5 := c5
  have HV := Lib.hid (show bodyM bk B opc 5 a1 = (.mk opc 0 (rdOf (u32M B a1) a1 0).1 0 0 [] [] [] false, (zeroM B (rdOf (u32M B a1) a1 0).2.1 (rdOf (u32M B a1) a1 0).2.2).1, (zeroM B (rdOf (u32M B a1) a1 0).2.1 (rdOf (u32M B a1) a1 0).2.2).2) from rfl)
  obtain ⟨s0, s1, s2, sf, slt⟩ := HR4.out.cells
  obtain ⟨x0, x1, x2, x3, x4, x5, x6, x7, x8⟩ := insC_cells HX4.out
  obtain ⟨xf0, xf1, xf2, xf3, xf4, xf5, xf6, xf7, xf8, xlt⟩ := insC_frozen HX4.out
  obtain ⟨z0, z1, z2, z3, z4, z5, z6, z7, z8⟩ := insC_cells HZ4.out
  obtain ⟨zf0, zf1, zf2, zf3, zf4, zf5, zf6, zf7, zf8, zlt⟩ := insC_frozen HZ4.out
  go_wp2_with fail
  have hvb := u32_bound B a1 0 HB.out
  have H := Lib.hid (U32_any W4 p q B a1 0 HG4.out.1 HB.out)
  generalize rdOf (u32M B a1) a1 0 = t at *
  obtain ⟨v14, a14, e14⟩ := t
  simp only at HV
  obtain ⟨hv14, hw14⟩ := hvb
  refine H.out.mono ?_
  rintro E W14 ⟨rfl, hG⟩
  have hG0 : Goes W4 W14 p q B a14 e14 := hG
  have HR14 := Lib.hid (HR4.out.goes hRp hG0)
  have HX14 := Lib.hid (HX4.out.grown hG0.2 (by simp; omega))
  have HZ14 := Lib.hid (HZ4.out.grown hG0.2 (by simp; omega))
  have HG14 := Lib.hid (HG4.out.trans hG0)
  clear hG hG0 H HR4 HX4 HZ4 HG4
  clear s0 s1 s2 sf slt x0 x1 x2 x3 x4 x5 x6 x7 x8 xf0 xf1 xf2 xf3 xf4 xf5 xf6 xf7 xf8 xlt z0 z1 z2 z3 z4 z5 z6 z7 z8 zf0 zf1 zf2 zf3 zf4 zf5 zf6 zf7 zf8 zlt
  obtain ⟨s0, s1, s2, sf, slt⟩ := HR14.out.cells
  obtain ⟨x0, x1, x2, x3, x4, x5, x6, x7, x8⟩ := insC_cells HX14.out
  obtain ⟨xf0, xf1, xf2, xf3, xf4, xf5, xf6, xf7, xf8, xlt⟩ := insC_frozen HX14.out
  obtain ⟨z0, z1, z2, z3, z4, z5, z6, z7, z8⟩ := insC_cells HZ14.out
  obtain ⟨zf0, zf1, zf2, zf3, zf4, zf5, zf6, zf7, zf8, zlt⟩ := insC_frozen HZ14.out
  go_wp2_with fail
  have HX15 := Lib.hid (show Blk (W14.setCell ⟨X, 2, none⟩ (.int .u32 v14)) X (insC opc 0 v14 0 0 (.slice none 0 0) (.slice none 0 0) (.slice none 0 0) false) 153 from by have := HX14.out.set 2 (.int .u32 v14); simpa [insC] using this)
  have HZ15 := Lib.hid (show Blk (W14.setCell ⟨X, 2, none⟩ (.int .u32 v14)) W.heap.size zeroC 153 from HZ14.out.set_other ⟨X, 2, none⟩ (.int .u32 v14) (by simp; omega))
  have HR15 := Lib.hid (show Rp (W14.setCell ⟨X, 2, none⟩ (.int .u32 v14)) R p sat deep from HR14.out.other X (by omega) 2 (.int .u32 v14))
  have HG15 := Lib.hid (show Goes W (W14.setCell ⟨X, 2, none⟩ (.int .u32 v14)) p q B a14 e14 from HG14.out.setNew HW.out X (by omega) 2 (.int .u32 v14))
  generalize W14.setCell ⟨X, 2, none⟩ (.int .u32 v14) = W15 at *
  clear HX14 HZ14 HR14 HG14
  clear s0 s1 s2 sf slt x0 x1 x2 x3 x4 x5 x6 x7 x8 xf0 xf1 xf2 xf3 xf4 xf5 xf6 xf7 xf8 xlt z0 z1 z2 z3 z4 z5 z6 z7 z8 zf0 zf1 zf2 zf3 zf4 zf5 zf6 zf7 zf8 zlt
  obtain ⟨s0, s1, s2, sf, slt⟩ := HR15.out.cells
  obtain ⟨x0, x1, x2, x3, x4, x5, x6, x7, x8⟩ := insC_cells HX15.out
  obtain ⟨xf0, xf1, xf2, xf3, xf4, xf5, xf6, xf7, xf8, xlt⟩ := insC_frozen HX15.out
  obtain ⟨z0, z1, z2, z3, z4, z5, z6, z7, z8⟩ := insC_cells HZ15.out
  obtain ⟨zf0, zf1, zf2, zf3, zf4, zf5, zf6, zf7, zf8, zlt⟩ := insC_frozen HZ15.out
  have H := Lib.hid (zero_any W15 R p q sat deep B a14 e14 HR15.out hRp HG15.out.1 HB.out)
  generalize zeroM B a14 e14 = t at *
  obtain ⟨a25, e25⟩ := t
  simp only at HV
  refine H.out.mono ?_
  rintro E W25 ⟨rfl, hG⟩
  have hG0 : Goes W15 W25 p q B a25 e25 := hG
  have HR25 := Lib.hid (HR15.out.goes hRp hG0)
  have HX25 := Lib.hid (HX15.out.grown hG0.2 (by simp; omega))
  have HZ25 := Lib.hid (HZ15.out.grown hG0.2 (by simp; omega))
  have HG25 := Lib.hid (HG15.out.trans hG0)
  clear hG hG0 H HR15 HX15 HZ15 HG15
  clear s0 s1 s2 sf slt x0 x1 x2 x3 x4 x5 x6 x7 x8 xf0 xf1 xf2 xf3 xf4 xf5 xf6 xf7 xf8 xlt z0 z1 z2 z3 z4 z5 z6 z7 z8 zf0 zf1 zf2 zf3 zf4 zf5 zf6 zf7 zf8 zlt
  obtain ⟨s0, s1, s2, sf, slt⟩ := HR25.out.cells
  obtain ⟨x0, x1, x2, x3, x4, x5, x6, x7, x8⟩ := insC_cells HX25.out
  obtain ⟨xf0, xf1, xf2, xf3, xf4, xf5, xf6, xf7, xf8, xlt⟩ := insC_frozen HX25.out
  obtain ⟨z0, z1, z2, z3, z4, z5, z6, z7, z8⟩ := insC_cells HZ25.out
  obtain ⟨zf0, zf1, zf2, zf3, zf4, zf5, zf6, zf7, zf8, zlt⟩ := insC_frozen HZ25.out
  go_wp2_with fail
  clear s0 s1 s2 sf slt x0 x1 x2 x3 x4 x5 x6 x7 x8 xf0 xf1 xf2 xf3 xf4 xf5 xf6 xf7 xf8 xlt z0 z1 z2 z3 z4 z5 z6 z7 z8 zf0 zf1 zf2 zf3 zf4 zf5 zf6 zf7 zf8 zlt
  change bodyPost _ _ _ Exit.ret _ (put9 W25 W.heap.size (.int .i64 opc) (.int .u8 0) (.int .u32 v14) (.int .u32 0) (.int .u64 0) (.slice none 0 0) (.slice none 0 0) (.slice none 0 0) (.bool false))
  have hgF : Goes W (put9 W25 W.heap.size (.int .i64 opc) (.int .u8 0) (.int .u32 v14) (.int .u32 0) (.int .u64 0) (.slice none 0 0) (.slice none 0 0) (.slice none 0 0) (.bool false)) p q B a25 e25 := put9_goes HW.out HG25.out _ (Nat.le_refl _) _ _ _ _ _ _ _ _ _
  have hbF := put9_blk HZ25.out (.int .i64 opc) (.int .u8 0) (.int .u32 v14) (.int .u32 0) (.int .u64 0) (.slice none 0 0) (.slice none 0 0) (.slice none 0 0) (.bool false)
  generalize put9 W25 W.heap.size (.int .i64 opc) (.int .u8 0) (.int .u32 v14) (.int .u32 0) (.int .u64 0) (.slice none 0 0) (.slice none 0 0) (.slice none 0 0) (.bool false) = V9 at *
  obtain ⟨y0, y1, y2, y3, y4, y5, y6, y7, y8⟩ := insC_cells hbF
  rw [HV.out]
  have HGF := Lib.hid hgF
  refine bodyPost_ret (v := .agg (insC opc 0 v14 0 0 (.slice none 0 0) (.slice none 0 0) (.slice none 0 0) false)) (by simp [results, Tryz.results141, go_sem, y0, y1, y2, y3, y4, y5, y6, y7, y8, insC]) rfl ⟨.mk opc 0 v14 0 0 [] [] [] false, none, none, none, 0, 0, 0, rfl, ?_, fun _ => rfl, HGF.out⟩
  exact fk_flat hopc (by omega) (by omega) (by omega) (by omega)
 by_cases c6 : i = 6
 ·obtain rfl : i = 6 := c6
  have HV := Lib.hid (show bodyM bk B opc 6 a1 = (.mk opc 0 (rdOf (u32M B a1) a1 0).1 (rdOf (u32M B (rdOf (u32M B a1) a1 0).2.1) (rdOf (u32M B a1) a1 0).2.1 (rdOf (u32M B a1) a1 0).2.2).1 0 [] [] [] false, (rdOf (u32M B (rdOf (u32M B a1) a1 0).2.1) (rdOf (u32M B a1) a1 0).2.1 (rdOf (u32M B a1) a1 0).2.2).2.1, (rdOf (u32M B (rdOf (u32M B a1) a1 0).2.1) (rdOf (u32M B a1) a1 0).2.1 (rdOf (u32M B a1) a1 0).2.2).2.2) from rfl)
  obtain ⟨s0, s1, s2, sf, slt⟩ := HR4.out.cells
  obtain ⟨x0, x1, x2, x3, x4, x5, x6, x7, x8⟩ := insC_cells HX4.out
  obtain ⟨xf0, xf1, xf2, xf3, xf4, xf5, xf6, xf7, xf8, xlt⟩ := insC_frozen HX4.out
  obtain ⟨z0, z1, z2, z3, z4, z5, z6, z7, z8⟩ := insC_cells HZ4.out
  obtain ⟨zf0, zf1, zf2, zf3, zf4, zf5, zf6, zf7, zf8, zlt⟩ := insC_frozen HZ4.out
  go_wp2_with fail
  have hvb := u32_bound B a1 0 HB.out
  have H := Lib.hid (U32_any W4 p q B a1 0 HG4.out.1 HB.out)
  generalize rdOf (u32M B a1) a1 0 = t at *
  obtain ⟨v14, a14, e14⟩ := t
  simp only at HV
  obtain ⟨hv14, hw14⟩ := hvb
  refine H.out.mono ?_
  rintro E W14 ⟨rfl, hG⟩
  have hG0 : Goes W4 W14 p q B a14 e14 := hG
  have HR14 := Lib.hid (HR4.out.goes hRp hG0)
  have HX14 := Lib.hid (HX4.out.grown hG0.2 (by simp; omega))
  have HZ14 := Lib.hid (HZ4.out.grown hG0.2 (by simp; omega))
  have HG14 := Lib.hid (HG4.out.trans hG0)
  clear hG hG0 H HR4 HX4 HZ4 HG4
  clear s0 s1 s2 sf slt x0 x1 x2 x3 x4 x5 x6 x7 x8 xf0 xf1 xf2 xf3 xf4 xf5 xf6 xf7 xf8 xlt z0 z1 z2 z3 z4 z5 z6 z7 z8 zf0 zf1 zf2 zf3 zf4 zf5 zf6 zf7 zf8 zlt
  obtain ⟨s0, s1, s2, sf, slt⟩ := HR14.out.cells
  obtain ⟨x0, x1, x2, x3, x4, x5, x6, x7, x8⟩ := insC_cells HX14.out
  obtain ⟨xf0, xf1, xf2, xf3, xf4, xf5, xf6, xf7, xf8, xlt⟩ := insC_frozen HX14.out
  obtain ⟨z0, z1, z2, z3, z4, z5, z6, z7, z8⟩ := insC_cells HZ14.out
  obtain ⟨zf0, zf1, zf2, zf3, zf4, zf5, zf6, zf7, zf8, zlt⟩ := insC_frozen HZ14.out
  go_wp2_with fail
  have HX15 := Lib.hid (show Blk (W14.setCell ⟨X, 2, none⟩ (.int .u32 v14)) X (insC opc 0 v14 0 0 (.slice none 0 0) (.slice none 0 0) (.slice none 0 0) false) 153 from by have := HX14.out.set 2 (.int .u32 v14); simpa [insC] using this)
  have HZ15 := Lib.hid (show Blk (W14.setCell ⟨X, 2, none⟩ (.int .u32 v14)) W.heap.size zeroC 153 from HZ14.out.set_other ⟨X, 2, none⟩ (.int .u32 v14) (by simp; omega))
  have HR15 := Lib.hid (show Rp (W14.setCell ⟨X, 2, none⟩ (.int .u32 v14)) R p sat deep from HR14.out.other X (by omega) 2 (.int .u32 v14))
  have HG15 := Lib.hid (show Goes W (W14.setCell ⟨X, 2, none⟩ (.int .u32 v14)) p q B a14 e14 from HG14.out.setNew HW.out X (by omega) 2 (.int .u32 v14))
  generalize W14.setCell ⟨X, 2, none⟩ (.int .u32 v14) = W15 at *
  clear HX14 HZ14 HR14 HG14
  clear s0 s1 s2 sf slt x0 x1 x2 x3 x4 x5 x6 x7 x8 xf0 xf1 xf2 xf3 xf4 xf5 xf6 xf7 xf8 xlt z0 z1 z2 z3 z4 z5 z6 z7 z8 zf0 zf1 zf2 zf3 zf4 zf5 zf6 zf7 zf8 zlt
  obtain ⟨s0, s1, s2, sf, slt⟩ := HR15.out.cells
  obtain ⟨x0, x1, x2, x3, x4, x5, x6, x7, x8⟩ := insC_cells HX15.out
  obtain ⟨xf0, xf1, xf2, xf3, xf4, xf5, xf6, xf7, xf8, xlt⟩ := insC_frozen HX15.out
  obtain ⟨z0, z1, z2, z3, z4, z5, z6, z7, z8⟩ := insC_cells HZ15.out
  obtain ⟨zf0, zf1, zf2, zf3, zf4, zf5, zf6, zf7, zf8, zlt⟩ := insC_frozen HZ15.out
  have hvb := u32_bound B a14 e14 HB.out
  have H := Lib.hid (U32_any W15 p q B a14 e14 HG15.out.1 HB.out)
  generalize rdOf (u32M B a14) a14 e14 = t at *
  obtain ⟨v25, a25, e25⟩ := t
  simp only at HV
  obtain ⟨hv25, hw25⟩ := hvb
  refine H.out.mono ?_
  rintro E W25 ⟨rfl, hG⟩
  have hG0 : Goes W15 W25 p q B a25 e25 := hG
  have HR25 := Lib.hid (HR15.out.goes hRp hG0)
  have HX25 := Lib.hid (HX15.out.grown hG0.2 (by simp; omega))
  have HZ25 := Lib.hid (HZ15.out.grown hG0.2 (by simp; omega))
  have HG25 := Lib.hid (HG15.out.trans hG0)
  clear hG hG0 H HR15 HX15 HZ15 HG15
  clear s0 s1 s2 sf slt x0 x1 x2 x3 x4 x5 x6 x7 x8 xf0 xf1 xf2 xf3 xf4 xf5 xf6 xf7 xf8 xlt z0 z1 z2 z3 z4 z5 z6 z7 z8 zf0 zf1 zf2 zf3 zf4 zf5 zf6 zf7 zf8 zlt
  obtain ⟨s0, s1, s2, sf, slt⟩ := HR25.out.cells
  obtain ⟨x0, x1, x2, x3, x4, x5, x6, x7, x8⟩ := insC_cells HX25.out
  obtain ⟨xf0, xf1, xf2, xf3, xf4, xf5, xf6, xf7, xf8, xlt⟩ := insC_frozen HX25.out
  obtain ⟨z0, z1, z2, z3, z4, z5, z6, z7, z8⟩ := insC_cells HZ25.out
  obtain ⟨zf0, zf1, zf2, zf3, zf4, zf5, zf6, zf7, zf8, zlt⟩ := insC_frozen HZ25.out
  go_wp2_with fail
  have HX26 := Lib.hid (show Blk (W25.setCell ⟨X, 3, none⟩ (.int .u32 v25)) X (insC opc 0 v14 v25 0 (.slice none 0 0) (.slice none 0 0) (.slice none 0 0) false) 153 from by have := HX25.out.set 3 (.int .u32 v25); simpa [insC] using this)
  have HZ26 := Lib.hid (show Blk (W25.setCell ⟨X, 3, none⟩ (.int .u32 v25)) W.heap.size zeroC 153 from HZ25.out.set_other ⟨X, 3, none⟩ (.int .u32 v25) (by simp; omega))
  have HR26 := Lib.hid (show Rp (W25.setCell ⟨X, 3, none⟩ (.int .u32 v25)) R p sat deep from HR25.out.other X (by omega) 3 (.int .u32 v25))
  have HG26 := Lib.hid (show Goes W (W25.setCell ⟨X, 3, none⟩ (.int .u32 v25)) p q B a25 e25 from HG25.out.setNew HW.out X (by omega) 3 (.int .u32 v25))
  clear HX25 HZ25 HR25 HG25
  clear s0 s1 s2 sf slt x0 x1 x2 x3 x4 x5 x6 x7 x8 xf0 xf1 xf2 xf3 xf4 xf5 xf6 xf7 xf8 xlt z0 z1 z2 z3 z4 z5 z6 z7 z8 zf0 zf1 zf2 zf3 zf4 zf5 zf6 zf7 zf8 zlt
  change bodyPost _ _ _ Exit.ret _ (put9 (W25.setCell ⟨X, 3, none⟩ (.int .u32 v25)) W.heap.size (.int .i64 opc) (.int .u8 0) (.int .u32 v14) (.int .u32 v25) (.int .u64 0) (.slice none 0 0) (.slice none 0 0) (.slice none 0 0) (.bool false))
  have hgF : Goes W (put9 (W25.setCell ⟨X, 3, none⟩ (.int .u32 v25)) W.heap.size (.int .i64 opc) (.int .u8 0) (.int .u32 v14) (.int .u32 v25) (.int .u64 0) (.slice none 0 0) (.slice none 0 0) (.slice none 0 0) (.bool false)) p q B a25 e25 := put9_goes HW.out HG26.out _ (Nat.le_refl _) _ _ _ _ _ _ _ _ _
  have hbF := put9_blk HZ26.out (.int .i64 opc) (.int .u8 0) (.int .u32 v14) (.int .u32 v25) (.int .u64 0) (.slice none 0 0) (.slice none 0 0) (.slice none 0 0) (.bool false)
  generalize put9 (W25.setCell ⟨X, 3, none⟩ (.int .u32 v25)) W.heap.size (.int .i64 opc) (.int .u8 0) (.int .u32 v14) (.int .u32 v25) (.int .u64 0) (.slice none 0 0) (.slice none 0 0) (.slice none 0 0) (.bool false) = V9 at *
  obtain ⟨y0, y1, y2, y3, y4, y5, y6, y7, y8⟩ := insC_cells hbF
  rw [HV.out]
  have HGF := Lib.hid hgF
  refine bodyPost_ret (v := .agg (insC opc 0 v14 v25 0 (.slice none 0 0) (.slice none 0 0) (.slice none 0 0) false)) (by simp [results, Tryz.results141, go_sem, y0, y1, y2, y3, y4, y5, y6, y7, y8, insC]) rfl ⟨.mk opc 0 v14 v25 0 [] [] [] false, none, none, none, 0, 0, 0, rfl, ?_, fun _ => rfl, HGF.out⟩
  exact fk_flat hopc (by omega) (by omega) (by omega) (by omega)
 by_cases c7 : i = 7
 ·obtain rfl : i = 7 := c7
  have HV := Lib.hid (show bodyM bk B opc 7 a1 = (.mk opc 0 0 0 0 [] [] [] false, (zeroM B a1 0).1, (zeroM B a1 0).2) from rfl)
  obtain ⟨s0, s1, s2, sf, slt⟩ := HR4.out.cells
  obtain ⟨x0, x1, x2, x3, x4, x5, x6, x7, x8⟩ := insC_cells HX4.out
  obtain ⟨xf0, xf1, xf2, xf3, xf4, xf5, xf6, xf7, xf8, xlt⟩ := insC_frozen HX4.out
  obtain ⟨z0, z1, z2, z3, z4, z5, z6, z7, z8⟩ := insC_cells HZ4.out
  obtain ⟨zf0, zf1, zf2, zf3, zf4, zf5, zf6, zf7, zf8, zlt⟩ := insC_frozen HZ4.out
  go_wp2_with fail
  have H := Lib.hid (zero_any W4 R p q sat deep B a1 0 HR4.out hRp HG4.out.1 HB.out)
  generalize zeroM B a1 0 = t at *
  obtain ⟨a14, e14⟩ := t
  simp only at HV
  refine H.out.mono ?_
  rintro E W14 ⟨rfl, hG⟩
  have hG0 : Goes W4 W14 p q B a14 e14 := hG
  have HR14 := Lib.hid (HR4.out.goes hRp hG0)
  have HX14 := Lib.hid (HX4.out.grown hG0.2 (by simp; omega))
  have HZ14 := Lib.hid (HZ4.out.grown hG0.2 (by simp; omega))
  have HG14 := Lib.hid (HG4.out.trans hG0)
  clear hG hG0 H HR4 HX4 HZ4 HG4
  clear s0 s1 s2 sf slt x0 x1 x2 x3 x4 x5 x6 x7 x8 xf0 xf1 xf2 xf3 xf4 xf5 xf6 xf7 xf8 xlt z0 z1 z2 z3 z4 z5 z6 z7 z8 zf0 zf1 zf2 zf3 zf4 zf5 zf6 zf7 zf8 zlt
  obtain ⟨s0, s1, s2, sf, slt⟩ := HR14.out.cells
  obtain ⟨x0, x1, x2, x3, x4, x5, x6, x7, x8⟩ := insC_cells HX14.out
  obtain ⟨xf0, xf1, xf2, xf3, xf4, xf5, xf6, xf7, xf8, xlt⟩ := insC_frozen HX14.out
  obtain ⟨z0, z1, z2, z3, z4, z5, z6, z7, z8⟩ := insC_cells HZ14.out
  obtain ⟨zf0, zf1, zf2, zf3, zf4, zf5, zf6, zf7, zf8, zlt⟩ := insC_frozen HZ14.out
  go_wp2_with fail
  clear s0 s1 s2 sf slt x0 x1 x2 x3 x4 x5 x6 x7 x8 xf0 xf1 xf2 xf3 xf4 xf5 xf6 xf7 xf8 xlt z0 z1 z2 z3 z4 z5 z6 z7 z8 zf0 zf1 zf2 zf3 zf4 zf5 zf6 zf7 zf8 zlt
  change bodyPost _ _ _ Exit.ret _ (put9 W14 W.heap.size (.int .i64 opc) (.int .u8 0) (.int .u32 0) (.int .u32 0) (.int .u64 0) (.slice none 0 0) (.slice none 0 0) (.slice none 0 0) (.bool false))
  have hgF : Goes W (put9 W14 W.heap.size (.int .i64 opc) (.int .u8 0) (.int .u32 0) (.int .u32 0) (.int .u64 0) (.slice none 0 0) (.slice none 0 0) (.slice none 0 0) (.bool false)) p q B a14 e14 := put9_goes HW.out HG14.out _ (Nat.le_refl _) _ _ _ _ _ _ _ _ _
  have hbF := put9_blk HZ14.out (.int .i64 opc) (.int .u8 0) (.int .u32 0) (.int .u32 0) (.int .u64 0) (.slice none 0 0) (.slice none 0 0) (.slice none 0 0) (.bool false)
  generalize put9 W14 W.heap.size (.int .i64 opc) (.int .u8 0) (.int .u32 0) (.int .u32 0) (.int .u64 0) (.slice none 0 0) (.slice none 0 0) (.slice none 0 0) (.bool false) = V9 at *
  obtain ⟨y0, y1, y2, y3, y4, y5, y6, y7, y8⟩ := insC_cells hbF
  rw [HV.out]
  have HGF := Lib.hid hgF
  refine bodyPost_ret (v := .agg (insC opc 0 0 0 0 (.slice none 0 0) (.slice none 0 0) (.slice none 0 0) false)) (by simp [results, Tryz.results141, go_sem, y0, y1, y2, y3, y4, y5, y6, y7, y8, insC]) rfl ⟨.mk opc 0 0 0 0 [] [] [] false, none, none, none, 0, 0, 0, rfl, ?_, fun _ => rfl, HGF.out⟩
  exact fk_flat hopc (by omega) (by omega) (by omega) (by omega)
 by_cases c8 : i = 8
 ·obtain rfl : i = 8 := c8
  have HV := Lib.hid (show bodyM bk B opc 8 a1 = (.mk opc 0 0 0 (rdOf (s32M B a1) a1 0).1 [] [] [] false, (rdOf (s32M B a1) a1 0).2.1, (rdOf (s32M B a1) a1 0).2.2) from rfl)
  obtain ⟨s0, s1, s2, sf, slt⟩ := HR4.out.cells
  obtain ⟨x0, x1, x2, x3, x4, x5, x6, x7, x8⟩ := insC_cells HX4.out
  obtain ⟨xf0, xf1, xf2, xf3, xf4, xf5, xf6, xf7, xf8, xlt⟩ := insC_frozen HX4.out
  obtain ⟨z0, z1, z2, z3, z4, z5, z6, z7, z8⟩ := insC_cells HZ4.out
  obtain ⟨zf0, zf1, zf2, zf3, zf4, zf5, zf6, zf7, zf8, zlt⟩ := insC_frozen HZ4.out
  go_wp2_with fail
  have hvb := s32_bound B a1 0
  have H := Lib.hid (S32_any W4 p q B a1 0 HG4.out.1 HB.out)
  generalize rdOf (s32M B a1) a1 0 = t at *
  obtain ⟨v14, a14, e14⟩ := t
  simp only at HV
  obtain ⟨hv14, hw14⟩ := hvb
  refine H.out.mono ?_
  rintro E W14 ⟨rfl, hG⟩
  have hG0 : Goes W4 W14 p q B a14 e14 := hG
  have HR14 := Lib.hid (HR4.out.goes hRp hG0)
  have HX14 := Lib.hid (HX4.out.grown hG0.2 (by simp; omega))
  have HZ14 := Lib.hid (HZ4.out.grown hG0.2 (by simp; omega))
  have HG14 := Lib.hid (HG4.out.trans hG0)
  clear hG hG0 H HR4 HX4 HZ4 HG4
  clear s0 s1 s2 sf slt x0 x1 x2 x3 x4 x5 x6 x7 x8 xf0 xf1 xf2 xf3 xf4 xf5 xf6 xf7 xf8 xlt z0 z1 z2 z3 z4 z5 z6 z7 z8 zf0 zf1 zf2 zf3 zf4 zf5 zf6 zf7 zf8 zlt
  obtain ⟨s0, s1, s2, sf, slt⟩ := HR14.out.cells
  obtain ⟨x0, x1, x2, x3, x4, x5, x6, x7, x8⟩ := insC_cells HX14.out
  obtain ⟨xf0, xf1, xf2, xf3, xf4, xf5, xf6, xf7, xf8, xlt⟩ := insC_frozen HX14.out
  obtain ⟨z0, z1, z2, z3, z4, z5, z6, z7, z8⟩ := insC_cells HZ14.out
  obtain ⟨zf0, zf1, zf2, zf3, zf4, zf5, zf6, zf7, zf8, zlt⟩ := insC_frozen HZ14.out
  go_wp2_with fail
  have HX15 := Lib.hid (show Blk (W14.setCell ⟨X, 4, none⟩ (.int .u64 v14)) X (insC opc 0 0 0 v14 (.slice none 0 0) (.slice none 0 0) (.slice none 0 0) false) 153 from by have := HX14.out.set 4 (.int .u64 v14); simpa [insC] using this)
  have HZ15 := Lib.hid (show Blk (W14.setCell ⟨X, 4, none⟩ (.int .u64 v14)) W.heap.size zeroC 153 from HZ14.out.set_other ⟨X, 4, none⟩ (.int .u64 v14) (by simp; omega))
  have HR15 := Lib.hid (show Rp (W14.setCell ⟨X, 4, none⟩ (.int .u64 v14)) R p sat deep from HR14.out.other X (by omega) 4 (.int .u64 v14))
  have HG15 := Lib.hid (show Goes W (W14.setCell ⟨X, 4, none⟩ (.int .u64 v14)) p q B a14 e14 from HG14.out.setNew HW.out X (by omega) 4 (.int .u64 v14))
  clear HX14 HZ14 HR14 HG14
  clear s0 s1 s2 sf slt x0 x1 x2 x3 x4 x5 x6 x7 x8 xf0 xf1 xf2 xf3 xf4 xf5 xf6 xf7 xf8 xlt z0 z1 z2 z3 z4 z5 z6 z7 z8 zf0 zf1 zf2 zf3 zf4 zf5 zf6 zf7 zf8 zlt
  change bodyPost _ _ _ Exit.ret _ (put9 (W14.setCell ⟨X, 4, none⟩ (.int .u64 v14)) W.heap.size (.int .i64 opc) (.int .u8 0) (.int .u32 0) (.int .u32 0) (.int .u64 v14) (.slice none 0 0) (.slice none 0 0) (.slice none 0 0) (.bool false))
  have hgF : Goes W (put9 (W14.setCell ⟨X, 4, none⟩ (.int .u64 v14)) W.heap.size (.int .i64 opc) (.int .u8 0) (.int .u32 0) (.int .u32 0) (.int .u64 v14) (.slice none 0 0) (.slice none 0 0) (.slice none 0 0) (.bool false)) p q B a14 e14 := put9_goes HW.out HG15.out _ (Nat.le_refl _) _ _ _ _ _ _ _ _ _
  have hbF := put9_blk HZ15.out (.int .i64 opc) (.int .u8 0) (.int .u32 0) (.int .u32 0) (.int .u64 v14) (.slice none 0 0) (.slice none 0 0) (.slice none 0 0) (.bool false)
  generalize put9 (W14.setCell ⟨X, 4, none⟩ (.int .u64 v14)) W.heap.size (.int .i64 opc) (.int .u8 0) (.int .u32 0) (.int .u32 0) (.int .u64 v14) (.slice none 0 0) (.slice none 0 0) (.slice none 0 0) (.bool false) = V9 at *
  obtain ⟨y0, y1, y2, y3, y4, y5, y6, y7, y8⟩ := insC_cells hbF
  rw [HV.out]
  have HGF := Lib.hid hgF
  refine bodyPost_ret (v := .agg (insC opc 0 0 0 v14 (.slice none 0 0) (.slice none 0 0) (.slice none 0 0) false)) (by simp [results, Tryz.results141, go_sem, y0, y1, y2, y3, y4, y5, y6, y7, y8, insC]) rfl ⟨.mk opc 0 0 0 v14 [] [] [] false, none, none, none, 0, 0, 0, rfl, ?_, fun _ => rfl, HGF.out⟩
  exact fk_flat hopc (by omega) (by omega) (by omega) (by omega)
 by_cases c9 : i = 9
 ·obtain rfl : i = 9 := c9
  have HV := Lib.hid (show bodyM bk B opc 9 a1 = (.mk opc 0 0 0 (rdOf (s64M B a1) a1 0).1 [] [] [] false, (rdOf (s64M B a1) a1 0).2.1, (rdOf (s64M B a1) a1 0).2.2) from rfl)
  obtain ⟨s0, s1, s2, sf, slt⟩ := HR4.out.cells
  obtain ⟨x0, x1, x2, x3, x4, x5, x6, x7, x8⟩ := insC_cells HX4.out
  obtain ⟨xf0, xf1, xf2, xf3, xf4, xf5, xf6, xf7, xf8, xlt⟩ := insC_frozen HX4.out
  obtain ⟨z0, z1, z2, z3, z4, z5, z6, z7, z8⟩ := insC_cells HZ4.out
  obtain ⟨zf0, zf1, zf2, zf3, zf4, zf5, zf6, zf7, zf8, zlt⟩ := insC_frozen HZ4.out
  go_wp2_with fail
  have hvb := s64_bound B a1 0 HB.out
  have H := Lib.hid (S64_any W4 p q B a1 0 HG4.out.1 HB.out)
  generalize rdOf (s64M B a1) a1 0 = t at *
  obtain ⟨v14, a14, e14⟩ := t
  simp only at HV
  obtain ⟨hv14, hw14⟩ := hvb
  refine H.out.mono ?_
  rintro E W14 ⟨rfl, hG⟩
  have hG0 : Goes W4 W14 p q B a14 e14 := hG
  have HR14 := Lib.hid (HR4.out.goes hRp hG0)
  have HX14 := Lib.hid (HX4.out.grown hG0.2 (by simp; omega))
  have HZ14 := Lib.hid (HZ4.out.grown hG0.2 (by simp; omega))
  have HG14 := Lib.hid (HG4.out.trans hG0)
  clear hG hG0 H HR4 HX4 HZ4 HG4
  clear s0 s1 s2 sf slt x0 x1 x2 x3 x4 x5 x6 x7 x8 xf0 xf1 xf2 xf3 xf4 xf5 xf6 xf7 xf8 xlt z0 z1 z2 z3 z4 z5 z6 z7 z8 zf0 zf1 zf2 zf3 zf4 zf5 zf6 zf7 zf8 zlt
  obtain ⟨s0, s1, s2, sf, slt⟩ := HR14.out.cells
  obtain ⟨x0, x1, x2, x3, x4, x5, x6, x7, x8⟩ := insC_cells HX14.out
  obtain ⟨xf0, xf1, xf2, xf3, xf4, xf5, xf6, xf7, xf8, xlt⟩ := insC_frozen HX14.out
  obtain ⟨z0, z1, z2, z3, z4, z5, z6, z7, z8⟩ := insC_cells HZ14.out
  obtain ⟨zf0, zf1, zf2, zf3, zf4, zf5, zf6, zf7, zf8, zlt⟩ := insC_frozen HZ14.out
  go_wp2_with fail
  have HX15 := Lib.hid (show Blk (W14.setCell ⟨X, 4, none⟩ (.int .u64 v14)) X (insC opc 0 0 0 v14 (.slice none 0 0) (.slice none 0 0) (.slice none 0 0) false) 153 from by have := HX14.out.set 4 (.int .u64 v14); simpa [insC] using this)
  have HZ15 := Lib.hid (show Blk (W14.setCell ⟨X, 4, none⟩ (.int .u64 v14)) W.heap.size zeroC 153 from HZ14.out.set_other ⟨X, 4, none⟩ (.int .u64 v14) (by simp; omega))
  have HR15 := Lib.hid (show Rp (W14.setCell ⟨X, 4, none⟩ (.int .u64 v14)) R p sat deep from HR14.out.other X (by omega) 4 (.int .u64 v14))
  have HG15 := Lib.hid (show Goes W (W14.setCell ⟨X, 4, none⟩ (.int .u64 v14)) p q B a14 e14 from HG14.out.setNew HW.out X (by omega) 4 (.int .u64 v14))
  clear HX14 HZ14 HR14 HG14
  clear s0 s1 s2 sf slt x0 x1 x2 x3 x4 x5 x6 x7 x8 xf0 xf1 xf2 xf3 xf4 xf5 xf6 xf7 xf8 xlt z0 z1 z2 z3 z4 z5 z6 z7 z8 zf0 zf1 zf2 zf3 zf4 zf5 zf6 zf7 zf8 zlt
  change bodyPost _ _ _ Exit.ret _ (put9 (W14.setCell ⟨X, 4, none⟩ (.int .u64 v14)) W.heap.size (.int .i64 opc) (.int .u8 0) (.int .u32 0) (.int .u32 0) (.int .u64 v14) (.slice none 0 0) (.slice none 0 0) (.slice none 0 0) (.bool false))
  have hgF : Goes W (put9 (W14.setCell ⟨X, 4, none⟩ (.int .u64 v14)) W.heap.size (.int .i64 opc) (.int .u8 0) (.int .u32 0) (.int .u32 0) (.int .u64 v14) (.slice none 0 0) (.slice none 0 0) (.slice none 0 0) (.bool false)) p q B a14 e14 := put9_goes HW.out HG15.out _ (Nat.le_refl _) _ _ _ _ _ _ _ _ _
  have hbF := put9_blk HZ15.out (.int .i64 opc) (.int .u8 0) (.int .u32 0) (.int .u32 0) (.int .u64 v14) (.slice none 0 0) (.slice none 0 0) (.slice none 0 0) (.bool false)
  generalize put9 (W14.setCell ⟨X, 4, none⟩ (.int .u64 v14)) W.heap.size (.int .i64 opc) (.int .u8 0) (.int .u32 0) (.int .u32 0) (.int .u64 v14) (.slice none 0 0) (.slice none 0 0) (.slice none 0 0) (.bool false) = V9 at *
  obtain ⟨y0, y1, y2, y3, y4, y5, y6, y7, y8⟩ := insC_cells hbF
  rw [HV.out]
  have HGF := Lib.hid hgF
  refine bodyPost_ret (v := .agg (insC opc 0 0 0 v14 (.slice none 0 0) (.slice none 0 0) (.slice none 0 0) false)) (by simp [results, Tryz.results141, go_sem, y0, y1, y2, y3, y4, y5, y6, y7, y8, insC]) rfl ⟨.mk opc 0 0 0 v14 [] [] [] false, none, none, none, 0, 0, 0, rfl, ?_, fun _ => rfl, HGF.out⟩
  exact fk_flat hopc (by omega) (by omega) (by omega) (by omega)
 by_cases c10 : i = 10
 ·obtain rfl : i = 10 := c10
  have HV := Lib.hid (show bodyM bk B opc 10 a1 = (.mk opc 0 0 0 (rdOf (fixM B a1 4) a1 0).1 [] [] [] false, (rdOf (fixM B a1 4) a1 0).2.1, (rdOf (fixM B a1 4) a1 0).2.2) from rfl)
  obtain ⟨s0, s1, s2, sf, slt⟩ := HR4.out.cells
  obtain ⟨x0, x1, x2, x3, x4, x5, x6, x7, x8⟩ := insC_cells HX4.out
  obtain ⟨xf0, xf1, xf2, xf3, xf4, xf5, xf6, xf7, xf8, xlt⟩ := insC_frozen HX4.out
  obtain ⟨z0, z1, z2, z3, z4, z5, z6, z7, z8⟩ := insC_cells HZ4.out
  obtain ⟨zf0, zf1, zf2, zf3, zf4, zf5, zf6, zf7, zf8, zlt⟩ := insC_frozen HZ4.out
  go_wp2_with fail
  have hvb := fix_bound B a1 4 0 (by omega) HB.out
  have H := Lib.hid (Fixed_any W4 p q B a1 4 0 (.inl rfl) HG4.out.1 HB.out)
  generalize rdOf (fixM B a1 4) a1 0 = t at *
  obtain ⟨v14, a14, e14⟩ := t
  simp only at HV
  obtain ⟨hv14, hw14⟩ := hvb
  refine H.out.mono ?_
  rintro E W14 ⟨rfl, hG⟩
  have hG0 : Goes W4 W14 p q B a14 e14 := hG
  have HR14 := Lib.hid (HR4.out.goes hRp hG0)
  have HX14 := Lib.hid (HX4.out.grown hG0.2 (by simp; omega))
  have HZ14 := Lib.hid (HZ4.out.grown hG0.2 (by simp; omega))
  have HG14 := Lib.hid (HG4.out.trans hG0)
  clear hG hG0 H HR4 HX4 HZ4 HG4
  clear s0 s1 s2 sf slt x0 x1 x2 x3 x4 x5 x6 x7 x8 xf0 xf1 xf2 xf3 xf4 xf5 xf6 xf7 xf8 xlt z0 z1 z2 z3 z4 z5 z6 z7 z8 zf0 zf1 zf2 zf3 zf4 zf5 zf6 zf7 zf8 zlt
  obtain ⟨s0, s1, s2, sf, slt⟩ := HR14.out.cells
  obtain ⟨x0, x1, x2, x3, x4, x5, x6, x7, x8⟩ := insC_cells HX14.out
  obtain ⟨xf0, xf1, xf2, xf3, xf4, xf5, xf6, xf7, xf8, xlt⟩ := insC_frozen HX14.out
  obtain ⟨z0, z1, z2, z3, z4, z5, z6, z7, z8⟩ := insC_cells HZ14.out
  obtain ⟨zf0, zf1, zf2, zf3, zf4, zf5, zf6, zf7, zf8, zlt⟩ := insC_frozen HZ14.out
  go_wp2_with fail
  have HX15 := Lib.hid (show Blk (W14.setCell ⟨X, 4, none⟩ (.int .u64 v14)) X (insC opc 0 0 0 v14 (.slice none 0 0) (.slice none 0 0) (.slice none 0 0) false) 153 from by have := HX14.out.set 4 (.int .u64 v14); simpa [insC] using this)
  have HZ15 := Lib.hid (show Blk (W14.setCell ⟨X, 4, none⟩ (.int .u64 v14)) W.heap.size zeroC 153 from HZ14.out.set_other ⟨X, 4, none⟩ (.int .u64 v14) (by simp; omega))
  have HR15 := Lib.hid (show Rp (W14.setCell ⟨X, 4, none⟩ (.int .u64 v14)) R p sat deep from HR14.out.other X (by omega) 4 (.int .u64 v14))
  have HG15 := Lib.hid (show Goes W (W14.setCell ⟨X, 4, none⟩ (.int .u64 v14)) p q B a14 e14 from HG14.out.setNew HW.out X (by omega) 4 (.int .u64 v14))
  clear HX14 HZ14 HR14 HG14
  clear s0 s1 s2 sf slt x0 x1 x2 x3 x4 x5 x6 x7 x8 xf0 xf1 xf2 xf3 xf4 xf5 xf6 xf7 xf8 xlt z0 z1 z2 z3 z4 z5 z6 z7 z8 zf0 zf1 zf2 zf3 zf4 zf5 zf6 zf7 zf8 zlt
  change bodyPost _ _ _ Exit.ret _ (put9 (W14.setCell ⟨X, 4, none⟩ (.int .u64 v14)) W.heap.size (.int .i64 opc) (.int .u8 0) (.int .u32 0) (.int .u32 0) (.int .u64 v14) (.slice none 0 0) (.slice none 0 0) (.slice none 0 0) (.bool false))
  have hgF : Goes W (put9 (W14.setCell ⟨X, 4, none⟩ (.int .u64 v14)) W.heap.size (.int .i64 opc) (.int .u8 0) (.int .u32 0) (.int .u32 0) (.int .u64 v14) (.slice none 0 0) (.slice none 0 0) (.slice none 0 0) (.bool false)) p q B a14 e14 := put9_goes HW.out HG15.out _ (Nat.le_refl _) _ _ _ _ _ _ _ _ _
  have hbF := put9_blk HZ15.out (.int .i64 opc) (.int .u8 0) (.int .u32 0) (.int .u32 0) (.int .u64 v14) (.slice none 0 0) (.slice none 0 0) (.slice none 0 0) (.bool false)
  generalize put9 (W14.setCell ⟨X, 4, none⟩ (.int .u64 v14)) W.heap.size (.int .i64 opc) (.int .u8 0) (.int .u32 0) (.int .u32 0) (.int .u64 v14) (.slice none 0 0) (.slice none 0 0) (.slice none 0 0) (.bool false) = V9 at *
  obtain ⟨y0, y1, y2, y3, y4, y5, y6, y7, y8⟩ := insC_cells hbF
  rw [HV.out]
  have HGF := Lib.hid hgF
  refine bodyPost_ret (v := .agg (insC opc 0 0 0 v14 (.slice none 0 0) (.slice none 0 0) (.slice none 0 0) false)) (by simp [results, Tryz.results141, go_sem, y0, y1, y2, y3, y4, y5, y6, y7, y8, insC]) rfl ⟨.mk opc 0 0 0 v14 [] [] [] false, none, none, none, 0, 0, 0, rfl, ?_, fun _ => rfl, HGF.out⟩
  exact fk_flat hopc (by omega) (by omega) (by omega) (by omega)
 by_cases c11 : i = 11
 ·obtain rfl : i = 11 := c11
  have HV := Lib.hid (show bodyM bk B opc 11 a1 = (.mk opc 0 0 0 (rdOf (fixM B a1 8) a1 0).1 [] [] [] false, (rdOf (fixM B a1 8) a1 0).2.1, (rdOf (fixM B a1 8) a1 0).2.2) from rfl)
  obtain ⟨s0, s1, s2, sf, slt⟩ := HR4.out.cells
  obtain ⟨x0, x1, x2, x3, x4, x5, x6, x7, x8⟩ := insC_cells HX4.out
  obtain ⟨xf0, xf1, xf2, xf3, xf4, xf5, xf6, xf7, xf8, xlt⟩ := insC_frozen HX4.out
  obtain ⟨z0, z1, z2, z3, z4, z5, z6, z7, z8⟩ := insC_cells HZ4.out
  obtain ⟨zf0, zf1, zf2, zf3, zf4, zf5, zf6, zf7, zf8, zlt⟩ := insC_frozen HZ4.out
  go_wp2_with fail
  have hvb := fix_bound B a1 8 0 (by omega) HB.out
  have H := Lib.hid (Fixed_any W4 p q B a1 8 0 (.inr rfl) HG4.out.1 HB.out)
  generalize rdOf (fixM B a1 8) a1 0 = t at *
  obtain ⟨v14, a14, e14⟩ := t
  simp only at HV
  obtain ⟨hv14, hw14⟩ := hvb
  refine H.out.mono ?_
  rintro E W14 ⟨rfl, hG⟩
  have hG0 : Goes W4 W14 p q B a14 e14 := hG
  have HR14 := Lib.hid (HR4.out.goes hRp hG0)
  have HX14 := Lib.hid (HX4.out.grown hG0.2 (by simp; omega))
  have HZ14 := Lib.hid (HZ4.out.grown hG0.2 (by simp; omega))
  have HG14 := Lib.hid (HG4.out.trans hG0)
  clear hG hG0 H HR4 HX4 HZ4 HG4
  clear s0 s1 s2 sf slt x0 x1 x2 x3 x4 x5 x6 x7 x8 xf0 xf1 xf2 xf3 xf4 xf5 xf6 xf7 xf8 xlt z0 z1 z2 z3 z4 z5 z6 z7 z8 zf0 zf1 zf2 zf3 zf4 zf5 zf6 zf7 zf8 zlt
  obtain ⟨s0, s1, s2, sf, slt⟩ := HR14.out.cells
  obtain ⟨x0, x1, x2, x3, x4, x5, x6, x7, x8⟩ := insC_cells HX14.out
  obtain ⟨xf0, xf1, xf2, xf3, xf4, xf5, xf6, xf7, xf8, xlt⟩ := insC_frozen HX14.out
  obtain ⟨z0, z1, z2, z3, z4, z5, z6, z7, z8⟩ := insC_cells HZ14.out
  obtain ⟨zf0, zf1, zf2, zf3, zf4, zf5, zf6, zf7, zf8, zlt⟩ := insC_frozen HZ14.out
  go_wp2_with fail
  have HX15 := Lib.hid (show Blk (W14.setCell ⟨X, 4, none⟩ (.int .u64 v14)) X (insC opc 0 0 0 v14 (.slice none 0 0) (.slice none 0 0) (.slice none 0 0) false) 153 from by have := HX14.out.set 4 (.int .u64 v14); simpa [insC] using this)
  have HZ15 := Lib.hid (show Blk (W14.setCell ⟨X, 4, none⟩ (.int .u64 v14)) W.heap.size zeroC 153 from HZ14.out.set_other ⟨X, 4, none⟩ (.int .u64 v14) (by simp; omega))
  have HR15 := Lib.hid (show Rp (W14.setCell ⟨X, 4, none⟩ (.int .u64 v14)) R p sat deep from HR14.out.other X (by omega) 4 (.int .u64 v14))
  have HG15 := Lib.hid (show Goes W (W14.setCell ⟨X, 4, none⟩ (.int .u64 v14)) p q B a14 e14 from HG14.out.setNew HW.out X (by omega) 4 (.int .u64 v14))
  clear HX14 HZ14 HR14 HG14
  clear s0 s1 s2 sf slt x0 x1 x2 x3 x4 x5 x6 x7 x8 xf0 xf1 xf2 xf3 xf4 xf5 xf6 xf7 xf8 xlt z0 z1 z2 z3 z4 z5 z6 z7 z8 zf0 zf1 zf2 zf3 zf4 zf5 zf6 zf7 zf8 zlt
  change bodyPost _ _ _ Exit.ret _ (put9 (W14.setCell ⟨X, 4, none⟩ (.int .u64 v14)) W.heap.size (.int .i64 opc) (.int .u8 0) (.int .u32 0) (.int .u32 0) (.int .u64 v14) (.slice none 0 0) (.slice none 0 0) (.slice none 0 0) (.bool false))
  have hgF : Goes W (put9 (W14.setCell ⟨X, 4, none⟩ (.int .u64 v14)) W.heap.size (.int .i64 opc) (.int .u8 0) (.int .u32 0) (.int .u32 0) (.int .u64 v14) (.slice none 0 0) (.slice none 0 0) (.slice none 0 0) (.bool false)) p q B a14 e14 := put9_goes HW.out HG15.out _ (Nat.le_refl _) _ _ _ _ _ _ _ _ _
  have hbF := put9_blk HZ15.out (.int .i64 opc) (.int .u8 0) (.int .u32 0) (.int .u32 0) (.int .u64 v14) (.slice none 0 0) (.slice none 0 0) (.slice none 0 0) (.bool false)
  generalize put9 (W14.setCell ⟨X, 4, none⟩ (.int .u64 v14)) W.heap.size (.int .i64 opc) (.int .u8 0) (.int .u32 0) (.int .u32 0) (.int .u64 v14) (.slice none 0 0) (.slice none 0 0) (.slice none 0 0) (.bool false) = V9 at *
  obtain ⟨y0, y1, y2, y3, y4, y5, y6, y7, y8⟩ := insC_cells hbF
  rw [HV.out]
  have HGF := Lib.hid hgF
  refine bodyPost_ret (v := .agg (insC opc 0 0 0 v14 (.slice none 0 0) (.slice none 0 0) (.slice none 0 0) false)) (by simp [results, Tryz.results141, go_sem, y0, y1, y2, y3, y4, y5, y6, y7, y8, insC]) rfl ⟨.mk opc 0 0 0 v14 [] [] [] false, none, none, none, 0, 0, 0, rfl, ?_, fun _ => rfl, HGF.out⟩
  exact fk_flat hopc (by omega) (by omega) (by omega) (by omega)
 have HC24 := Lib.hid (show ¬ (i = 2 ∨ i = 4) from fun h => h.elim c2 c4)
 have HC3 := Lib.hid c3
 have HC5 := Lib.hid c5
 have HC6 := Lib.hid c6
 have HC7 := Lib.hid c7
 have HC8 := Lib.hid c8
 have HC9 := Lib.hid c9
 have HC10 := Lib.hid c10
 have HC11 := Lib.hid c11
 have b1 : (i == 1) = false := beq_eq_false_iff_ne.mpr HC1.out
 have b2 : (i == 2) = false := beq_eq_false_iff_ne.mpr c2
 have b3 : (i == 3) = false := beq_eq_false_iff_ne.mpr c3
 have b4 : (i == 4) = false := beq_eq_false_iff_ne.mpr c4
 have b5 : (i == 5) = false := beq_eq_false_iff_ne.mpr c5
 have b6 : (i == 6) = false := beq_eq_false_iff_ne.mpr c6
 have b7 : (i == 7) = false := beq_eq_false_iff_ne.mpr c7
 have b8 : (i == 8) = false := beq_eq_false_iff_ne.mpr c8
 have b9 : (i == 9) = false := beq_eq_false_iff_ne.mpr c9
 have b10 : (i == 10) = false := beq_eq_false_iff_ne.mpr c10
 have b11 : (i == 11) = false := beq_eq_false_iff_ne.mpr c11
 clear c2 c3 c4 c5 c6 c7 c8 c9 c10 c11
 have HV := Lib.hid (show bodyM bk B opc i a1 = (.mk opc 0 0 0 0 [] [] [] false, a1, 0) from by unfold bodyM; rw [if_neg HC1.out, if_neg HC24.out, if_neg HC3.out, if_neg HC5.out, if_neg HC6.out, if_neg HC7.out, if_neg HC8.out, if_neg HC9.out, if_neg HC10.out, if_neg HC11.out]; rfl)
 obtain ⟨s0, s1, s2, sf, slt⟩ := HR4.out.cells
 obtain ⟨x0, x1, x2, x3, x4, x5, x6, x7, x8⟩ := insC_cells HX4.out
 obtain ⟨xf0, xf1, xf2, xf3, xf4, xf5, xf6, xf7, xf8, xlt⟩ := insC_frozen HX4.out
 obtain ⟨z0, z1, z2, z3, z4, z5, z6, z7, z8⟩ := insC_cells HZ4.out
 obtain ⟨zf0, zf1, zf2, zf3, zf4, zf5, zf6, zf7, zf8, zlt⟩ := insC_frozen HZ4.out
 go_wp2_with fail
 clear s0 s1 s2 sf slt x0 x1 x2 x3 x4 x5 x6 x7 x8 xf0 xf1 xf2 xf3 xf4 xf5 xf6 xf7 xf8 xlt z0 z1 z2 z3 z4 z5 z6 z7 z8 zf0 zf1 zf2 zf3 zf4 zf5 zf6 zf7 zf8 zlt
 change bodyPost _ _ _ Exit.ret _ (put9 W4 W.heap.size (.int .i64 opc) (.int .u8 0) (.int .u32 0) (.int .u32 0) (.int .u64 0) (.slice none 0 0) (.slice none 0 0) (.slice none 0 0) (.bool false))
 have hgF : Goes W (put9 W4 W.heap.size (.int .i64 opc) (.int .u8 0) (.int .u32 0) (.int .u32 0) (.int .u64 0) (.slice none 0 0) (.slice none 0 0) (.slice none 0 0) (.bool false)) p q B a1 0 := put9_goes HW.out HG4.out _ (Nat.le_refl _) _ _ _ _ _ _ _ _ _
 have hbF := put9_blk HZ4.out (.int .i64 opc) (.int .u8 0) (.int .u32 0) (.int .u32 0) (.int .u64 0) (.slice none 0 0) (.slice none 0 0) (.slice none 0 0) (.bool false)
 generalize put9 W4 W.heap.size (.int .i64 opc) (.int .u8 0) (.int .u32 0) (.int .u32 0) (.int .u64 0) (.slice none 0 0) (.slice none 0 0) (.slice none 0 0) (.bool false) = V9 at *
 obtain ⟨y0, y1, y2, y3, y4, y5, y6, y7, y8⟩ := insC_cells hbF
 rw [HV.out]
 have HGF := Lib.hid hgF
 refine bodyPost_ret (v := .agg (insC opc 0 0 0 0 (.slice none 0 0) (.slice none 0 0) (.slice none 0 0) false)) (by simp [results, Tryz.results141, go_sem, y0, y1, y2, y3, y4, y5, y6, y7, y8, insC]) rfl ⟨.mk opc 0 0 0 0 [] [] [] false, none, none, none, 0, 0, 0, rfl, ?_, fun _ => rfl, HGF.out⟩
 exact fk_flat hopc (by omega) (by omega) (by omega) (by omega)
end Go.Proofs.YtofaiocffifhfaaGreat
end
section
namespace Go.Proofs.YtofaiocffifhfaaGreat
open Go.RowKit Go.Shelf YtofaiocffifhfaaGreatB Go.Proofs.YtofaiocffifhfaaGreatW.PrintWords
set_option maxRecDepth 100000 in
set_option maxHeartbeats 4000000 in
theorem instr_bad (W : World) (R p q : Nat) (sat : Bool) (deep : Nat) (B : List Int) (a a1 : Nat) (e b pe opc e1 iv i : Int) (ib ib2 : Bool) (hR : Rp W R p sat deep) (hRp : R ≠ p) (hC : Cur W p q B a e) (hB : Byts B) (hx : peekM B a e = (b, pe)) (hb : 0 ≤ b ∧ b ≤ 255)
  (hi : immM b = (iv, ib)) (hi1 : (iv == 1) = false) (ho : opM sat B a pe = (opc, a1, e1)) (he1 : (e1 == 0) = false) (hopc : 0 ≤ opc ∧ opc ≤ 5000000000) (hi2 : immM opc = (i, ib2)) (r : Ins) :
  Calls Tryz.prog 141 #[.pointer (some ⟨R, 0, none⟩)] W (InsPost W p q B (leafI 0, a1, e1)) := by
 have hplt := hC.lt
 have hRlt := hR.lt
 have HP := Lib.hid (peek_any (W.alloc (.cells zeroC 153)) R p q sat deep B a e (Blk.alloc hR _) hRp (hC.alloc _) hB)
 rw [hx] at HP
 have HI1 := Lib.hid (fun X => Imm_any X b hb.1 (by omega))
 have HI2 := Lib.hid (fun X => Imm_any X opc hopc.1 hopc.2)
 rw [hi] at HI1
 rw [hi2] at HI2
 have HOP := Lib.hid (fun X h1 h2 => op_any X R p q sat deep B a pe h1 hRp h2 hB)
 rw [ho] at HOP
 have HE1 := Lib.hid he1
 have HR := Lib.hid (show Rp (W.alloc (.cells zeroC 153)) R p sat deep from Blk.alloc hR _)
 have HZ := Lib.hid (Blk.new W zeroC 153)
 have HW := Lib.hid hC
 have hb0 := hb.1
 have hb1 := hb.2
 clear hR hC hB hx hi ho hi2 hb he1
 go_enter Tryz.func141, Tryz.ntmps141
 go_wp2_with fail
 refine HP.out.mono ?_
 rintro E W1 ⟨rfl, hG1⟩
 have HR1 := Lib.hid (HR.out.goes hRp hG1)
 have HZ1 := Lib.hid (HZ.out.grown hG1.2 (by simp; omega))
 have HG1 := Lib.hid hG1.of_alloc
 clear hG1 HP HR HZ
 go_wp2_with fail
 refine (HI1.out _).mono ?_
 rintro E W2 ⟨rfl, hB2⟩
 have hg2 : Goes W1 W2 p q B a pe := ⟨HG1.out.1.below hB2, grown_below hB2 _⟩
 have HR2 := Lib.hid (HR1.out.goes hRp hg2)
 have HZ2 := Lib.hid (HZ1.out.grown hg2.2 (by simp; omega))
 have HG2 := Lib.hid (HG1.out.trans hg2)
 clear hg2 hB2 HR1 HZ1 HG1
 go_wp2_with fail
 refine (HOP.out _ HR2.out HG2.out.1).mono ?_
 rintro E W3 ⟨rfl, hG3⟩
 have HR3 := Lib.hid (HR2.out.goes hRp hG3)
 have HZ3 := Lib.hid (HZ2.out.grown hG3.2 (by simp; omega))
 have HG3 := Lib.hid (HG2.out.trans hG3)
 clear hG3 HR2 HZ2 HG2 HOP
 go_wp2_with fail
 refine (HI2.out _).mono ?_
 rintro E W4 ⟨rfl, hB4⟩
 have hg4 : Goes W3 W4 p q B a1 e1 := Goes.of_alloc (o := .cells (insC opc 0 0 0 0 (.slice none 0 0) (.slice none 0 0) (.slice none 0 0) false) 153) ⟨(HG3.out.1.alloc _).below hB4, grown_below hB4 _⟩
 have HR4 := Lib.hid (HR3.out.goes hRp hg4)
 have HZ4 := Lib.hid (HZ3.out.grown hg4.2 (by simp; omega))
 have HG4 := Lib.hid (HG3.out.trans hg4)
 clear hB4 hg4 HR3 HZ3 HG3
 go_wp2_with fail
 refine (rgood_any _ _ _ _ _ _ _ _ _ false HR4.out HG4.out.1 HE1.out).mono ?_
 rintro E w' ⟨rfl, rfl⟩
 clear HI1 HI2 HR4
 obtain ⟨z0, z1, z2, z3, z4, z5, z6, z7, z8⟩ := insC_cells HZ4.out
 obtain ⟨zf0, zf1, zf2, zf3, zf4, zf5, zf6, zf7, zf8, zlt⟩ := insC_frozen HZ4.out
 go_wp2_with fail
 change bodyPost _ _ _ Exit.ret _ (put9 W4 W.heap.size (.int .i64 0) (.int .u8 0) (.int .u32 0) (.int .u32 0) (.int .u64 0) (.slice none 0 0) (.slice none 0 0) (.slice none 0 0) (.bool false))
 have hgF : Goes W (put9 W4 W.heap.size (.int .i64 0) (.int .u8 0) (.int .u32 0) (.int .u32 0) (.int .u64 0) (.slice none 0 0) (.slice none 0 0) (.slice none 0 0) (.bool false)) p q B a1 e1 := put9_goes HW.out HG4.out _ (Nat.le_refl _) _ _ _ _ _ _ _ _ _
 have hbF := put9_blk HZ4.out (.int .i64 0) (.int .u8 0) (.int .u32 0) (.int .u32 0) (.int .u64 0) (.slice none 0 0) (.slice none 0 0) (.slice none 0 0) (.bool false)
 generalize put9 W4 W.heap.size (.int .i64 0) (.int .u8 0) (.int .u32 0) (.int .u32 0) (.int .u64 0) (.slice none 0 0) (.slice none 0 0) (.slice none 0 0) (.bool false) = V9 at *
 clear z0 z1 z2 z3 z4 z5 z6 z7 z8 zf0 zf1 zf2 zf3 zf4 zf5 zf6 zf7 zf8 zlt
 obtain ⟨y0, y1, y2, y3, y4, y5, y6, y7, y8⟩ := insC_cells hbF
 have HGF := Lib.hid hgF
 refine bodyPost_ret (v := .agg (insC 0 0 0 0 0 (.slice none 0 0) (.slice none 0 0) (.slice none 0 0) false)) (by simp [results, Tryz.results141, go_sem, y0, y1, y2, y3, y4, y5, y6, y7, y8, insC]) rfl ⟨leafI 0, none, none, none, 0, 0, 0, rfl, ?_, fun _ => rfl, HGF.out⟩
 exact fk_flat (by omega) (by omega) (by omega) (by omega) (by omega)
theorem imm_one {b : Int} {ib : Bool} (h : immM b = (1, ib)) : (b = 2 ∨ b = 3 ∨ b = 4) ∧ ib = true := by
 unfold immM at h
 by_cases c0 : b = 0 ∨ b = 1 ∨ b = 15 ∨ b = 26 ∨ b = 27
 ·rw [if_pos c0] at h; exact absurd (Prod.mk.inj h).1 (by decide)
 rw [if_neg c0] at h
 by_cases c1 : b = 2 ∨ b = 3 ∨ b = 4
 ·rw [if_pos c1] at h; exact ⟨c1, (Prod.mk.inj h).2.symm⟩
 rw [if_neg c1] at h
 by_cases c2 : b = 5 ∨ b = 11
 ·rw [if_pos c2] at h; exact absurd (Prod.mk.inj h).1 (by decide)
 rw [if_neg c2] at h
 by_cases c3 : b = 12 ∨ b = 13
 ·rw [if_pos c3] at h; exact absurd (Prod.mk.inj h).1 (by decide)
 rw [if_neg c3] at h
 by_cases c4 : b = 14
 ·rw [if_pos c4] at h; exact absurd (Prod.mk.inj h).1 (by decide)
 rw [if_neg c4] at h
 by_cases c5 : b = 16 ∨ b = 32 ∨ b = 33 ∨ b = 34 ∨ b = 35 ∨ b = 36
 ·rw [if_pos c5] at h; exact absurd (Prod.mk.inj h).1 (by decide)
 rw [if_neg c5] at h
 by_cases c6 : b = 17
 ·rw [if_pos c6] at h; exact absurd (Prod.mk.inj h).1 (by decide)
 rw [if_neg c6] at h
 by_cases c7 : b = 63 ∨ b = 64
 ·rw [if_pos c7] at h; exact absurd (Prod.mk.inj h).1 (by decide)
 rw [if_neg c7] at h
 by_cases c8 : b = 65
 ·rw [if_pos c8] at h; exact absurd (Prod.mk.inj h).1 (by decide)
 rw [if_neg c8] at h
 by_cases c9 : b = 66
 ·rw [if_pos c9] at h; exact absurd (Prod.mk.inj h).1 (by decide)
 rw [if_neg c9] at h
 by_cases c10 : b = 67
 ·rw [if_pos c10] at h; exact absurd (Prod.mk.inj h).1 (by decide)
 rw [if_neg c10] at h
 by_cases c11 : b = 68
 ·rw [if_pos c11] at h; exact absurd (Prod.mk.inj h).1 (by decide)
 rw [if_neg c11] at h
 by_cases c12 : 40 ≤ b ∧ b ≤ 62
 ·rw [if_pos c12] at h; exact absurd (Prod.mk.inj h).1 (by decide)
 rw [if_neg c12] at h
 exact absurd (Prod.mk.inj h).1 (by decide)
theorem op_one {sat : Bool} {B : List Int} {a : Nat} {b : Int} {ib : Bool} (hx : B[a]? = some b) (h : immM b = (1, ib)) : opM sat B a 0 = (b, a + 1, 0) := by
 have h2 := imm_one h
 unfold opM
 rw [show peekM B a 0 = (b, 0) from by simp [peekM, hx], if_pos rfl, if_neg (by simp only; omega), h, if_pos h2.2]
theorem op_three {sat : Bool} {B : List Int} {a : Nat} : opM sat B a 3 = (0, a, 3) := by
 unfold opM
 rw [show peekM B a 3 = (0, 3) from rfl, if_neg (by decide)]
set_option maxRecDepth 100000 in
set_option maxHeartbeats 4000000 in
theorem instr_deep (W : World) (R p q : Nat) (sat : Bool) (deep : Nat) (B : List Int) (a : Nat) (b : Int) (ib : Bool) (hR : Rp W R p sat deep) (hRp : R ≠ p) (hC : Cur W p q B a 0) (hB : Byts B) (hx : B[a]? = some b)
  (hi : immM b = (1, ib)) (hd : 64 ≤ deep) :
  Calls Tryz.prog 141 #[.pointer (some ⟨R, 0, none⟩)] W (InsPost W p q B (leafI 0, a, 3)) := by
 have hplt := hC.lt
 have hRlt := hR.lt
 have hb := hB.get hx
 obtain ⟨a1, ha1⟩ : ∃ a1, a1 = a := ⟨_, rfl⟩
 obtain ⟨e1, he1⟩ : ∃ e1 : Int, e1 = 3 := ⟨_, rfl⟩
 obtain ⟨opc, hopc⟩ : ∃ opc : Int, opc = 0 := ⟨_, rfl⟩
 obtain ⟨i, hii⟩ : ∃ i : Int, i = 0 := ⟨_, rfl⟩
 have HP := Lib.hid (peek_any (W.alloc (.cells zeroC 153)) R p q sat deep B a 0 (Blk.alloc hR _) hRp (hC.alloc _) hB)
 rw [show peekM B a 0 = (b, 0) from by simp [peekM, hx]] at HP
 have HI1 := Lib.hid (fun X => Imm_any X b hb.1 (by omega))
 have HI2 := Lib.hid (fun X => Imm_any X opc (by omega) (by omega))
 rw [hi] at HI1
 rw [show immM opc = (i, true) from by rw [hopc, hii]; rfl] at HI2
 have HOP := Lib.hid (fun X h1 h2 => op_any X R p q sat deep B a e1 h1 hRp h2 hB)
 rw [show opM sat B a e1 = (opc, a1, e1) from by rw [he1, hopc, ha1]; exact op_three] at HOP
 have HE1 := Lib.hid (show (e1 == 0) = false from by rw [he1]; rfl)
 have HR := Lib.hid (show Rp (W.alloc (.cells zeroC 153)) R p sat deep from Blk.alloc hR _)
 have HZ := Lib.hid (Blk.new W zeroC 153)
 have HW := Lib.hid hC
 have hdb : decide ((64 : Int) ≤ (deep : Int)) = true := decide_eq_true (by omega)
 have HF := Lib.hid (fun X h => Fail_any X p q B a 0 3 h rfl)
 rw [show failE 0 3 = e1 from by rw [he1]; rfl] at HF
 rw [← ha1, ← he1]
 have HA := Lib.hid ha1
 have hb0 := hb.1
 have hb1 := hb.2
 clear hR hC hB hx hi hb he1 hopc hii ha1 hd
 go_enter Tryz.func141, Tryz.ntmps141
 go_wp2_with fail
 refine HP.out.mono ?_
 rintro E W1 ⟨rfl, hG1⟩
 have HR1 := Lib.hid (HR.out.goes hRp hG1)
 have HZ1 := Lib.hid (HZ.out.grown hG1.2 (by simp; omega))
 have HG1 := Lib.hid hG1.of_alloc
 clear hG1 HP HR HZ
 go_wp2_with fail
 refine (HI1.out _).mono ?_
 rintro E W2 ⟨rfl, hB2⟩
 have hg2 : Goes W1 W2 p q B a 0 := ⟨HG1.out.1.below hB2, grown_below hB2 _⟩
 have HR2 := Lib.hid (HR1.out.goes hRp hg2)
 have HZ2 := Lib.hid (HZ1.out.grown hg2.2 (by simp; omega))
 have HG2 := Lib.hid (HG1.out.trans hg2)
 clear hg2 hB2 HR1 HZ1 HG1
 obtain ⟨s0, s1, s2, sf, slt⟩ := HR2.out.cells
 go_wp2_with fail
 refine (rgood_any _ _ _ _ _ _ _ _ _ true HR2.out HG2.out.1 rfl).mono ?_
 rintro E w' ⟨rfl, rfl⟩
 go_wp2_with fail
 refine (HF.out _ HG2.out.1).mono ?_
 rintro E W9 ⟨rfl, hG9⟩
 have HR9 := Lib.hid (HR2.out.goes hRp hG9)
 have HZ9 := Lib.hid (HZ2.out.grown hG9.2 (by simp; omega))
 have HG9 := Lib.hid (HG2.out.trans hG9)
 clear hG9 HR2 HZ2 HG2 HF s0 s1 s2 sf slt
 go_wp2_with fail
 refine (HOP.out _ HR9.out HG9.out.1).mono ?_
 rintro E W3 ⟨rfl, hG3⟩
 have HR3 := Lib.hid (HR9.out.goes hRp hG3)
 have HZ3 := Lib.hid (HZ9.out.grown hG3.2 (by simp; omega))
 have HG3 := Lib.hid (HG9.out.trans hG3)
 clear hG3 HR9 HZ9 HG9 HOP
 go_wp2_with fail
 refine (HI2.out _).mono ?_
 rintro E W4 ⟨rfl, hB4⟩
 have hg4 : Goes W3 W4 p q B a1 e1 := Goes.of_alloc (o := .cells (insC opc 0 0 0 0 (.slice none 0 0) (.slice none 0 0) (.slice none 0 0) false) 153) ⟨(HG3.out.1.alloc _).below hB4, grown_below hB4 _⟩
 have HR4 := Lib.hid (HR3.out.goes hRp hg4)
 have HZ4 := Lib.hid (HZ3.out.grown hg4.2 (by simp; omega))
 have HG4 := Lib.hid (HG3.out.trans hg4)
 clear hB4 hg4 HR3 HZ3 HG3
 go_wp2_with fail
 refine (rgood_any _ _ _ _ _ _ _ _ _ false HR4.out HG4.out.1 HE1.out).mono ?_
 rintro E w' ⟨rfl, rfl⟩
 clear HI1 HI2 HR4
 obtain ⟨z0, z1, z2, z3, z4, z5, z6, z7, z8⟩ := insC_cells HZ4.out
 obtain ⟨zf0, zf1, zf2, zf3, zf4, zf5, zf6, zf7, zf8, zlt⟩ := insC_frozen HZ4.out
 go_wp2_with fail
 change bodyPost _ _ _ Exit.ret _ (put9 W4 W.heap.size (.int .i64 0) (.int .u8 0) (.int .u32 0) (.int .u32 0) (.int .u64 0) (.slice none 0 0) (.slice none 0 0) (.slice none 0 0) (.bool false))
 have hgF : Goes W (put9 W4 W.heap.size (.int .i64 0) (.int .u8 0) (.int .u32 0) (.int .u32 0) (.int .u64 0) (.slice none 0 0) (.slice none 0 0) (.slice none 0 0) (.bool false)) p q B a1 e1 := put9_goes HW.out HG4.out _ (Nat.le_refl _) _ _ _ _ _ _ _ _ _
 have hbF := put9_blk HZ4.out (.int .i64 0) (.int .u8 0) (.int .u32 0) (.int .u32 0) (.int .u64 0) (.slice none 0 0) (.slice none 0 0) (.slice none 0 0) (.bool false)
 generalize put9 W4 W.heap.size (.int .i64 0) (.int .u8 0) (.int .u32 0) (.int .u32 0) (.int .u64 0) (.slice none 0 0) (.slice none 0 0) (.slice none 0 0) (.bool false) = V9 at *
 clear z0 z1 z2 z3 z4 z5 z6 z7 z8 zf0 zf1 zf2 zf3 zf4 zf5 zf6 zf7 zf8 zlt
 obtain ⟨y0, y1, y2, y3, y4, y5, y6, y7, y8⟩ := insC_cells hbF
 have HGF := Lib.hid hgF
 refine bodyPost_ret (v := .agg (insC 0 0 0 0 0 (.slice none 0 0) (.slice none 0 0) (.slice none 0 0) false)) (by simp [results, Tryz.results141, go_sem, y0, y1, y2, y3, y4, y5, y6, y7, y8, insC]) rfl ⟨leafI 0, none, none, none, 0, 0, 0, rfl, ?_, fun _ => rfl, HGF.out⟩
 exact fk_flat (by omega) (by omega) (by omega) (by omega) (by omega)
set_option maxRecDepth 100000 in
set_option maxHeartbeats 4000000 in
theorem instr_1 (bk : Bool → Nat → Int → List Ins × Int × Nat × Int) (W : World) (R p q : Nat) (sat : Bool) (deep : Nat) (B : List Int) (a : Nat) (b : Int) (ib : Bool) (hR : Rp W R p sat deep) (hRp : R ≠ p) (hRq : R ≠ q) (hC : Cur W p q B a 0) (hB : Byts B) (hx : B[a]? = some b)
  (hi : immM b = (1, ib)) (hd : deep < 64)
  (hbk : ∀ (W' : World) (m : Bool) (a' : Nat) (e' : Int), a + 1 ≤ a' ∨ ¬ e' = 0 → Rp W' R p sat (deep + 1 : Nat) → Cur W' p q B a' e' → Calls Tryz.prog 133 #[.pointer (some ⟨R, 0, none⟩), .bool m] W' (BlkPost W' p q B (bk m a' e')))
  (hge : BkGe bk) :
  Calls Tryz.prog 141 #[.pointer (some ⟨R, 0, none⟩)] W (InsPost W p q B (bodyM bk B b 1 (a + 1))) := by
 have hplt := hC.lt
 have hRlt := hR.lt
 have hb := hB.get hx
 have hqlt : q < W.heap.size := by
  rcases hC.qlt with h | h
  ·rw [h] at hx; simp at hx
  ·exact h
 obtain ⟨a1, ha1⟩ : ∃ a1, a1 = a + 1 := ⟨_, rfl⟩
 obtain ⟨opc, hopc⟩ : ∃ opc : Int, opc = b := ⟨_, rfl⟩
 have HP := Lib.hid (peek_any (W.alloc (.cells zeroC 153)) R p q sat deep B a 0 (Blk.alloc hR _) hRp (hC.alloc _) hB)
 rw [show peekM B a 0 = (b, 0) from by simp [peekM, hx]] at HP
 have HI1 := Lib.hid (fun X => Imm_any X b hb.1 (by omega))
 have HI2 := Lib.hid (fun X => Imm_any X opc (by omega) (by omega))
 rw [hi] at HI1
 rw [show immM opc = (1, ib) from by rw [hopc]; exact hi] at HI2
 have HOP := Lib.hid (fun X h1 h2 => op_any X R p q sat deep B a 0 h1 hRp h2 hB)
 rw [show opM sat B a 0 = (opc, a1, 0) from by rw [hopc, ha1]; exact op_one hx hi] at HOP
 have HR := Lib.hid (show Rp (W.alloc (.cells zeroC 153)) R p sat deep from Blk.alloc hR _)
 have HZ := Lib.hid (Blk.new W zeroC 153)
 have HW := Lib.hid hC
 have hdb : decide ((64 : Int) ≤ (deep : Int)) = false := decide_eq_false (by omega)
 have HN := Lib.hid (fun X Y h1 h2 h3 h4 h5 h6 => nested_any bk X R p q Y sat deep B a1 opc h1 hRp h2 h3 hRq h4 h5 hB (by omega) (by omega) h6 (by rw [ha1]; exact hbk) hge)
 rw [← ha1, show bodyM bk B b 1 a1 = bodyM bk B opc 1 a1 from by rw [hopc]]
 generalize bodyM bk B opc 1 a1 = r at *
 obtain ⟨rx, ra, re⟩ := r
 have hopc2 : 0 ≤ opc ∧ opc ≤ 5000000000 := by omega
 have hb0 := hb.1
 have hb1 := hb.2
 clear hR hC hB hx hi hb hopc ha1 hd hbk hge
 go_enter Tryz.func141, Tryz.ntmps141
 go_wp2_with fail
 refine HP.out.mono ?_
 rintro E W1 ⟨rfl, hG1⟩
 have HR1 := Lib.hid (HR.out.goes hRp hG1)
 have HZ1 := Lib.hid (HZ.out.grown hG1.2 (by simp; omega))
 have HG1 := Lib.hid hG1.of_alloc
 clear hG1 HP HR HZ
 go_wp2_with fail
 refine (HI1.out _).mono ?_
 rintro E W2 ⟨rfl, hB2⟩
 have hg2 : Goes W1 W2 p q B a 0 := ⟨HG1.out.1.below hB2, grown_below hB2 _⟩
 have HR2 := Lib.hid (HR1.out.goes hRp hg2)
 have HZ2 := Lib.hid (HZ1.out.grown hg2.2 (by simp; omega))
 have HG2 := Lib.hid (HG1.out.trans hg2)
 clear hg2 hB2 HR1 HZ1 HG1
 obtain ⟨s0, s1, s2, sf, slt⟩ := HR2.out.cells
 go_wp2_with fail
 refine (HOP.out _ HR2.out HG2.out.1).mono ?_
 rintro E W3 ⟨rfl, hG3⟩
 have HR3 := Lib.hid (HR2.out.goes hRp hG3)
 have HZ3 := Lib.hid (HZ2.out.grown hG3.2 (by simp; omega))
 have HG3 := Lib.hid (HG2.out.trans hG3)
 clear hG3 HR2 HZ2 HG2 HOP s0 s1 s2 sf slt
 go_wp2_with fail
 refine (HI2.out _).mono ?_
 rintro E W4 ⟨rfl, hB4⟩
 have XB4 : Blk W4 W3.heap.size (insC opc 0 0 0 0 (.slice none 0 0) (.slice none 0 0) (.slice none 0 0) false) 153 := (Blk.new W3 (insC opc 0 0 0 0 (.slice none 0 0) (.slice none 0 0) (.slice none 0 0) false) 153).below hB4 (by simp)
 have hg4 : Goes W3 W4 p q B a1 0 := Goes.of_alloc (o := .cells (insC opc 0 0 0 0 (.slice none 0 0) (.slice none 0 0) (.slice none 0 0) false) 153) ⟨(HG3.out.1.alloc _).below hB4, grown_below hB4 _⟩
 have HR4 := Lib.hid (HR3.out.goes hRp hg4)
 have HZ4 := Lib.hid (HZ3.out.grown hg4.2 (by simp; omega))
 have HG4 := Lib.hid (HG3.out.trans hg4)
 have HX4 := Lib.hid XB4
 have hXp : p < W3.heap.size := Nat.lt_of_lt_of_le hplt HG3.out.2.size
 have hXR : R < W3.heap.size := Nat.lt_of_lt_of_le hRlt HG3.out.2.size
 have hXZ : W.heap.size < W3.heap.size := HZ3.out.lt
 obtain ⟨X, hXe⟩ : ∃ X, X = W3.heap.size := ⟨_, rfl⟩
 rw [← hXe] at HX4 hXp hXR hXZ ⊢
 clear hB4 XB4 hg4 HR3 HZ3 HG3 hXe
 go_wp2_with fail
 refine (rgood_any _ _ _ _ _ _ _ _ _ true HR4.out HG4.out.1 rfl).mono ?_
 rintro E w' ⟨rfl, rfl⟩
 clear HI1 HI2
 have hW4 := HZ4.out.lt
 go_wp2_with fail
 refine (HN.out W4 X HR4.out (by omega) (by omega) (by omega) HG4.out.1 HX4.out).mono ?_
 rintro E W5 ⟨rfl, ⟨cs, x', hcs, hF, hxr⟩, hGX, hR5⟩
 have HG5 := Lib.hid (GoesX.goes HG4.out hGX (by omega))
 obtain ⟨AL, cL, AT, cT, AE, cE, hce, w1, w2, w3, w4, w5, fL, fT, fE, l1, l2, l3⟩ := ins_openF hF
 have hce : cs = insC x'.op x'.ty x'.a x'.b x'.bits (.slice AL x'.list.length cL) (.slice AT x'.th.length cT) (.slice AE x'.el.length cE) x'.has := by
  obtain ⟨l⟩ := cs; exact congrArg Array.mk hce
 subst hce
 have HX5 := Lib.hid hcs
 have HZ5 := Lib.hid (show Blk W5 W.heap.size zeroC 153 from (hGX.2.2.2.2.2 W.heap.size hW4 (by omega) (by omega)).trans HZ4.out)
 have HL := Lib.hid (show FC (rng .u32) W5 (fun k => W4.heap.size ≤ k) AL x'.list from fL)
 have HT := Lib.hid fT
 have HE := Lib.hid fE
 have HXR := Lib.hid hxr
 have HW1 := Lib.hid w1
 have HW2 := Lib.hid w2
 have HW3 := Lib.hid w3
 have HW4 := Lib.hid w4
 have HW5 := Lib.hid w5
 have HL1 := Lib.hid l1
 have HL2 := Lib.hid l2
 have HL3 := Lib.hid l3
 clear hGX hR5 hF hcs fL fT fE hxr w1 w2 w3 w4 w5 l1 l2 l3 HN HR4 HX4 HZ4
 obtain ⟨x0, x1, x2, x3, x4, x5, x6, x7, x8⟩ := insC_cells HX5.out
 obtain ⟨z0, z1, z2, z3, z4, z5, z6, z7, z8⟩ := insC_cells HZ5.out
 obtain ⟨zf0, zf1, zf2, zf3, zf4, zf5, zf6, zf7, zf8, zlt⟩ := insC_frozen HZ5.out
 have xlt := HX5.out.lt
 go_wp2_with fail
 change bodyPost _ _ _ Exit.ret _ (put9 W5 W.heap.size (.int .i64 x'.op) (.int .u8 x'.ty) (.int .u32 x'.a) (.int .u32 x'.b) (.int .u64 x'.bits) (.slice AL x'.list.length cL) (.slice AT x'.th.length cT) (.slice AE x'.el.length cE) (.bool x'.has))
 have hgF : Goes W (put9 W5 W.heap.size (.int .i64 x'.op) (.int .u8 x'.ty) (.int .u32 x'.a) (.int .u32 x'.b) (.int .u64 x'.bits) (.slice AL x'.list.length cL) (.slice AT x'.th.length cT) (.slice AE x'.el.length cE) (.bool x'.has)) p q B ra re := put9_goes HW.out HG5.out _ (Nat.le_refl _) _ _ _ _ _ _ _ _ _
 have hbF := put9_blk HZ5.out (.int .i64 x'.op) (.int .u8 x'.ty) (.int .u32 x'.a) (.int .u32 x'.b) (.int .u64 x'.bits) (.slice AL x'.list.length cL) (.slice AT x'.th.length cT) (.slice AE x'.el.length cE) (.bool x'.has)
 have HFL := Lib.hid (put9_FC HL.out W.heap.size (by simp; omega) (.int .i64 x'.op) (.int .u8 x'.ty) (.int .u32 x'.a) (.int .u32 x'.b) (.int .u64 x'.bits) (.slice AL x'.list.length cL) (.slice AT x'.th.length cT) (.slice AE x'.el.length cE) (.bool x'.has))
 have HFT := Lib.hid (put9_FC HT.out W.heap.size (by simp; omega) (.int .i64 x'.op) (.int .u8 x'.ty) (.int .u32 x'.a) (.int .u32 x'.b) (.int .u64 x'.bits) (.slice AL x'.list.length cL) (.slice AT x'.th.length cT) (.slice AE x'.el.length cE) (.bool x'.has))
 have HFE := Lib.hid (put9_FC HE.out W.heap.size (by simp; omega) (.int .i64 x'.op) (.int .u8 x'.ty) (.int .u32 x'.a) (.int .u32 x'.b) (.int .u64 x'.bits) (.slice AL x'.list.length cL) (.slice AT x'.th.length cT) (.slice AE x'.el.length cE) (.bool x'.has))
 generalize put9 W5 W.heap.size (.int .i64 x'.op) (.int .u8 x'.ty) (.int .u32 x'.a) (.int .u32 x'.b) (.int .u64 x'.bits) (.slice AL x'.list.length cL) (.slice AT x'.th.length cT) (.slice AE x'.el.length cE) (.bool x'.has) = V9 at *
 clear x0 x1 x2 x3 x4 x5 x6 x7 x8 z0 z1 z2 z3 z4 z5 z6 z7 z8 zf0 zf1 zf2 zf3 zf4 zf5 zf6 zf7 zf8 zlt
 obtain ⟨y0, y1, y2, y3, y4, y5, y6, y7, y8⟩ := insC_cells hbF
 have HGF := Lib.hid hgF
 refine bodyPost_ret (v := .agg (insC x'.op x'.ty x'.a x'.b x'.bits (.slice AL x'.list.length cL) (.slice AT x'.th.length cT) (.slice AE x'.el.length cE) x'.has)) (by simp [results, Tryz.results141, go_sem, y0, y1, y2, y3, y4, y5, y6, y7, y8, insC]) rfl ⟨x', AL, AT, AE, cL, cT, cE, rfl, ?_, HXR.out, HGF.out⟩
 exact ins_mkF HW1.out HW2.out HW3.out HW4.out HW5.out (HFL.out.mono fun k hk => Nat.le_trans (Nat.le_of_lt hW4) hk) (HFT.out.mono fun k hk => Nat.le_trans (Nat.le_of_lt hW4) hk) (HFE.out.mono fun k hk => Nat.le_trans (Nat.le_of_lt hW4) hk) HL1.out HL2.out HL3.out
theorem imm_big (n : Int) (h : 64512 ≤ n) : (immM n).1 = 0 := by
 unfold immM
 rw [if_neg (by omega), if_neg (by omega), if_neg (by omega), if_neg (by omega), if_neg (by omega), if_neg (by omega), if_neg (by omega), if_neg (by omega), if_neg (by omega), if_neg (by omega), if_neg (by omega), if_neg (by omega), if_neg (by omega)]
theorem op_imm {sat : Bool} {B : List Int} {a : Nat} {e : Int} (hB : Byts B) (h : ¬ (immM (peekM B a e).1).1 = 1) : ¬ (immM (opM sat B a e).1).1 = 1 ∧ 0 ≤ (opM sat B a e).1 ∧ (opM sat B a e).1 ≤ 5000000000 := by
 unfold opM
 split
 next hp =>
  split
  next h2 =>
   have hb := u32_bound B (a + 1) 0 hB
   have : (secondM B (a + 1) 0).1 = 64512 + (rdOf (u32M B (a + 1)) (a + 1) 0).1 := rfl
   rw [this]
   refine ⟨?_, by omega, by omega⟩
   rw [imm_big _ (by omega)]
   decide
  next h2 =>
   split
   next h3 =>
    refine ⟨h, ?_⟩
    obtain ⟨x, hx⟩ : ∃ x, peekM B a e = (x, 0) := ⟨(peekM B a e).1, by rw [← hp]⟩
    rw [hx]
    have := hB.get (peek_good hx).2
    simp only
    omega
   next h3 => exact ⟨by simp only; decide, by simp only; omega, by simp only; omega⟩
 next hp => exact ⟨by simp only; decide, by simp only; omega, by simp only; omega⟩
theorem instr_any (bk : Bool → Nat → Int → List Ins × Int × Nat × Int) (W : World) (R p q : Nat) (sat : Bool) (deep : Nat) (B : List Int) (a : Nat) (e : Int) (hR : Rp W R p sat deep) (hRp : R ≠ p) (hRq : R ≠ q) (hC : Cur W p q B a e) (hB : Byts B)
  (hbk : ∀ (W' : World) (m : Bool) (a' : Nat) (e' : Int), a + 1 ≤ a' ∨ ¬ e' = 0 → Rp W' R p sat (deep + 1 : Nat) → Cur W' p q B a' e' → Calls Tryz.prog 133 #[.pointer (some ⟨R, 0, none⟩), .bool m] W' (BlkPost W' p q B (bk m a' e')))
  (hge : BkGe bk) :
  Calls Tryz.prog 141 #[.pointer (some ⟨R, 0, none⟩)] W (InsPost W p q B (insM bk sat B deep a e)) := by
 obtain ⟨b, pe, hx⟩ : ∃ b pe, peekM B a e = (b, pe) := ⟨_, _, rfl⟩
 have hb : 0 ≤ b ∧ b ≤ 255 := by
  by_cases hp : pe = 0
  ·rw [hp] at hx
   exact hB.get (peek_good hx).2
  ·unfold peekM at hx
   by_cases he : e = 0
   ·rw [if_pos he] at hx
    cases hy : B[a]? with
    | none => rw [hy] at hx; simp at hx; omega
    | some y => rw [hy] at hx; simp at hx; exact absurd hx.2.symm hp
   ·rw [if_neg he] at hx; simp at hx; omega
 obtain ⟨iv, ib, hi⟩ : ∃ iv ib, immM b = (iv, ib) := ⟨_, _, rfl⟩
 by_cases h1 : iv = 1
 ·subst h1
  have hp : pe = 0 := by
   by_cases hp : pe = 0
   ·exact hp
   ·unfold peekM at hx
    by_cases he : e = 0
    ·rw [if_pos he] at hx
     cases hy : B[a]? with
     | none => rw [hy] at hx; simp at hx; rw [← hx.1] at hi; exact absurd (imm_one hi).1 (by omega)
     | some y => rw [hy] at hx; simp at hx; exact absurd hx.2.symm hp
    ·rw [if_neg he] at hx; simp at hx; rw [← hx.1] at hi; exact absurd (imm_one hi).1 (by omega)
  subst hp
  obtain ⟨rfl, hxx⟩ := peek_good hx
  have hdE : deepE B deep a 0 = if 64 ≤ deep then 3 else 0 := by
   unfold deepE
   rw [hx]
   simp only [hi]
   by_cases hd : 64 ≤ deep
   ·rw [if_pos ⟨trivial, hd, trivial⟩, if_pos hd]
   ·rw [if_neg (fun h => hd h.2.1), if_neg hd]
  by_cases hd : 64 ≤ deep
  ·rw [if_pos hd] at hdE
   have : insM bk sat B deep a 0 = (leafI 0, a, 3) := by
    unfold insM
    rw [hdE, op_three]
    rfl
   rw [this]
   exact instr_deep W R p q sat deep B a b ib hR hRp hC hB hxx hi hd
  ·rw [if_neg hd] at hdE
   have : insM bk sat B deep a 0 = bodyM bk B b 1 (a + 1) := by
    unfold insM
    rw [hdE, op_one hxx hi]
    simp only [hi]
    rfl
   rw [this]
   exact instr_1 bk W R p q sat deep B a b ib hR hRp hRq hC hB hxx hi (by omega) hbk hge
 ·have hdE : deepE B deep a e = pe := by
   unfold deepE
   rw [hx]
   simp only [hi]
   exact if_neg (fun h => h1 h.1)
  have hop := op_imm (sat := sat) (a := a) (e := pe) hB (by
   by_cases hp : pe = 0
   ·subst hp
    have := peek_good hx
    have hx0 : peekM B a 0 = (b, 0) := by rw [this.1] at hx; exact hx
    rw [hx0, hi]
    exact h1
   ·rw [show peekM B a pe = (0, pe) from by simp [peekM, hp]]
    rw [show (immM (0, pe).1).1 = 0 from rfl]
    decide)
  obtain ⟨opc, a1, e1, ho⟩ : ∃ opc a1 e1, opM sat B a pe = (opc, a1, e1) := ⟨_, _, _, rfl⟩
  obtain ⟨i, ib2, hi2⟩ : ∃ i ib2, immM opc = (i, ib2) := ⟨_, _, rfl⟩
  rw [ho] at hop
  simp only [hi2] at hop
  by_cases he1 : e1 = 0
  ·subst he1
   have hg := op_ge hB (show (opM sat B a pe).2.2 = 0 from by rw [ho])
   have hp := hg.2.1
   subst hp
   obtain ⟨rfl, hxx⟩ := peek_good hx
   have : insM bk sat B deep a 0 = bodyM bk B opc i a1 := by
    unfold insM
    rw [hdE, ho]
    simp only [hi2]
    rfl
   rw [this]
   exact instr_n bk W R p q sat deep B a a1 b opc iv i ib ib2 hR hRp hC hB hxx hi (beq_eq_false_iff_ne.2 h1) ho hop.2 hi2 hop.1
  ·have : insM bk sat B deep a e = (leafI 0, a1, e1) := by
    unfold insM
    rw [hdE, ho]
    exact if_neg he1
   rw [this]
   exact instr_bad W R p q sat deep B a a1 e b pe opc e1 iv i ib ib2 hR hRp hC hB hx hb hi (beq_eq_false_iff_ne.2 h1) ho (beq_eq_false_iff_ne.2 he1) hop.2 hi2 (leafI 0)
end Go.Proofs.YtofaiocffifhfaaGreat
end
section
namespace Go.Proofs.YtofaiocffifhfaaGreat
open Go.RowKit Go.Shelf YtofaiocffifhfaaGreatB Go.Proofs.YtofaiocffifhfaaGreatW.PrintWords
theorem infoI : (Tryz.prog.info? 153).map (fun i => (i.zero, i.size, i.bytes)) = some (some (.agg #[.int .i64 0, .int .u8 0, .int .u32 0, .int .u32 0, .int .u64 0, .slice none 0 0, .slice none 0 0, .slice none 0 0, .bool false]), 9, 112) := by kernel_rfl
def curMeas (W : World) (p len : Nat) : Nat := match W.cell? ⟨p, 2, none⟩, W.cell? ⟨p, 1, none⟩ with
 | some (.int _ e), some (.int _ n) => if e = 0 then len + 1 - n.toNat else 0
 | _, _ => 0
theorem curMeas_eq {W : World} {p q : Nat} {B : List Int} {a : Nat} {e : Int} (h : Cur W p q B a e) : curMeas W p B.length = if e = 0 then B.length + 1 - a else 0 := by
 obtain ⟨A, c, c0, c1, c2, _⟩ := h.cells
 unfold curMeas
 rw [c2, c1]
 simp only [Int.toNat_natCast]
theorem Own.goes {α : Type} {d : Kd α} {t : TypeId} {W W1 : World} {base : Nat} {ok : Nat → Prop} {v : Value} {xs : List α} {p q : Nat} {B : List Int} {a : Nat} {e : Int} (h : Own d t W base ok v xs) (hG : Goes W W1 p q B a e) (hp : p < base) (hok : ∀ k, ok k → base ≤ k) : Own d t W1 base ok v xs :=
 h.grown hG.2 (by
  cases hv : v.ownBlock with
  | none => exact .inl rfl
  | some k => right; intro e; injection e with e; have := (h.block hv).1; omega) (fun k hk e => by injection e with e; have := hok k hk; omega)
theorem Goes.alloc {W W1 : World} {p q : Nat} {B : List Int} {a : Nat} {e : Int} (h : Goes W W1 p q B a e) (o : Obj) : Goes W (W1.alloc o) p q B a e := ⟨h.1.alloc o, h.2.trans (World.grownBy_alloc W1 o _)⟩
def bkOf (sat : Bool) (B : List Int) (f deep : Nat) (m : Bool) (a : Nat) (e : Int) : List Ins × Int × Nat × Int := blkM sat B f deep m a e []
theorem blkM_bad {sat : Bool} {B : List Int} (f deep : Nat) (may : Bool) (a : Nat) (e : Int) (acc : List Ins) (he : ¬ e = 0) : blkM sat B f deep may a e acc = ([], 0, a, e) := by
 cases f with
 | zero => rfl
 | succ f => rw [blkM, if_neg he]
theorem blkM_next {sat : Bool} {B : List Int} {f deep : Nat} {may : Bool} {a : Nat} {b : Int} {acc : List Ins} (hx : B[a]? = some b) (h1 : ¬ b = 11) (h2 : ¬ b = 5) :
  blkM sat B (f + 1) deep may a 0 acc = (let r := insM (bkOf sat B f (deep + 1)) sat B deep a 0; if r.2.2 = 0 then blkM sat B f deep may r.2.1 0 (acc ++ [r.1]) else ([], 0, r.2.1, r.2.2)) := by
 rw [blkM, if_pos rfl, hx]
 simp only [if_neg h1, if_neg h2]
 rfl
set_option maxRecDepth 100000 in
set_option maxHeartbeats 8000000 in
theorem block_any (R p q : Nat) (sat : Bool) (B : List Int) (hRp : R ≠ p) (hRq : R ≠ q) (hB : Byts B) : ∀ (f deep : Nat) (may : Bool) (W : World) (a : Nat) (e : Int), Rp W R p sat deep → Cur W p q B a e → (e = 0 → B.length < a + f) →
  Calls Tryz.prog 133 #[.pointer (some ⟨R, 0, none⟩), .bool may] W (BlkPost W p q B (blkM sat B f deep may a e [])) := by
 intro f
 induction f using Nat.strongRecOn with
 | ind f ih =>
 intro deep may W a e hR hC hfu
 have IH := Lib.hid ih
 have HR := Lib.hid hR
 have HB := Lib.hid hB
 have HW := Lib.hid hC
 have hplt := hC.lt
 have hRlt := hR.lt
 have HFU := Lib.hid hfu
 clear ih hR hB hC hfu
 go_enter Tryz.func133, Tryz.ntmps133
 go_wp2_with fail
 go_loopw [4] (fun v wr => ∃ (a1 : Nat) (e1 : Int) (f1 : Nat) (xs : List Ins), Own kI 153 wr W.heap.size (fun k => W.heap.size ≤ k) v xs ∧ Goes W wr p q B a1 e1 ∧ Hid (f1 ≤ f ∧ (e1 = 0 → xs.length ≤ a1) ∧ (e1 = 0 → B.length < a1 + f1) ∧ blkM sat B f deep may a e [] = blkM sat B f1 deep may a1 e1 xs)) (fun _ wr => curMeas wr p B.length)
 case atStart => exact ⟨a, e, f, [], Own.nil, Goes.same HW.out, Lib.hid ⟨Nat.le_refl _, fun _ => Nat.zero_le _, HFU.out, rfl⟩⟩
 case round =>
  obtain ⟨a1, e1, f1, xs, hown, hGo, hst⟩ := hrel
  have hsz := hGo.2.size
  have HR1 := Lib.hid (HR.out.goes hRp hGo)
  obtain ⟨s0, s1, s2, sf, slt⟩ := HR1.out.cells
  have HGo := Lib.hid hGo
  have HO := Lib.hid hown
  clear hGo hown
  by_cases he : e1 = 0
  ·subst he
   have hal := HGo.out.1.2.1
   have HGo := Lib.hid (show Goes W wr p q B a1 0 from HGo.out)
   have HPk := Lib.hid (peek_any wr R p q sat deep B a1 0 HR1.out hRp HGo.out.1 HB.out)
   obtain ⟨g, rfl⟩ : ∃ g, f1 = g + 1 := ⟨f1 - 1, by have := hst.out.2.2.1 rfl; omega⟩
   have hxl := hst.out.2.1 rfl
   have hff := hst.out.1
   have hfu := hst.out.2.2.1 rfl
   go_wp2_with fail
   refine (rgood_any _ _ _ _ _ _ _ _ _ true HR1.out HGo.out.1 rfl).mono ?_
   rintro E w' ⟨rfl, rfl⟩
   by_cases hbx : ∃ b, B[a1]? = some b
   ·obtain ⟨b, hx⟩ := hbx
    have hbb := HB.out.get hx
    rw [show peekM B a1 0 = (b, 0) from by rw [peekM, if_pos rfl, hx]] at HPk
    have hx := Lib.hid hx
    go_wp2_with fail
    refine HPk.out.mono ?_
    rintro E W2 ⟨rfl, hG⟩
    have hG0 : Goes wr W2 p q B a1 0 := hG
    have HR2 := Lib.hid (HR1.out.goes hRp hG0)
    have HG2 := Lib.hid (HGo.out.trans hG0)
    have HO2 := Lib.hid (Own.goes HO.out hG0 hplt (fun k hk => hk))
    clear hG hG0 HPk s0 s1 s2 sf slt
    obtain ⟨s0, s1, s2, sf, slt⟩ := HR2.out.cells
    by_cases h11 : b = 11
    ·subst h11
     have HBy := Lib.hid (fun X h => Byte_any X p q B a1 0 h HB.out)
     rw [show rdByte B a1 0 = (11, a1 + 1, 0) from by rw [rdByte, if_pos rfl, hx.out]] at HBy
     have HV := Lib.hid (show blkM sat B f deep may a e [] = (xs, 11, a1 + 1, 0) from by rw [hst.out.2.2.2, blkM, if_pos rfl, hx.out]; rfl)
     go_wp2_with fail
     refine (rgood_any _ _ _ _ _ _ _ _ _ true HR2.out HG2.out.1 rfl).mono ?_
     rintro E w' ⟨rfl, rfl⟩
     go_wp2_with fail
     refine (HBy.out _ HG2.out.1).mono ?_
     rintro E W3 ⟨rfl, hG⟩
     have hG0 : Goes W2 W3 p q B (a1 + 1) 0 := hG
     have HG3 := Lib.hid (HG2.out.trans hG0)
     have HO3 := Lib.hid (Own.goes HO2.out hG0 hplt (fun k hk => hk))
     clear hG hG0 HBy s0 s1 s2 sf slt HR2 HG2 HO2
     go_wp2_with fail
     obtain ⟨A, c, hu, hle, hF⟩ := HO3.out.reads
     subst hu
     go_ret2
     rw [HV.out]
     exact ⟨⟨A, c, rfl, hle, hF.mono (fun k hk => hk.elim id id)⟩, HG3.out⟩

    ·by_cases h5 : b = 5
     ·subst h5
      clear h11
      cases may with
      | true =>
       have HBy := Lib.hid (fun X h => Byte_any X p q B a1 0 h HB.out)
       rw [show rdByte B a1 0 = (5, a1 + 1, 0) from by rw [rdByte, if_pos rfl, hx.out]] at HBy
       have HV := Lib.hid (show blkM sat B f deep true a e [] = (xs, 5, a1 + 1, 0) from by rw [hst.out.2.2.2, blkM, if_pos rfl, hx.out]; rfl)
       go_wp2_with fail
       refine (HBy.out _ HG2.out.1).mono ?_
       rintro E W3 ⟨rfl, hG⟩
       have hG0 : Goes W2 W3 p q B (a1 + 1) 0 := hG
       have HG3 := Lib.hid (HG2.out.trans hG0)
       have HO3 := Lib.hid (Own.goes HO2.out hG0 hplt (fun k hk => hk))
       clear hG hG0 HBy s0 s1 s2 sf slt HR2 HG2 HO2
       go_wp2_with fail
       obtain ⟨A, c, hu, hle, hF⟩ := HO3.out.reads
       subst hu
       go_ret2
       rw [HV.out]
       exact ⟨⟨A, c, rfl, hle, hF.mono (fun k hk => hk.elim id id)⟩, HG3.out⟩

      | false =>
       have HV := Lib.hid (show blkM sat B f deep false a e [] = ([], 0, a1, 108) from by rw [hst.out.2.2.2, blkM, if_pos rfl, hx.out]; rfl)
       go_wp2_with fail
       refine (Fail_any _ p q B a1 0 108 HG2.out.1 rfl).mono ?_
       rintro E W3 ⟨rfl, hG⟩
       have hG0 : Goes W2 W3 p q B a1 108 := hG
       have HR4 := Lib.hid (HR2.out.goes hRp hG0)
       have HG4 := Lib.hid (HG2.out.trans hG0)
       have HO4 := Lib.hid (Own.goes HO2.out hG0 hplt (fun k hk => hk))
       clear hG hG0 s0 s1 s2 sf slt HR2 HG2 HO2
       have HR2 := HR4
       have HG2 := HG4
       have HO2 := HO4
       obtain ⟨s0, s1, s2, sf, slt⟩ := HR2.out.cells
       clear HR4 HG4 HO4
       have HI := Lib.hid (instr_bad W3 R p q sat deep B a1 a1 108 0 108 0 108 0 0 true true HR2.out hRp HG2.out.1 HB.out rfl (by omega) rfl rfl rfl rfl (by omega) rfl (leafI 0))
       go_wp2_with fail
       refine HI.out.mono ?_
       rintro E W3 ⟨x', AL, AT, AE, cL, cT, cE, rfl, hF, hxr, hG⟩
       have hG : Goes _ W3 p q B a1 108 := hG
       have HR3 := Lib.hid (HR2.out.goes hRp hG)
       have HG3 := Lib.hid (HG2.out.trans hG)
       have HO3 := Lib.hid (Own.goes HO2.out hG hplt (fun k hk => hk))
       have hbx := Blk.new W3 (#[.int .i64 x'.op, .int .u8 x'.ty, .int .u32 x'.a, .int .u32 x'.b, .int .u64 x'.bits, .slice AL x'.list.length cL, .slice AT x'.th.length cT, .slice AE x'.el.length cE, .bool x'.has]) 153
       have HRb := Lib.hid (show Rp (W3.alloc (.cells (#[.int .i64 x'.op, .int .u8 x'.ty, .int .u32 x'.a, .int .u32 x'.b, .int .u64 x'.bits, .slice AL x'.list.length cL, .slice AT x'.th.length cT, .slice AE x'.el.length cE, .bool x'.has]) 153)) R p sat deep from Blk.alloc HR3.out _)
       have HGb := Lib.hid (HG3.out.alloc (.cells (#[.int .i64 x'.op, .int .u8 x'.ty, .int .u32 x'.a, .int .u32 x'.b, .int .u64 x'.bits, .slice AL x'.list.length cL, .slice AT x'.th.length cT, .slice AE x'.el.length cE, .bool x'.has]) 153))
       have HOb := Lib.hid (Own.below HO3.out ((Below.refl W3.heap.size W3).alloc (Nat.le_refl _) (.cells (#[.int .i64 x'.op, .int .u8 x'.ty, .int .u32 x'.a, .int .u32 x'.b, .int .u64 x'.bits, .slice AL x'.list.length cL, .slice AT x'.th.length cT, .slice AE x'.el.length cE, .bool x'.has]) 153)))
       have HFb := Lib.hid (Ft.below hF ((Below.refl W3.heap.size W3).alloc (Nat.le_refl _) (.cells (#[.int .i64 x'.op, .int .u8 x'.ty, .int .u32 x'.a, .int .u32 x'.b, .int .u64 x'.bits, .slice AL x'.list.length cL, .slice AT x'.th.length cT, .slice AE x'.el.length cE, .bool x'.has]) 153)))
       clear hF hG HR3 HG3 HO3 s0 s1 s2 sf slt HR2 HG2
       simp only [insC]
       clear HI hxr
       have HRE := Lib.hid (show ((108 : Int) == 0) = false from rfl)
       have HRN := Lib.hid (show ¬ (108 : Int) = 0 from by decide)
       go_wp2_with fail
       refine (rgood_any _ _ _ _ _ _ _ _ _ false HRb.out HGb.out.1 HRE.out).mono ?_
       rintro E w' ⟨rfl, rfl⟩
       go_wp2_with fail
       go_roundw
       case rel => exact ⟨a1, 108, 0, xs, HOb.out, HGb.out, Lib.hid ⟨Nat.zero_le _, fun h => absurd h HRN.out, fun h => absurd h HRN.out, by rw [HV.out, blkM_bad _ _ _ _ _ _ HRN.out]⟩⟩
       case measure =>
        rw [curMeas_eq HGb.out.1, curMeas_eq HGo.out.1, if_neg HRN.out, if_pos rfl]
        omega
     ·have h11b : (b == 11) = false := beq_eq_false_iff_ne.2 h11
      have h5b : (b == 5) = false := beq_eq_false_iff_ne.2 h5
      have HVn := Lib.hid (show blkM sat B f deep may a e [] = (let r := insM (bkOf sat B g (deep + 1)) sat B deep a1 0; if r.2.2 = 0 then blkM sat B g deep may r.2.1 0 (xs ++ [r.1]) else ([], 0, r.2.1, r.2.2)) from by rw [hst.out.2.2.2]; exact blkM_next hx.out h11 h5)
      have HI := Lib.hid (instr_any (bkOf sat B g (deep + 1)) W2 R p q sat deep B a1 0 HR2.out hRp hRq HG2.out.1 HB.out (fun W' m a' e' hh hr hc => IH.out g (by omega) (deep + 1) m W' a' e' hr hc (fun he => by omega)) (fun m a e h => blk_ge HB.out g (deep + 1) m a e [] h))
      have HGE := Lib.hid (fun h => ins_ge (bk := bkOf sat B g (deep + 1)) (sat := sat) (B := B) (deep := deep) (a := a1) (e := 0) HB.out (fun m a e h => blk_ge HB.out g (deep + 1) m a e [] h) h)
      generalize insM (bkOf sat B g (deep + 1)) sat B deep a1 0 = r at *
      obtain ⟨rx, ra, re⟩ := r
      simp only at HVn HGE
      clear h11 h5
      go_wp2_with fail
      refine HI.out.mono ?_
      rintro E W3 ⟨x', AL, AT, AE, cL, cT, cE, rfl, hF, hxr, hG⟩
      have hG : Goes W2 W3 p q B ra re := hG
      have hxr : re = 0 → x' = rx := hxr
      have HW2s := Lib.hid HG2.out.2.size
      have HR3 := Lib.hid (HR2.out.goes hRp hG)
      have HG3 := Lib.hid (HG2.out.trans hG)
      have HO3 := Lib.hid (Own.goes HO2.out hG hplt (fun k hk => hk))
      have hbx := Blk.new W3 (#[.int .i64 x'.op, .int .u8 x'.ty, .int .u32 x'.a, .int .u32 x'.b, .int .u64 x'.bits, .slice AL x'.list.length cL, .slice AT x'.th.length cT, .slice AE x'.el.length cE, .bool x'.has]) 153
      have HRb := Lib.hid (show Rp (W3.alloc (.cells (#[.int .i64 x'.op, .int .u8 x'.ty, .int .u32 x'.a, .int .u32 x'.b, .int .u64 x'.bits, .slice AL x'.list.length cL, .slice AT x'.th.length cT, .slice AE x'.el.length cE, .bool x'.has]) 153)) R p sat deep from Blk.alloc HR3.out _)
      have HGb := Lib.hid (HG3.out.alloc (.cells (#[.int .i64 x'.op, .int .u8 x'.ty, .int .u32 x'.a, .int .u32 x'.b, .int .u64 x'.bits, .slice AL x'.list.length cL, .slice AT x'.th.length cT, .slice AE x'.el.length cE, .bool x'.has]) 153))
      have HOb := Lib.hid (Own.below HO3.out ((Below.refl W3.heap.size W3).alloc (Nat.le_refl _) (.cells (#[.int .i64 x'.op, .int .u8 x'.ty, .int .u32 x'.a, .int .u32 x'.b, .int .u64 x'.bits, .slice AL x'.list.length cL, .slice AT x'.th.length cT, .slice AE x'.el.length cE, .bool x'.has]) 153)))
      have HFb := Lib.hid (Ft.below hF ((Below.refl W3.heap.size W3).alloc (Nat.le_refl _) (.cells (#[.int .i64 x'.op, .int .u8 x'.ty, .int .u32 x'.a, .int .u32 x'.b, .int .u64 x'.bits, .slice AL x'.list.length cL, .slice AT x'.th.length cT, .slice AE x'.el.length cE, .bool x'.has]) 153)))
      clear hF hG HR3 HG3 HO3 s0 s1 s2 sf slt HR2 HG2
      simp only [insC]
      clear HI
      by_cases hre : re = 0
      ·subst hre
       obtain rfl := hxr rfl
       have hra := HGE.out rfl
       have HV := Lib.hid (show blkM sat B f deep may a e [] = blkM sat B g deep may ra 0 (xs ++ [x']) from by rw [HVn.out]; exact if_pos rfl)
       have hral := HGb.out.1.2.1
       have hBl := HB.out.1
       obtain ⟨e0, e1, e2, e3, e4, e5, e6, e7, e8⟩ := insC_cells hbx
       have hgs := HGb.out.2.size
       have HFK := Lib.hid (show FK kI (W3.alloc (.cells (#[.int .i64 x'.op, .int .u8 x'.ty, .int .u32 x'.a, .int .u32 x'.b, .int .u64 x'.bits, .slice AL x'.list.length cL, .slice AT x'.th.length cT, .slice AE x'.el.length cE, .bool x'.has]) 153)) (fun k => (fun k => W.heap.size ≤ k) k ∧ some k ≠ u4.ownBlock) x' [.int .i64 x'.op, .int .u8 x'.ty, .int .u32 x'.a, .int .u32 x'.b, .int .u64 x'.bits, .slice AL x'.list.length cL, .slice AT x'.th.length cT, .slice AE x'.el.length cE, .bool x'.has] from HFb.out.mono (fun k hk => ⟨Nat.le_trans HW2s.out hk, fun e => by have := (HO2.out.block e.symm).2; omega⟩))
       clear hbx
       go_wp2_with fail
       refine (rgood_any _ _ _ _ _ _ _ _ _ true HRb.out HGb.out.1 rfl).mono ?_
       rintro E w' ⟨rfl, rfl⟩
       go_wp2_with (at_builtin; go_loud (refine Own.append (d := kI) W.heap.size rfl (.tmp 42) (.tmp 44) 73 153 _ 112 rfl Tryz.underlying73 infoI rfl (by decide) (by decide) u4 xs x' _ (fun k => W.heap.size ≤ k) rfl (by rw [World.size_alloc]; rfl) HFK.out HOb.out hgs (by omega) ?_; intro v1 w1 hown1 hg1 hat1))
       have HO4 := Lib.hid hown1
       have HG4 := Lib.hid (show Goes W w1 p q B ra 0 from lab_goes HW.out HGb.out hg1 (fun k hk => (HOb.out.block hk).1))
       clear hown1 hg1 hat1
       go_wp2_with fail
       go_roundw
       case rel => exact ⟨ra, 0, g, xs ++ [x'], HO4.out, HG4.out, Lib.hid ⟨by omega, fun _ => by rw [List.length_append]; simp; omega, fun _ => by omega, HV.out⟩⟩
       case measure =>
        rw [curMeas_eq HG4.out.1, curMeas_eq HGo.out.1, if_pos rfl, if_pos rfl]
        omega
      ·have HV := Lib.hid (show blkM sat B f deep may a e [] = ([], 0, ra, re) from by rw [HVn.out]; exact if_neg hre)
       have HRE := Lib.hid (beq_eq_false_iff_ne.2 hre)
       have HRN := Lib.hid hre
       clear hre hxr
       go_wp2_with fail
       refine (rgood_any _ _ _ _ _ _ _ _ _ false HRb.out HGb.out.1 HRE.out).mono ?_
       rintro E w' ⟨rfl, rfl⟩
       go_wp2_with fail
       go_roundw
       case rel => exact ⟨ra, re, 0, xs, HOb.out, HGb.out, Lib.hid ⟨Nat.zero_le _, fun h => absurd h HRN.out, fun h => absurd h HRN.out, by rw [HV.out, blkM_bad _ _ _ _ _ _ HRN.out]⟩⟩
       case measure =>
        rw [curMeas_eq HGb.out.1, curMeas_eq HGo.out.1, if_neg HRN.out, if_pos rfl]
        omega
   ·have hx : B[a1]? = none := by
     cases h : B[a1]? with
     | none => rfl
     | some b => exact absurd ⟨b, h⟩ hbx
    clear hbx
    rw [show peekM B a1 0 = (0, 100) from by rw [peekM, if_pos rfl, hx]] at HPk
    have HV := Lib.hid (show blkM sat B f deep may a e [] = ([], 0, a1, 100) from by rw [hst.out.2.2.2, blkM, if_pos rfl, hx])
    clear hx
    go_wp2_with fail
    refine HPk.out.mono ?_
    rintro E W2 ⟨rfl, hG⟩
    have hG0 : Goes wr W2 p q B a1 100 := hG
    have HR2 := Lib.hid (HR1.out.goes hRp hG0)
    have HG2 := Lib.hid (HGo.out.trans hG0)
    have HO2 := Lib.hid (Own.goes HO.out hG0 hplt (fun k hk => hk))
    clear hG hG0 HPk s0 s1 s2 sf slt
    obtain ⟨s0, s1, s2, sf, slt⟩ := HR2.out.cells
    have HI := Lib.hid (instr_bad W2 R p q sat deep B a1 a1 100 0 100 0 100 0 0 true true HR2.out hRp HG2.out.1 HB.out rfl (by omega) rfl rfl rfl rfl (by omega) rfl (leafI 0))
    go_wp2_with fail
    refine HI.out.mono ?_
    rintro E W3 ⟨x', AL, AT, AE, cL, cT, cE, rfl, hF, hxr, hG⟩
    have hG : Goes W2 W3 p q B a1 100 := hG
    have HR3 := Lib.hid (HR2.out.goes hRp hG)
    have HG3 := Lib.hid (HG2.out.trans hG)
    have HO3 := Lib.hid (Own.goes HO2.out hG hplt (fun k hk => hk))
    have hbx := Blk.new W3 (#[.int .i64 x'.op, .int .u8 x'.ty, .int .u32 x'.a, .int .u32 x'.b, .int .u64 x'.bits, .slice AL x'.list.length cL, .slice AT x'.th.length cT, .slice AE x'.el.length cE, .bool x'.has]) 153
    have HRb := Lib.hid (show Rp (W3.alloc (.cells (#[.int .i64 x'.op, .int .u8 x'.ty, .int .u32 x'.a, .int .u32 x'.b, .int .u64 x'.bits, .slice AL x'.list.length cL, .slice AT x'.th.length cT, .slice AE x'.el.length cE, .bool x'.has]) 153)) R p sat deep from Blk.alloc HR3.out _)
    have HGb := Lib.hid (HG3.out.alloc (.cells (#[.int .i64 x'.op, .int .u8 x'.ty, .int .u32 x'.a, .int .u32 x'.b, .int .u64 x'.bits, .slice AL x'.list.length cL, .slice AT x'.th.length cT, .slice AE x'.el.length cE, .bool x'.has]) 153))
    have HOb := Lib.hid (Own.below HO3.out ((Below.refl W3.heap.size W3).alloc (Nat.le_refl _) (.cells (#[.int .i64 x'.op, .int .u8 x'.ty, .int .u32 x'.a, .int .u32 x'.b, .int .u64 x'.bits, .slice AL x'.list.length cL, .slice AT x'.th.length cT, .slice AE x'.el.length cE, .bool x'.has]) 153)))
    have HFb := Lib.hid (Ft.below hF ((Below.refl W3.heap.size W3).alloc (Nat.le_refl _) (.cells (#[.int .i64 x'.op, .int .u8 x'.ty, .int .u32 x'.a, .int .u32 x'.b, .int .u64 x'.bits, .slice AL x'.list.length cL, .slice AT x'.th.length cT, .slice AE x'.el.length cE, .bool x'.has]) 153)))
    clear hF hG HR3 HG3 HO3 s0 s1 s2 sf slt HR2 HG2
    simp only [insC]
    clear HI hxr
    have HRE := Lib.hid (show ((100 : Int) == 0) = false from rfl)
    have HRN := Lib.hid (show ¬ (100 : Int) = 0 from by decide)
    go_wp2_with fail
    refine (rgood_any _ _ _ _ _ _ _ _ _ false HRb.out HGb.out.1 HRE.out).mono ?_
    rintro E w' ⟨rfl, rfl⟩
    go_wp2_with fail
    go_roundw
    case rel => exact ⟨a1, 100, 0, xs, HOb.out, HGb.out, Lib.hid ⟨Nat.zero_le _, fun h => absurd h HRN.out, fun h => absurd h HRN.out, by rw [HV.out, blkM_bad _ _ _ _ _ _ HRN.out]⟩⟩
    case measure =>
     rw [curMeas_eq HGb.out.1, curMeas_eq HGo.out.1, if_neg HRN.out, if_pos rfl]
     omega
  ·have HV := Lib.hid (show blkM sat B f deep may a e [] = ([], 0, a1, e1) from by rw [hst.out.2.2.2]; exact blkM_bad _ _ _ _ _ _ he)
   have he2 := Lib.hid (beq_eq_false_iff_ne.2 he)
   clear he
   go_wp2_with fail
   refine (rgood_any _ _ _ _ _ _ _ _ _ false HR1.out HGo.out.1 he2.out).mono ?_
   rintro E w' ⟨rfl, rfl⟩
   go_wp2_with fail
   go_ret2
   rw [HV.out]
   exact ⟨⟨none, 0, rfl, Nat.le_refl _, FC.nil⟩, HGo.out⟩
end Go.Proofs.YtofaiocffifhfaaGreat
end
section
namespace Go.Proofs.YtofaiocffifhfaaGreat
open Go.RowKit Go.Shelf YtofaiocffifhfaaGreatB Go.Proofs.YtofaiocffifhfaaGreatW.PrintWords
theorem Cur.anyq {W : World} {p q q' : Nat} {a : Nat} {e : Int} (h : Cur W p q [] a e) (hq : p ≠ q') : Cur W p q' [] a e := by
 obtain ⟨_, h1, A, c, h2, h3, h4⟩ := h
 exact ⟨hq, h1, A, c, h2, h3, fun h => absurd h (by simp)⟩
def exprM (sat : Bool) (B : List Int) (a : Nat) (e : Int) : List Ins × Nat × Int :=
 let r := blkM sat B (B.length + 1) 0 false a e []
 (if r.2.2.2 = 0 then r.1 else [], r.2.2.1, r.2.2.2)
def ExprPost (W : World) (p q : Nat) (B : List Int) (r : List Ins × Nat × Int) (E : Ending) (w' : World) : Prop :=
 (∃ A c, E = .returned (.slice A r.1.length c) ∧ r.1.length ≤ c ∧ FC kI w' (fun k => W.heap.size ≤ k) A r.1) ∧ Goes W w' p q B r.2.1 r.2.2
set_option maxRecDepth 100000 in
set_option maxHeartbeats 1000000 in
theorem Expr_q (W : World) (p q : Nat) (sat : Bool) (B : List Int) (a : Nat) (e : Int) (hC : Cur W p q B a e) (hq : q ≠ W.heap.size) (hB : Byts B) :
  Calls Tryz.prog 123 #[.pointer (some ⟨p, 0, none⟩), .bool sat] W (ExprPost W p q B (exprM sat B a e)) := by
 have hplt := hC.lt
 have HBK := Lib.hid (block_any W.heap.size p q sat B (by omega) (by omega) hB (B.length + 1) 0 false (W.alloc (.cells #[.pointer (some ⟨p, 0, none⟩), .bool sat, .int .i64 0] 218)) a e (Blk.new W _ _) (hC.alloc _) (fun _ => by omega))
 have HV := Lib.hid (show exprM sat B a e = (let r := blkM sat B (B.length + 1) 0 false a e []; (if r.2.2.2 = 0 then r.1 else [], r.2.2.1, r.2.2.2)) from rfl)
 generalize blkM sat B (B.length + 1) 0 false a e [] = r at *
 obtain ⟨l, en, a1, e1⟩ := r
 simp only at HV
 have HR := Lib.hid (show Rp (W.alloc (.cells #[.pointer (some ⟨p, 0, none⟩), .bool sat, .int .i64 0] 218)) W.heap.size p sat 0 from Blk.new W _ _)
 clear hC hB
 go_enter Tryz.func123, Tryz.ntmps123
 go_wp2_with fail
 refine HBK.out.mono ?_
 rintro E W1 ⟨⟨A, c, rfl, hl, hF⟩, hG⟩
 have hG0 : Goes (W.alloc (.cells #[.pointer (some ⟨p, 0, none⟩), .bool sat, .int .i64 0] 218)) W1 p q B a1 e1 := hG
 have HR1 := Lib.hid (HR.out.goes (by omega) hG0)
 have HG1 := Lib.hid (Goes.of_alloc hG0)
 have HF := Lib.hid (hF.mono (ok' := fun k => W.heap.size ≤ k) (fun k hk => by simp at hk; omega))
 clear hG hG0 hF HR HBK
 by_cases he : e1 = 0
 ·subst he
  go_wp2_with fail
  refine (rgood_any _ _ _ _ _ _ _ _ _ true HR1.out HG1.out.1 rfl).mono ?_
  rintro E w' ⟨rfl, rfl⟩
  go_wp2_with fail
  go_ret
  rw [HV.out, if_pos trivial]
  exact ⟨⟨A, c, rfl, hl, HF.out⟩, HG1.out⟩
 ·have he2 := Lib.hid (beq_eq_false_iff_ne.2 he)
  rw [if_neg he] at HV
  clear he
  go_wp2_with fail
  refine (rgood_any _ _ _ _ _ _ _ _ _ false HR1.out HG1.out.1 he2.out).mono ?_
  rintro E w' ⟨rfl, rfl⟩
  go_wp2_with fail
  go_ret
  rw [HV.out]
  exact ⟨⟨none, 0, rfl, Nat.le_refl _, FC.nil⟩, HG1.out⟩
theorem Expr_any (W : World) (p q : Nat) (sat : Bool) (B : List Int) (a : Nat) (e : Int) (hC : Cur W p q B a e) (hB : Byts B) :
  Calls Tryz.prog 123 #[.pointer (some ⟨p, 0, none⟩), .bool sat] W (ExprPost W p q B (exprM sat B a e)) := by
 rcases hC.qlt with h | h
 ·subst h
  have hplt := hC.lt
  refine (Expr_q W p (W.heap.size + 1) sat [] a e (hC.anyq (by omega)) (by omega) hB).mono ?_
  rintro E w' ⟨h1, h2, h3⟩
  exact ⟨h1, h2.anyq hC.1, h3⟩
 ·exact Expr_q W p q sat B a e hC (by omega) hB
end Go.Proofs.YtofaiocffifhfaaGreat
end
section
namespace Go.Proofs.YtofaiocffifhfaaGreat
open Go.RowKit Go.Shelf YtofaiocffifhfaaGreatB Go.Proofs.YtofaiocffifhfaaGreatW.PrintWords
theorem infoB8 : (Tryz.prog.info? 5).map (fun i => (i.zero, i.size, i.bytes)) = some (some (.int .u8 0), 1, 1) := by kernel_rfl
theorem rdI_byQ {w : World} {A : Option Addr} {B : List Int} (h : RdI w .u8 A B) (p : Nat) (hp : w.heap.size ≤ p) : ∃ q, p ≠ q ∧ ByQ w q A B := by
 rcases Nat.eq_zero_or_pos B.length with hz | hz
 ·exact ⟨p + 1, by omega, fun hh => by omega⟩
 ·obtain ⟨b, o, rfl, hc⟩ := h.2 hz
  have hlt := World.block_lt_of_cell? _ _ (hc 0 _ (List.getElem?_eq_getElem hz))
  exact ⟨b, by simp only at hlt; omega, fun _ => ⟨o, rfl, hc⟩⟩
end Go.Proofs.YtofaiocffifhfaaGreat
end
section
namespace Go.Proofs.YtofaiocffifhfaaGreatB
open Go.RowKit Go.Proofs.YtofaiocffifhfaaGreatW.PrintWords
def expand (l : List (Int × Int)) : List Int := l.flatMap (fun x => List.replicate x.1.toNat x.2)
theorem expand_snoc (l : List (Int × Int)) (x : Int × Int) : expand (l ++ [x]) = expand l ++ List.replicate x.1.toNat x.2 := by simp [expand]
theorem expand_len (l : List (Int × Int)) (h : ∀ x ∈ l, 0 ≤ x.1) : ((expand l).length : Int) = (l.map (·.1)).sum := by
 induction l with
 | nil => simp [expand]
 | cons x l ih =>
  have h0 := h x (by simp)
  have := ih (fun y hy => h y (by simp [hy]))
  simp only [expand, List.flatMap_cons, List.length_append, List.length_replicate, List.map_cons, List.sum_cons] at *
  omega
end Go.Proofs.YtofaiocffifhfaaGreatB
namespace Go.Proofs.YtofaiocffifhfaaGreat
open Go.RowKit Go.Shelf YtofaiocffifhfaaGreatB Go.Proofs.YtofaiocffifhfaaGreatW.PrintWords
def locM (B : List Int) (a : Nat) (e : Int) : List Int × Nat × Int :=
 let g := grpsM B (rdOf (countM B a) a e).1.toNat (rdOf (countM B a) a e).2.1 (rdOf (countM B a) a e).2.2
 if g.2.2 = 0 then (if 4294967295 < sumG g.1 then ([], g.2.1, 110) else if 1024 < sumG g.1 then ([], g.2.1, 3) else (expand g.1, g.2.1, 0)) else ([], g.2.1, g.2.2)
theorem rdOf_val {B : List Int} {a : Nat} {e : Int} (hB : Byts B) : 0 ≤ (rdOf (valM B a) a e).1 ∧ (rdOf (valM B a) a e).1 ≤ 255 := by
 unfold rdOf
 by_cases h : e = 0
 ·rw [if_pos h]
  show 0 ≤ numV _ ∧ numV _ ≤ 255
  unfold valM amongM
  cases hb : B[a]? with
  | none => simp [numV]
  | some y =>
   have := hB.get hb
   dsimp only
   split
   ·simp only [numV]; omega
   ·simp [numV]
 ·rw [if_neg h]; simp
theorem grpsM_all {B : List Int} (hB : Byts B) : ∀ (k a : Nat) (e : Int), ∀ x ∈ (grpsM B k a e).1, (0 ≤ x.1 ∧ x.1 ≤ 4294967295) ∧ 0 ≤ x.2 ∧ x.2 ≤ 255
 | 0, a, e, x, hx => by simp [grpsM] at hx
 | k + 1, a, e, x, hx => by
  rw [grpsM] at hx
  split at hx
  ·rcases List.mem_cons.1 hx with rfl | hx
   ·exact ⟨rdOf_u32 hB, rdOf_val hB⟩
   ·exact grpsM_all hB k _ _ x hx
  ·simp at hx
def LocPost (W : World) (p q : Nat) (B : List Int) (r : List Int × Nat × Int) (E : Ending) (W' : World) : Prop :=
 (∃ v, E = .returned v ∧ Own (rng .u8) 5 W' W.heap.size (fun _ => False) v r.1) ∧ Goes W W' p q B r.2.1 r.2.2
end Go.Proofs.YtofaiocffifhfaaGreat
end
