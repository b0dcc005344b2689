/- Lemmas towards this claim's statement: what the functions named here come to, each under the conditions that it states itself. -/
import Derived.Test.YtofaiocffifhfaaGreatML6
section
namespace Go.Proofs.YtofaiocffifhfaaGreat
open Go.RowKit Go.Shelf YtofaiocffifhfaaGreatB Go.Proofs.YtofaiocffifhfaaGreatW.PrintWords
set_option maxRecDepth 100000 in
set_option maxHeartbeats 16000000 in
theorem rinstr_n (bk : Bool → Nat → Int → List Ins × Int × Nat × Int) (W : World) (R p q : Nat) (sat : Bool) (deep : Nat) (B : List Int) (a a1 : Nat) (b opc i : Int) (hR : Rq W R p sat) (hRp : R ≠ p) (hC : Rdr W p q B a 0) (hB : Byts B) (hx : B[a]? = some b)
    (hi1 : ¬ (2 ≤ b ∧ b ≤ 4)) (h5 : ¬ b = 5 ∧ ¬ b = 11) (ho : opM sat B a 0 = (opc, a1, 0)) (hopc : 0 ≤ opc ∧ opc ≤ 5000000000) (hi2 : rImmV opc = i) (c1 : ¬ i = 1) (c3 : ¬ i = 3) :
    Calls Tryz.prog 118 #[.pointer (some ⟨R, 0, none⟩), .int .i64 deep] W (RInsPost W p q B (bodyM bk B opc i a1)) := by
  have hxb := hB.get hx
  have hplt := hC.lt
  have hRlt := hR.cells.2.2
  have HP := Lib.hid (rnext_any (W.alloc (.cells zeroC 151)) R p q sat B a 0 (Blk.alloc hR _) (hC.alloc _) hB)
  rw [show nextV B a 0 = b from by simp [nextV, peekM, hx], show (peekM B a 0).2 = 0 from by simp [peekM, hx]] at HP
  have HI2 := Lib.hid (fun X => rImm_any X opc hopc.1 hopc.2)
  rw [hi2] at HI2
  have HOP := Lib.hid (fun X h1 h2 => rop_any X R p q sat B a 0 h1 hRp h2 hB (fun b' hb' => by rw [show peekM B a 0 = (b, 0) from by simp [peekM, hx]] at hb'; injection hb' with hb' _; subst hb'; exact h5))
  rw [ho] at HOP
  have HR := Lib.hid (show Rq (W.alloc (.cells zeroC 151)) R p sat from Blk.alloc hR _)
  have HZ := Lib.hid (Blk.new W zeroC 151)
  have HB := Lib.hid hB
  have hm : decide (2 ≤ b) = false ∨ (decide (2 ≤ b) = true ∧ decide (b ≤ 4) = false) := by
    by_cases h : 2 ≤ b
    · exact .inr ⟨decide_eq_true h, decide_eq_false (fun h4 => hi1 ⟨h, h4⟩)⟩
    · exact .inl (decide_eq_false h)
  have hopd : decide (opc < 0) = false := decide_eq_false (by omega)
  have HW := Lib.hid hC
  have HC1 := Lib.hid c1
  have HC3 := Lib.hid c3
  clear hR hC hB hx ho hi2 hxb c1 c3 h5 hi1
  go_enter Tryz.func118, Tryz.ntmps118
  go_wp2_with fail
  refine HP.out.mono ?_
  rintro E W1 ⟨rfl, hG1⟩
  have HR1 := Lib.hid (HR.out.goes hRp hG1)
  have HZ1 := Lib.hid (HZ.out.grown hG1.2 (by simp; omega))
  have HG1 := Lib.hid (GoesR.of_alloc hG1)
  clear hG1 HP HR HZ
  go_upto_region 2 with fail
  go_cut [21] from 12 to 21 (fun s21 wx => s21 = .bool false ∧ wx = W1)
  case first =>
    rcases hm with hm | ⟨hm, hm2⟩
    all_goals
      go_wp2_with fail
      go_meet
      exact ⟨rfl, rfl⟩
  case rest =>
  obtain ⟨rfl, rfl⟩ := hcut
  clear hm
  go_wp2_with fail
  refine (HOP.out _ HR1.out HG1.out.1).mono ?_
  rintro E W3 ⟨rfl, hG3⟩
  have HR3 := Lib.hid (HR1.out.goes hRp hG3)
  have HZ3 := Lib.hid (HZ1.out.grown hG3.2 (by simp; omega))
  have HG3 := Lib.hid (HG1.out.trans hG3)
  clear hG3 HR1 HZ1 HG1 HOP
  rw [show ropV (opc, a1, 0) = opc from if_pos rfl]
  go_wp2_with fail
  refine (HI2.out _).mono ?_
  rintro E W4 ⟨rfl, hB4⟩
  have XB4 : Blk W4 W3.heap.size (insC opc 0 0 0 0 (.slice none 0 0) (.slice none 0 0) (.slice none 0 0) false) 151 := (Blk.new W3 (insC opc 0 0 0 0 (.slice none 0 0) (.slice none 0 0) (.slice none 0 0) false) 151).below hB4 (by simp)
  have hg4 : GoesR W3 W4 p q B a1 0 := GoesR.of_alloc (o := .cells (insC opc 0 0 0 0 (.slice none 0 0) (.slice none 0 0) (.slice none 0 0) false) 151) ⟨(HG3.out.1.alloc _).below hB4, grown_below hB4 _⟩
  have HR4 := Lib.hid (HR3.out.goes hRp hg4)
  have HZ4 := Lib.hid (HZ3.out.grown hg4.2 (by simp; omega))
  have HG4 := Lib.hid (HG3.out.trans hg4)
  have HX4 := Lib.hid XB4
  have hXp : p < W3.heap.size := Nat.lt_of_lt_of_le hplt HG3.out.2.size
  have hXR : R < W3.heap.size := Nat.lt_of_lt_of_le hRlt HG3.out.2.size
  have hXZ : W.heap.size < W3.heap.size := HZ3.out.lt
  obtain ⟨X, hXe⟩ : ∃ X, X = W3.heap.size := ⟨_, rfl⟩
  rw [← hXe] at HX4 hXp hXR hXZ ⊢
  clear hB4 XB4 hg4 HR3 HZ3 HG3 hXe HI2
  by_cases c2 : i = 2
  · obtain rfl : i = 2 := c2
    have HV := Lib.hid (show bodyM bk B opc 2 a1 = (.mk opc 0 (rdOf (u32M B a1) a1 0).1 0 0 [] [] [] false, (rdOf (u32M B a1) a1 0).2.1, (rdOf (u32M B a1) a1 0).2.2) from rfl)
    obtain ⟨s0, s1, slt⟩ := HR4.out.cells
    obtain ⟨x0, x1, x2, x3, x4, x5, x6, x7, x8⟩ := insC_cellsT HX4.out
    obtain ⟨xf0, xf1, xf2, xf3, xf4, xf5, xf6, xf7, xf8, xlt⟩ := insC_frozen HX4.out
    obtain ⟨z0, z1, z2, z3, z4, z5, z6, z7, z8⟩ := insC_cellsT HZ4.out
    obtain ⟨zf0, zf1, zf2, zf3, zf4, zf5, zf6, zf7, zf8, zlt⟩ := insC_frozen HZ4.out
    go_wp2_with fail
    have hvb := u32_bound B a1 0 HB.out
    have H := Lib.hid (rU32_any W4 p q B a1 0 HG4.out.1 HB.out)
    generalize rdOf (u32M B a1) a1 0 = t at *
    obtain ⟨v14, a14, e14⟩ := t
    simp only at HV
    obtain ⟨hv14, hw14⟩ := hvb
    refine H.out.mono ?_
    rintro E W14 ⟨rfl, hG⟩
    have hG0 : GoesR W4 W14 p q B a14 e14 := hG
    have HR14 := Lib.hid (HR4.out.goes hRp hG0)
    have HX14 := Lib.hid (HX4.out.grown hG0.2 (by simp; omega))
    have HZ14 := Lib.hid (HZ4.out.grown hG0.2 (by simp; omega))
    have HG14 := Lib.hid (HG4.out.trans hG0)
    clear hG hG0 H HR4 HX4 HZ4 HG4
    clear s0 s1 slt x0 x1 x2 x3 x4 x5 x6 x7 x8 xf0 xf1 xf2 xf3 xf4 xf5 xf6 xf7 xf8 xlt z0 z1 z2 z3 z4 z5 z6 z7 z8 zf0 zf1 zf2 zf3 zf4 zf5 zf6 zf7 zf8 zlt
    obtain ⟨s0, s1, slt⟩ := HR14.out.cells
    obtain ⟨x0, x1, x2, x3, x4, x5, x6, x7, x8⟩ := insC_cellsT HX14.out
    obtain ⟨xf0, xf1, xf2, xf3, xf4, xf5, xf6, xf7, xf8, xlt⟩ := insC_frozen HX14.out
    obtain ⟨z0, z1, z2, z3, z4, z5, z6, z7, z8⟩ := insC_cellsT HZ14.out
    obtain ⟨zf0, zf1, zf2, zf3, zf4, zf5, zf6, zf7, zf8, zlt⟩ := insC_frozen HZ14.out
    go_wp2_with fail
    have HX15 := Lib.hid (show Blk (W14.setCell ⟨X, 2, none⟩ (.int .u32 v14)) X (insC opc 0 v14 0 0 (.slice none 0 0) (.slice none 0 0) (.slice none 0 0) false) 151 from by have := HX14.out.set 2 (.int .u32 v14); simpa [insC] using this)
    have HZ15 := Lib.hid (show Blk (W14.setCell ⟨X, 2, none⟩ (.int .u32 v14)) W.heap.size zeroC 151 from HZ14.out.set_other ⟨X, 2, none⟩ (.int .u32 v14) (by simp; omega))
    have HR15 := Lib.hid (show Rq (W14.setCell ⟨X, 2, none⟩ (.int .u32 v14)) R p sat from Blk.set_other HR14.out ⟨X, 2, none⟩ (.int .u32 v14) (by simp; omega))
    have HG15 := Lib.hid (show GoesR W (W14.setCell ⟨X, 2, none⟩ (.int .u32 v14)) p q B a14 e14 from HG14.out.setNew HW.out X (by omega) 2 (.int .u32 v14))
    clear HX14 HZ14 HR14 HG14
    clear s0 s1 slt x0 x1 x2 x3 x4 x5 x6 x7 x8 xf0 xf1 xf2 xf3 xf4 xf5 xf6 xf7 xf8 xlt z0 z1 z2 z3 z4 z5 z6 z7 z8 zf0 zf1 zf2 zf3 zf4 zf5 zf6 zf7 zf8 zlt
    change bodyPost _ _ _ Exit.ret _ (put9 (W14.setCell ⟨X, 2, none⟩ (.int .u32 v14)) W.heap.size (.int .i64 opc) (.int .u8 0) (.int .u32 v14) (.int .u32 0) (.int .u64 0) (.slice none 0 0) (.slice none 0 0) (.slice none 0 0) (.bool false))
    have hgF : GoesR W (put9 (W14.setCell ⟨X, 2, none⟩ (.int .u32 v14)) W.heap.size (.int .i64 opc) (.int .u8 0) (.int .u32 v14) (.int .u32 0) (.int .u64 0) (.slice none 0 0) (.slice none 0 0) (.slice none 0 0) (.bool false)) p q B a14 e14 := put9_goesR HW.out HG15.out _ (Nat.le_refl _) _ _ _ _ _ _ _ _ _
    have hbF := put9_blk HZ15.out (.int .i64 opc) (.int .u8 0) (.int .u32 v14) (.int .u32 0) (.int .u64 0) (.slice none 0 0) (.slice none 0 0) (.slice none 0 0) (.bool false)
    generalize put9 (W14.setCell ⟨X, 2, none⟩ (.int .u32 v14)) W.heap.size (.int .i64 opc) (.int .u8 0) (.int .u32 v14) (.int .u32 0) (.int .u64 0) (.slice none 0 0) (.slice none 0 0) (.slice none 0 0) (.bool false) = V9 at *
    obtain ⟨y0, y1, y2, y3, y4, y5, y6, y7, y8⟩ := insC_cellsT hbF
    rw [HV.out]
    have HGF := Lib.hid hgF
    refine bodyPost_ret (v := .agg (insC opc 0 v14 0 0 (.slice none 0 0) (.slice none 0 0) (.slice none 0 0) false)) (by simp [results, Tryz.results118, go_sem, y0, y1, y2, y3, y4, y5, y6, y7, y8, insC]) rfl ⟨.mk opc 0 v14 0 0 [] [] [] false, none, none, none, 0, 0, 0, rfl, ?_, fun _ => rfl, HGF.out⟩
    exact fk_flatR hopc (by omega) (by omega) (by omega) (by omega)
  by_cases c4 : i = 4
  · obtain rfl : i = 4 := c4
    have HV := Lib.hid (show bodyM bk B opc 4 a1 = (.mk opc 0 (rdOf (u32M B a1) a1 0).1 0 0 [] [] [] false, (rdOf (u32M B a1) a1 0).2.1, (rdOf (u32M B a1) a1 0).2.2) from rfl)
    obtain ⟨s0, s1, slt⟩ := HR4.out.cells
    obtain ⟨x0, x1, x2, x3, x4, x5, x6, x7, x8⟩ := insC_cellsT HX4.out
    obtain ⟨xf0, xf1, xf2, xf3, xf4, xf5, xf6, xf7, xf8, xlt⟩ := insC_frozen HX4.out
    obtain ⟨z0, z1, z2, z3, z4, z5, z6, z7, z8⟩ := insC_cellsT HZ4.out
    obtain ⟨zf0, zf1, zf2, zf3, zf4, zf5, zf6, zf7, zf8, zlt⟩ := insC_frozen HZ4.out
    go_wp2_with fail
    have hvb := u32_bound B a1 0 HB.out
    have H := Lib.hid (rU32_any W4 p q B a1 0 HG4.out.1 HB.out)
    generalize rdOf (u32M B a1) a1 0 = t at *
    obtain ⟨v14, a14, e14⟩ := t
    simp only at HV
    obtain ⟨hv14, hw14⟩ := hvb
    refine H.out.mono ?_
    rintro E W14 ⟨rfl, hG⟩
    have hG0 : GoesR W4 W14 p q B a14 e14 := hG
    have HR14 := Lib.hid (HR4.out.goes hRp hG0)
    have HX14 := Lib.hid (HX4.out.grown hG0.2 (by simp; omega))
    have HZ14 := Lib.hid (HZ4.out.grown hG0.2 (by simp; omega))
    have HG14 := Lib.hid (HG4.out.trans hG0)
    clear hG hG0 H HR4 HX4 HZ4 HG4
    clear s0 s1 slt x0 x1 x2 x3 x4 x5 x6 x7 x8 xf0 xf1 xf2 xf3 xf4 xf5 xf6 xf7 xf8 xlt z0 z1 z2 z3 z4 z5 z6 z7 z8 zf0 zf1 zf2 zf3 zf4 zf5 zf6 zf7 zf8 zlt
    obtain ⟨s0, s1, slt⟩ := HR14.out.cells
    obtain ⟨x0, x1, x2, x3, x4, x5, x6, x7, x8⟩ := insC_cellsT HX14.out
    obtain ⟨xf0, xf1, xf2, xf3, xf4, xf5, xf6, xf7, xf8, xlt⟩ := insC_frozen HX14.out
    obtain ⟨z0, z1, z2, z3, z4, z5, z6, z7, z8⟩ := insC_cellsT HZ14.out
    obtain ⟨zf0, zf1, zf2, zf3, zf4, zf5, zf6, zf7, zf8, zlt⟩ := insC_frozen HZ14.out
    go_wp2_with fail
    have HX15 := Lib.hid (show Blk (W14.setCell ⟨X, 2, none⟩ (.int .u32 v14)) X (insC opc 0 v14 0 0 (.slice none 0 0) (.slice none 0 0) (.slice none 0 0) false) 151 from by have := HX14.out.set 2 (.int .u32 v14); simpa [insC] using this)
    have HZ15 := Lib.hid (show Blk (W14.setCell ⟨X, 2, none⟩ (.int .u32 v14)) W.heap.size zeroC 151 from HZ14.out.set_other ⟨X, 2, none⟩ (.int .u32 v14) (by simp; omega))
    have HR15 := Lib.hid (show Rq (W14.setCell ⟨X, 2, none⟩ (.int .u32 v14)) R p sat from Blk.set_other HR14.out ⟨X, 2, none⟩ (.int .u32 v14) (by simp; omega))
    have HG15 := Lib.hid (show GoesR W (W14.setCell ⟨X, 2, none⟩ (.int .u32 v14)) p q B a14 e14 from HG14.out.setNew HW.out X (by omega) 2 (.int .u32 v14))
    clear HX14 HZ14 HR14 HG14
    clear s0 s1 slt x0 x1 x2 x3 x4 x5 x6 x7 x8 xf0 xf1 xf2 xf3 xf4 xf5 xf6 xf7 xf8 xlt z0 z1 z2 z3 z4 z5 z6 z7 z8 zf0 zf1 zf2 zf3 zf4 zf5 zf6 zf7 zf8 zlt
    change bodyPost _ _ _ Exit.ret _ (put9 (W14.setCell ⟨X, 2, none⟩ (.int .u32 v14)) W.heap.size (.int .i64 opc) (.int .u8 0) (.int .u32 v14) (.int .u32 0) (.int .u64 0) (.slice none 0 0) (.slice none 0 0) (.slice none 0 0) (.bool false))
    have hgF : GoesR W (put9 (W14.setCell ⟨X, 2, none⟩ (.int .u32 v14)) W.heap.size (.int .i64 opc) (.int .u8 0) (.int .u32 v14) (.int .u32 0) (.int .u64 0) (.slice none 0 0) (.slice none 0 0) (.slice none 0 0) (.bool false)) p q B a14 e14 := put9_goesR HW.out HG15.out _ (Nat.le_refl _) _ _ _ _ _ _ _ _ _
    have hbF := put9_blk HZ15.out (.int .i64 opc) (.int .u8 0) (.int .u32 v14) (.int .u32 0) (.int .u64 0) (.slice none 0 0) (.slice none 0 0) (.slice none 0 0) (.bool false)
    generalize put9 (W14.setCell ⟨X, 2, none⟩ (.int .u32 v14)) W.heap.size (.int .i64 opc) (.int .u8 0) (.int .u32 v14) (.int .u32 0) (.int .u64 0) (.slice none 0 0) (.slice none 0 0) (.slice none 0 0) (.bool false) = V9 at *
    obtain ⟨y0, y1, y2, y3, y4, y5, y6, y7, y8⟩ := insC_cellsT hbF
    rw [HV.out]
    have HGF := Lib.hid hgF
    refine bodyPost_ret (v := .agg (insC opc 0 v14 0 0 (.slice none 0 0) (.slice none 0 0) (.slice none 0 0) false)) (by simp [results, Tryz.results118, go_sem, y0, y1, y2, y3, y4, y5, y6, y7, y8, insC]) rfl ⟨.mk opc 0 v14 0 0 [] [] [] false, none, none, none, 0, 0, 0, rfl, ?_, fun _ => rfl, HGF.out⟩
    exact fk_flatR hopc (by omega) (by omega) (by omega) (by omega)
  by_cases c5 : i = 5
  · obtain rfl : i = 5 := c5
    have HV := Lib.hid (show bodyM bk B opc 5 a1 = (.mk opc 0 (rdOf (u32M B a1) a1 0).1 0 0 [] [] [] false, (zeroM B (rdOf (u32M B a1) a1 0).2.1 (rdOf (u32M B a1) a1 0).2.2).1, (zeroM B (rdOf (u32M B a1) a1 0).2.1 (rdOf (u32M B a1) a1 0).2.2).2) from rfl)
    obtain ⟨s0, s1, slt⟩ := HR4.out.cells
    obtain ⟨x0, x1, x2, x3, x4, x5, x6, x7, x8⟩ := insC_cellsT HX4.out
    obtain ⟨xf0, xf1, xf2, xf3, xf4, xf5, xf6, xf7, xf8, xlt⟩ := insC_frozen HX4.out
    obtain ⟨z0, z1, z2, z3, z4, z5, z6, z7, z8⟩ := insC_cellsT HZ4.out
    obtain ⟨zf0, zf1, zf2, zf3, zf4, zf5, zf6, zf7, zf8, zlt⟩ := insC_frozen HZ4.out
    go_wp2_with fail
    have hvb := u32_bound B a1 0 HB.out
    have H := Lib.hid (rU32_any W4 p q B a1 0 HG4.out.1 HB.out)
    generalize rdOf (u32M B a1) a1 0 = t at *
    obtain ⟨v14, a14, e14⟩ := t
    simp only at HV
    obtain ⟨hv14, hw14⟩ := hvb
    refine H.out.mono ?_
    rintro E W14 ⟨rfl, hG⟩
    have hG0 : GoesR W4 W14 p q B a14 e14 := hG
    have HR14 := Lib.hid (HR4.out.goes hRp hG0)
    have HX14 := Lib.hid (HX4.out.grown hG0.2 (by simp; omega))
    have HZ14 := Lib.hid (HZ4.out.grown hG0.2 (by simp; omega))
    have HG14 := Lib.hid (HG4.out.trans hG0)
    clear hG hG0 H HR4 HX4 HZ4 HG4
    clear s0 s1 slt x0 x1 x2 x3 x4 x5 x6 x7 x8 xf0 xf1 xf2 xf3 xf4 xf5 xf6 xf7 xf8 xlt z0 z1 z2 z3 z4 z5 z6 z7 z8 zf0 zf1 zf2 zf3 zf4 zf5 zf6 zf7 zf8 zlt
    obtain ⟨s0, s1, slt⟩ := HR14.out.cells
    obtain ⟨x0, x1, x2, x3, x4, x5, x6, x7, x8⟩ := insC_cellsT HX14.out
    obtain ⟨xf0, xf1, xf2, xf3, xf4, xf5, xf6, xf7, xf8, xlt⟩ := insC_frozen HX14.out
    obtain ⟨z0, z1, z2, z3, z4, z5, z6, z7, z8⟩ := insC_cellsT HZ14.out
    obtain ⟨zf0, zf1, zf2, zf3, zf4, zf5, zf6, zf7, zf8, zlt⟩ := insC_frozen HZ14.out
    go_wp2_with fail
    have HX15 := Lib.hid (show Blk (W14.setCell ⟨X, 2, none⟩ (.int .u32 v14)) X (insC opc 0 v14 0 0 (.slice none 0 0) (.slice none 0 0) (.slice none 0 0) false) 151 from by have := HX14.out.set 2 (.int .u32 v14); simpa [insC] using this)
    have HZ15 := Lib.hid (show Blk (W14.setCell ⟨X, 2, none⟩ (.int .u32 v14)) W.heap.size zeroC 151 from HZ14.out.set_other ⟨X, 2, none⟩ (.int .u32 v14) (by simp; omega))
    have HR15 := Lib.hid (show Rq (W14.setCell ⟨X, 2, none⟩ (.int .u32 v14)) R p sat from Blk.set_other HR14.out ⟨X, 2, none⟩ (.int .u32 v14) (by simp; omega))
    have HG15 := Lib.hid (show GoesR W (W14.setCell ⟨X, 2, none⟩ (.int .u32 v14)) p q B a14 e14 from HG14.out.setNew HW.out X (by omega) 2 (.int .u32 v14))
    generalize W14.setCell ⟨X, 2, none⟩ (.int .u32 v14) = W15 at *
    clear HX14 HZ14 HR14 HG14
    clear s0 s1 slt x0 x1 x2 x3 x4 x5 x6 x7 x8 xf0 xf1 xf2 xf3 xf4 xf5 xf6 xf7 xf8 xlt z0 z1 z2 z3 z4 z5 z6 z7 z8 zf0 zf1 zf2 zf3 zf4 zf5 zf6 zf7 zf8 zlt
    obtain ⟨s0, s1, slt⟩ := HR15.out.cells
    obtain ⟨x0, x1, x2, x3, x4, x5, x6, x7, x8⟩ := insC_cellsT HX15.out
    obtain ⟨xf0, xf1, xf2, xf3, xf4, xf5, xf6, xf7, xf8, xlt⟩ := insC_frozen HX15.out
    obtain ⟨z0, z1, z2, z3, z4, z5, z6, z7, z8⟩ := insC_cellsT HZ15.out
    obtain ⟨zf0, zf1, zf2, zf3, zf4, zf5, zf6, zf7, zf8, zlt⟩ := insC_frozen HZ15.out
    have H := Lib.hid (rzero_any W15 R p q sat B a14 e14 HR15.out hRp HG15.out.1 HB.out)
    generalize zeroM B a14 e14 = t at *
    obtain ⟨a25, e25⟩ := t
    simp only at HV
    refine H.out.mono ?_
    rintro E W25 ⟨rfl, hG⟩
    have hG0 : GoesR W15 W25 p q B a25 e25 := hG
    have HR25 := Lib.hid (HR15.out.goes hRp hG0)
    have HX25 := Lib.hid (HX15.out.grown hG0.2 (by simp; omega))
    have HZ25 := Lib.hid (HZ15.out.grown hG0.2 (by simp; omega))
    have HG25 := Lib.hid (HG15.out.trans hG0)
    clear hG hG0 H HR15 HX15 HZ15 HG15
    clear s0 s1 slt x0 x1 x2 x3 x4 x5 x6 x7 x8 xf0 xf1 xf2 xf3 xf4 xf5 xf6 xf7 xf8 xlt z0 z1 z2 z3 z4 z5 z6 z7 z8 zf0 zf1 zf2 zf3 zf4 zf5 zf6 zf7 zf8 zlt
    obtain ⟨s0, s1, slt⟩ := HR25.out.cells
    obtain ⟨x0, x1, x2, x3, x4, x5, x6, x7, x8⟩ := insC_cellsT HX25.out
    obtain ⟨xf0, xf1, xf2, xf3, xf4, xf5, xf6, xf7, xf8, xlt⟩ := insC_frozen HX25.out
    obtain ⟨z0, z1, z2, z3, z4, z5, z6, z7, z8⟩ := insC_cellsT HZ25.out
    obtain ⟨zf0, zf1, zf2, zf3, zf4, zf5, zf6, zf7, zf8, zlt⟩ := insC_frozen HZ25.out
    go_wp2_with fail
    clear s0 s1 slt x0 x1 x2 x3 x4 x5 x6 x7 x8 xf0 xf1 xf2 xf3 xf4 xf5 xf6 xf7 xf8 xlt z0 z1 z2 z3 z4 z5 z6 z7 z8 zf0 zf1 zf2 zf3 zf4 zf5 zf6 zf7 zf8 zlt
    change bodyPost _ _ _ Exit.ret _ (put9 W25 W.heap.size (.int .i64 opc) (.int .u8 0) (.int .u32 v14) (.int .u32 0) (.int .u64 0) (.slice none 0 0) (.slice none 0 0) (.slice none 0 0) (.bool false))
    have hgF : GoesR W (put9 W25 W.heap.size (.int .i64 opc) (.int .u8 0) (.int .u32 v14) (.int .u32 0) (.int .u64 0) (.slice none 0 0) (.slice none 0 0) (.slice none 0 0) (.bool false)) p q B a25 e25 := put9_goesR HW.out HG25.out _ (Nat.le_refl _) _ _ _ _ _ _ _ _ _
    have hbF := put9_blk HZ25.out (.int .i64 opc) (.int .u8 0) (.int .u32 v14) (.int .u32 0) (.int .u64 0) (.slice none 0 0) (.slice none 0 0) (.slice none 0 0) (.bool false)
    generalize put9 W25 W.heap.size (.int .i64 opc) (.int .u8 0) (.int .u32 v14) (.int .u32 0) (.int .u64 0) (.slice none 0 0) (.slice none 0 0) (.slice none 0 0) (.bool false) = V9 at *
    obtain ⟨y0, y1, y2, y3, y4, y5, y6, y7, y8⟩ := insC_cellsT hbF
    rw [HV.out]
    have HGF := Lib.hid hgF
    refine bodyPost_ret (v := .agg (insC opc 0 v14 0 0 (.slice none 0 0) (.slice none 0 0) (.slice none 0 0) false)) (by simp [results, Tryz.results118, go_sem, y0, y1, y2, y3, y4, y5, y6, y7, y8, insC]) rfl ⟨.mk opc 0 v14 0 0 [] [] [] false, none, none, none, 0, 0, 0, rfl, ?_, fun _ => rfl, HGF.out⟩
    exact fk_flatR hopc (by omega) (by omega) (by omega) (by omega)
  by_cases c6 : i = 6
  · obtain rfl : i = 6 := c6
    have HV := Lib.hid (show bodyM bk B opc 6 a1 = (.mk opc 0 (rdOf (u32M B a1) a1 0).1 (rdOf (u32M B (rdOf (u32M B a1) a1 0).2.1) (rdOf (u32M B a1) a1 0).2.1 (rdOf (u32M B a1) a1 0).2.2).1 0 [] [] [] false, (rdOf (u32M B (rdOf (u32M B a1) a1 0).2.1) (rdOf (u32M B a1) a1 0).2.1 (rdOf (u32M B a1) a1 0).2.2).2.1, (rdOf (u32M B (rdOf (u32M B a1) a1 0).2.1) (rdOf (u32M B a1) a1 0).2.1 (rdOf (u32M B a1) a1 0).2.2).2.2) from rfl)
    obtain ⟨s0, s1, slt⟩ := HR4.out.cells
    obtain ⟨x0, x1, x2, x3, x4, x5, x6, x7, x8⟩ := insC_cellsT HX4.out
    obtain ⟨xf0, xf1, xf2, xf3, xf4, xf5, xf6, xf7, xf8, xlt⟩ := insC_frozen HX4.out
    obtain ⟨z0, z1, z2, z3, z4, z5, z6, z7, z8⟩ := insC_cellsT HZ4.out
    obtain ⟨zf0, zf1, zf2, zf3, zf4, zf5, zf6, zf7, zf8, zlt⟩ := insC_frozen HZ4.out
    go_wp2_with fail
    have hvb := u32_bound B a1 0 HB.out
    have H := Lib.hid (rU32_any W4 p q B a1 0 HG4.out.1 HB.out)
    generalize rdOf (u32M B a1) a1 0 = t at *
    obtain ⟨v14, a14, e14⟩ := t
    simp only at HV
    obtain ⟨hv14, hw14⟩ := hvb
    refine H.out.mono ?_
    rintro E W14 ⟨rfl, hG⟩
    have hG0 : GoesR W4 W14 p q B a14 e14 := hG
    have HR14 := Lib.hid (HR4.out.goes hRp hG0)
    have HX14 := Lib.hid (HX4.out.grown hG0.2 (by simp; omega))
    have HZ14 := Lib.hid (HZ4.out.grown hG0.2 (by simp; omega))
    have HG14 := Lib.hid (HG4.out.trans hG0)
    clear hG hG0 H HR4 HX4 HZ4 HG4
    clear s0 s1 slt x0 x1 x2 x3 x4 x5 x6 x7 x8 xf0 xf1 xf2 xf3 xf4 xf5 xf6 xf7 xf8 xlt z0 z1 z2 z3 z4 z5 z6 z7 z8 zf0 zf1 zf2 zf3 zf4 zf5 zf6 zf7 zf8 zlt
    obtain ⟨s0, s1, slt⟩ := HR14.out.cells
    obtain ⟨x0, x1, x2, x3, x4, x5, x6, x7, x8⟩ := insC_cellsT HX14.out
    obtain ⟨xf0, xf1, xf2, xf3, xf4, xf5, xf6, xf7, xf8, xlt⟩ := insC_frozen HX14.out
    obtain ⟨z0, z1, z2, z3, z4, z5, z6, z7, z8⟩ := insC_cellsT HZ14.out
    obtain ⟨zf0, zf1, zf2, zf3, zf4, zf5, zf6, zf7, zf8, zlt⟩ := insC_frozen HZ14.out
    go_wp2_with fail
    have HX15 := Lib.hid (show Blk (W14.setCell ⟨X, 2, none⟩ (.int .u32 v14)) X (insC opc 0 v14 0 0 (.slice none 0 0) (.slice none 0 0) (.slice none 0 0) false) 151 from by have := HX14.out.set 2 (.int .u32 v14); simpa [insC] using this)
    have HZ15 := Lib.hid (show Blk (W14.setCell ⟨X, 2, none⟩ (.int .u32 v14)) W.heap.size zeroC 151 from HZ14.out.set_other ⟨X, 2, none⟩ (.int .u32 v14) (by simp; omega))
    have HR15 := Lib.hid (show Rq (W14.setCell ⟨X, 2, none⟩ (.int .u32 v14)) R p sat from Blk.set_other HR14.out ⟨X, 2, none⟩ (.int .u32 v14) (by simp; omega))
    have HG15 := Lib.hid (show GoesR W (W14.setCell ⟨X, 2, none⟩ (.int .u32 v14)) p q B a14 e14 from HG14.out.setNew HW.out X (by omega) 2 (.int .u32 v14))
    generalize W14.setCell ⟨X, 2, none⟩ (.int .u32 v14) = W15 at *
    clear HX14 HZ14 HR14 HG14
    clear s0 s1 slt x0 x1 x2 x3 x4 x5 x6 x7 x8 xf0 xf1 xf2 xf3 xf4 xf5 xf6 xf7 xf8 xlt z0 z1 z2 z3 z4 z5 z6 z7 z8 zf0 zf1 zf2 zf3 zf4 zf5 zf6 zf7 zf8 zlt
    obtain ⟨s0, s1, slt⟩ := HR15.out.cells
    obtain ⟨x0, x1, x2, x3, x4, x5, x6, x7, x8⟩ := insC_cellsT HX15.out
    obtain ⟨xf0, xf1, xf2, xf3, xf4, xf5, xf6, xf7, xf8, xlt⟩ := insC_frozen HX15.out
    obtain ⟨z0, z1, z2, z3, z4, z5, z6, z7, z8⟩ := insC_cellsT HZ15.out
    obtain ⟨zf0, zf1, zf2, zf3, zf4, zf5, zf6, zf7, zf8, zlt⟩ := insC_frozen HZ15.out
    have hvb := u32_bound B a14 e14 HB.out
    have H := Lib.hid (rU32_any W15 p q B a14 e14 HG15.out.1 HB.out)
    generalize rdOf (u32M B a14) a14 e14 = t at *
    obtain ⟨v25, a25, e25⟩ := t
    simp only at HV
    obtain ⟨hv25, hw25⟩ := hvb
    refine H.out.mono ?_
    rintro E W25 ⟨rfl, hG⟩
    have hG0 : GoesR W15 W25 p q B a25 e25 := hG
    have HR25 := Lib.hid (HR15.out.goes hRp hG0)
    have HX25 := Lib.hid (HX15.out.grown hG0.2 (by simp; omega))
    have HZ25 := Lib.hid (HZ15.out.grown hG0.2 (by simp; omega))
    have HG25 := Lib.hid (HG15.out.trans hG0)
    clear hG hG0 H HR15 HX15 HZ15 HG15
    clear s0 s1 slt x0 x1 x2 x3 x4 x5 x6 x7 x8 xf0 xf1 xf2 xf3 xf4 xf5 xf6 xf7 xf8 xlt z0 z1 z2 z3 z4 z5 z6 z7 z8 zf0 zf1 zf2 zf3 zf4 zf5 zf6 zf7 zf8 zlt
    obtain ⟨s0, s1, slt⟩ := HR25.out.cells
    obtain ⟨x0, x1, x2, x3, x4, x5, x6, x7, x8⟩ := insC_cellsT HX25.out
    obtain ⟨xf0, xf1, xf2, xf3, xf4, xf5, xf6, xf7, xf8, xlt⟩ := insC_frozen HX25.out
    obtain ⟨z0, z1, z2, z3, z4, z5, z6, z7, z8⟩ := insC_cellsT HZ25.out
    obtain ⟨zf0, zf1, zf2, zf3, zf4, zf5, zf6, zf7, zf8, zlt⟩ := insC_frozen HZ25.out
    go_wp2_with fail
    have HX26 := Lib.hid (show Blk (W25.setCell ⟨X, 3, none⟩ (.int .u32 v25)) X (insC opc 0 v14 v25 0 (.slice none 0 0) (.slice none 0 0) (.slice none 0 0) false) 151 from by have := HX25.out.set 3 (.int .u32 v25); simpa [insC] using this)
    have HZ26 := Lib.hid (show Blk (W25.setCell ⟨X, 3, none⟩ (.int .u32 v25)) W.heap.size zeroC 151 from HZ25.out.set_other ⟨X, 3, none⟩ (.int .u32 v25) (by simp; omega))
    have HR26 := Lib.hid (show Rq (W25.setCell ⟨X, 3, none⟩ (.int .u32 v25)) R p sat from Blk.set_other HR25.out ⟨X, 3, none⟩ (.int .u32 v25) (by simp; omega))
    have HG26 := Lib.hid (show GoesR W (W25.setCell ⟨X, 3, none⟩ (.int .u32 v25)) p q B a25 e25 from HG25.out.setNew HW.out X (by omega) 3 (.int .u32 v25))
    clear HX25 HZ25 HR25 HG25
    clear s0 s1 slt x0 x1 x2 x3 x4 x5 x6 x7 x8 xf0 xf1 xf2 xf3 xf4 xf5 xf6 xf7 xf8 xlt z0 z1 z2 z3 z4 z5 z6 z7 z8 zf0 zf1 zf2 zf3 zf4 zf5 zf6 zf7 zf8 zlt
    change bodyPost _ _ _ Exit.ret _ (put9 (W25.setCell ⟨X, 3, none⟩ (.int .u32 v25)) W.heap.size (.int .i64 opc) (.int .u8 0) (.int .u32 v14) (.int .u32 v25) (.int .u64 0) (.slice none 0 0) (.slice none 0 0) (.slice none 0 0) (.bool false))
    have hgF : GoesR W (put9 (W25.setCell ⟨X, 3, none⟩ (.int .u32 v25)) W.heap.size (.int .i64 opc) (.int .u8 0) (.int .u32 v14) (.int .u32 v25) (.int .u64 0) (.slice none 0 0) (.slice none 0 0) (.slice none 0 0) (.bool false)) p q B a25 e25 := put9_goesR HW.out HG26.out _ (Nat.le_refl _) _ _ _ _ _ _ _ _ _
    have hbF := put9_blk HZ26.out (.int .i64 opc) (.int .u8 0) (.int .u32 v14) (.int .u32 v25) (.int .u64 0) (.slice none 0 0) (.slice none 0 0) (.slice none 0 0) (.bool false)
    generalize put9 (W25.setCell ⟨X, 3, none⟩ (.int .u32 v25)) W.heap.size (.int .i64 opc) (.int .u8 0) (.int .u32 v14) (.int .u32 v25) (.int .u64 0) (.slice none 0 0) (.slice none 0 0) (.slice none 0 0) (.bool false) = V9 at *
    obtain ⟨y0, y1, y2, y3, y4, y5, y6, y7, y8⟩ := insC_cellsT hbF
    rw [HV.out]
    have HGF := Lib.hid hgF
    refine bodyPost_ret (v := .agg (insC opc 0 v14 v25 0 (.slice none 0 0) (.slice none 0 0) (.slice none 0 0) false)) (by simp [results, Tryz.results118, go_sem, y0, y1, y2, y3, y4, y5, y6, y7, y8, insC]) rfl ⟨.mk opc 0 v14 v25 0 [] [] [] false, none, none, none, 0, 0, 0, rfl, ?_, fun _ => rfl, HGF.out⟩
    exact fk_flatR hopc (by omega) (by omega) (by omega) (by omega)
  by_cases c7 : i = 7
  · obtain rfl : i = 7 := c7
    have HV := Lib.hid (show bodyM bk B opc 7 a1 = (.mk opc 0 0 0 0 [] [] [] false, (zeroM B a1 0).1, (zeroM B a1 0).2) from rfl)
    obtain ⟨s0, s1, slt⟩ := HR4.out.cells
    obtain ⟨x0, x1, x2, x3, x4, x5, x6, x7, x8⟩ := insC_cellsT HX4.out
    obtain ⟨xf0, xf1, xf2, xf3, xf4, xf5, xf6, xf7, xf8, xlt⟩ := insC_frozen HX4.out
    obtain ⟨z0, z1, z2, z3, z4, z5, z6, z7, z8⟩ := insC_cellsT HZ4.out
    obtain ⟨zf0, zf1, zf2, zf3, zf4, zf5, zf6, zf7, zf8, zlt⟩ := insC_frozen HZ4.out
    go_wp2_with fail
    have H := Lib.hid (rzero_any W4 R p q sat B a1 0 HR4.out hRp HG4.out.1 HB.out)
    generalize zeroM B a1 0 = t at *
    obtain ⟨a14, e14⟩ := t
    simp only at HV
    refine H.out.mono ?_
    rintro E W14 ⟨rfl, hG⟩
    have hG0 : GoesR W4 W14 p q B a14 e14 := hG
    have HR14 := Lib.hid (HR4.out.goes hRp hG0)
    have HX14 := Lib.hid (HX4.out.grown hG0.2 (by simp; omega))
    have HZ14 := Lib.hid (HZ4.out.grown hG0.2 (by simp; omega))
    have HG14 := Lib.hid (HG4.out.trans hG0)
    clear hG hG0 H HR4 HX4 HZ4 HG4
    clear s0 s1 slt x0 x1 x2 x3 x4 x5 x6 x7 x8 xf0 xf1 xf2 xf3 xf4 xf5 xf6 xf7 xf8 xlt z0 z1 z2 z3 z4 z5 z6 z7 z8 zf0 zf1 zf2 zf3 zf4 zf5 zf6 zf7 zf8 zlt
    obtain ⟨s0, s1, slt⟩ := HR14.out.cells
    obtain ⟨x0, x1, x2, x3, x4, x5, x6, x7, x8⟩ := insC_cellsT HX14.out
    obtain ⟨xf0, xf1, xf2, xf3, xf4, xf5, xf6, xf7, xf8, xlt⟩ := insC_frozen HX14.out
    obtain ⟨z0, z1, z2, z3, z4, z5, z6, z7, z8⟩ := insC_cellsT HZ14.out
    obtain ⟨zf0, zf1, zf2, zf3, zf4, zf5, zf6, zf7, zf8, zlt⟩ := insC_frozen HZ14.out
    go_wp2_with fail
    clear s0 s1 slt x0 x1 x2 x3 x4 x5 x6 x7 x8 xf0 xf1 xf2 xf3 xf4 xf5 xf6 xf7 xf8 xlt z0 z1 z2 z3 z4 z5 z6 z7 z8 zf0 zf1 zf2 zf3 zf4 zf5 zf6 zf7 zf8 zlt
    change bodyPost _ _ _ Exit.ret _ (put9 W14 W.heap.size (.int .i64 opc) (.int .u8 0) (.int .u32 0) (.int .u32 0) (.int .u64 0) (.slice none 0 0) (.slice none 0 0) (.slice none 0 0) (.bool false))
    have hgF : GoesR W (put9 W14 W.heap.size (.int .i64 opc) (.int .u8 0) (.int .u32 0) (.int .u32 0) (.int .u64 0) (.slice none 0 0) (.slice none 0 0) (.slice none 0 0) (.bool false)) p q B a14 e14 := put9_goesR HW.out HG14.out _ (Nat.le_refl _) _ _ _ _ _ _ _ _ _
    have hbF := put9_blk HZ14.out (.int .i64 opc) (.int .u8 0) (.int .u32 0) (.int .u32 0) (.int .u64 0) (.slice none 0 0) (.slice none 0 0) (.slice none 0 0) (.bool false)
    generalize put9 W14 W.heap.size (.int .i64 opc) (.int .u8 0) (.int .u32 0) (.int .u32 0) (.int .u64 0) (.slice none 0 0) (.slice none 0 0) (.slice none 0 0) (.bool false) = V9 at *
    obtain ⟨y0, y1, y2, y3, y4, y5, y6, y7, y8⟩ := insC_cellsT hbF
    rw [HV.out]
    have HGF := Lib.hid hgF
    refine bodyPost_ret (v := .agg (insC opc 0 0 0 0 (.slice none 0 0) (.slice none 0 0) (.slice none 0 0) false)) (by simp [results, Tryz.results118, go_sem, y0, y1, y2, y3, y4, y5, y6, y7, y8, insC]) rfl ⟨.mk opc 0 0 0 0 [] [] [] false, none, none, none, 0, 0, 0, rfl, ?_, fun _ => rfl, HGF.out⟩
    exact fk_flatR hopc (by omega) (by omega) (by omega) (by omega)
  by_cases c8 : i = 8
  · obtain rfl : i = 8 := c8
    have HV := Lib.hid (show bodyM bk B opc 8 a1 = (.mk opc 0 0 0 (rdOf (s32M B a1) a1 0).1 [] [] [] false, (rdOf (s32M B a1) a1 0).2.1, (rdOf (s32M B a1) a1 0).2.2) from rfl)
    obtain ⟨s0, s1, slt⟩ := HR4.out.cells
    obtain ⟨x0, x1, x2, x3, x4, x5, x6, x7, x8⟩ := insC_cellsT HX4.out
    obtain ⟨xf0, xf1, xf2, xf3, xf4, xf5, xf6, xf7, xf8, xlt⟩ := insC_frozen HX4.out
    obtain ⟨z0, z1, z2, z3, z4, z5, z6, z7, z8⟩ := insC_cellsT HZ4.out
    obtain ⟨zf0, zf1, zf2, zf3, zf4, zf5, zf6, zf7, zf8, zlt⟩ := insC_frozen HZ4.out
    go_wp2_with fail
    have hvb := s32_bound B a1 0
    have H := Lib.hid (rdS32_any W4 p q B a1 0 HG4.out.1 HB.out)
    generalize rdOf (s32M B a1) a1 0 = t at *
    obtain ⟨v14, a14, e14⟩ := t
    simp only at HV
    obtain ⟨hv14, hw14⟩ := hvb
    refine H.out.mono ?_
    rintro E W14 ⟨rfl, hG⟩
    have hG0 : GoesR W4 W14 p q B a14 e14 := hG
    have HR14 := Lib.hid (HR4.out.goes hRp hG0)
    have HX14 := Lib.hid (HX4.out.grown hG0.2 (by simp; omega))
    have HZ14 := Lib.hid (HZ4.out.grown hG0.2 (by simp; omega))
    have HG14 := Lib.hid (HG4.out.trans hG0)
    clear hG hG0 H HR4 HX4 HZ4 HG4
    clear s0 s1 slt x0 x1 x2 x3 x4 x5 x6 x7 x8 xf0 xf1 xf2 xf3 xf4 xf5 xf6 xf7 xf8 xlt z0 z1 z2 z3 z4 z5 z6 z7 z8 zf0 zf1 zf2 zf3 zf4 zf5 zf6 zf7 zf8 zlt
    obtain ⟨s0, s1, slt⟩ := HR14.out.cells
    obtain ⟨x0, x1, x2, x3, x4, x5, x6, x7, x8⟩ := insC_cellsT HX14.out
    obtain ⟨xf0, xf1, xf2, xf3, xf4, xf5, xf6, xf7, xf8, xlt⟩ := insC_frozen HX14.out
    obtain ⟨z0, z1, z2, z3, z4, z5, z6, z7, z8⟩ := insC_cellsT HZ14.out
    obtain ⟨zf0, zf1, zf2, zf3, zf4, zf5, zf6, zf7, zf8, zlt⟩ := insC_frozen HZ14.out
    go_wp2_with fail
    have HX15 := Lib.hid (show Blk (W14.setCell ⟨X, 4, none⟩ (.int .u64 v14)) X (insC opc 0 0 0 v14 (.slice none 0 0) (.slice none 0 0) (.slice none 0 0) false) 151 from by have := HX14.out.set 4 (.int .u64 v14); simpa [insC] using this)
    have HZ15 := Lib.hid (show Blk (W14.setCell ⟨X, 4, none⟩ (.int .u64 v14)) W.heap.size zeroC 151 from HZ14.out.set_other ⟨X, 4, none⟩ (.int .u64 v14) (by simp; omega))
    have HR15 := Lib.hid (show Rq (W14.setCell ⟨X, 4, none⟩ (.int .u64 v14)) R p sat from Blk.set_other HR14.out ⟨X, 4, none⟩ (.int .u64 v14) (by simp; omega))
    have HG15 := Lib.hid (show GoesR W (W14.setCell ⟨X, 4, none⟩ (.int .u64 v14)) p q B a14 e14 from HG14.out.setNew HW.out X (by omega) 4 (.int .u64 v14))
    clear HX14 HZ14 HR14 HG14
    clear s0 s1 slt x0 x1 x2 x3 x4 x5 x6 x7 x8 xf0 xf1 xf2 xf3 xf4 xf5 xf6 xf7 xf8 xlt z0 z1 z2 z3 z4 z5 z6 z7 z8 zf0 zf1 zf2 zf3 zf4 zf5 zf6 zf7 zf8 zlt
    change bodyPost _ _ _ Exit.ret _ (put9 (W14.setCell ⟨X, 4, none⟩ (.int .u64 v14)) W.heap.size (.int .i64 opc) (.int .u8 0) (.int .u32 0) (.int .u32 0) (.int .u64 v14) (.slice none 0 0) (.slice none 0 0) (.slice none 0 0) (.bool false))
    have hgF : GoesR W (put9 (W14.setCell ⟨X, 4, none⟩ (.int .u64 v14)) W.heap.size (.int .i64 opc) (.int .u8 0) (.int .u32 0) (.int .u32 0) (.int .u64 v14) (.slice none 0 0) (.slice none 0 0) (.slice none 0 0) (.bool false)) p q B a14 e14 := put9_goesR HW.out HG15.out _ (Nat.le_refl _) _ _ _ _ _ _ _ _ _
    have hbF := put9_blk HZ15.out (.int .i64 opc) (.int .u8 0) (.int .u32 0) (.int .u32 0) (.int .u64 v14) (.slice none 0 0) (.slice none 0 0) (.slice none 0 0) (.bool false)
    generalize put9 (W14.setCell ⟨X, 4, none⟩ (.int .u64 v14)) W.heap.size (.int .i64 opc) (.int .u8 0) (.int .u32 0) (.int .u32 0) (.int .u64 v14) (.slice none 0 0) (.slice none 0 0) (.slice none 0 0) (.bool false) = V9 at *
    obtain ⟨y0, y1, y2, y3, y4, y5, y6, y7, y8⟩ := insC_cellsT hbF
    rw [HV.out]
    have HGF := Lib.hid hgF
    refine bodyPost_ret (v := .agg (insC opc 0 0 0 v14 (.slice none 0 0) (.slice none 0 0) (.slice none 0 0) false)) (by simp [results, Tryz.results118, go_sem, y0, y1, y2, y3, y4, y5, y6, y7, y8, insC]) rfl ⟨.mk opc 0 0 0 v14 [] [] [] false, none, none, none, 0, 0, 0, rfl, ?_, fun _ => rfl, HGF.out⟩
    exact fk_flatR hopc (by omega) (by omega) (by omega) (by omega)
  by_cases c9 : i = 9
  · obtain rfl : i = 9 := c9
    have HV := Lib.hid (show bodyM bk B opc 9 a1 = (.mk opc 0 0 0 (rdOf (s64M B a1) a1 0).1 [] [] [] false, (rdOf (s64M B a1) a1 0).2.1, (rdOf (s64M B a1) a1 0).2.2) from rfl)
    obtain ⟨s0, s1, slt⟩ := HR4.out.cells
    obtain ⟨x0, x1, x2, x3, x4, x5, x6, x7, x8⟩ := insC_cellsT HX4.out
    obtain ⟨xf0, xf1, xf2, xf3, xf4, xf5, xf6, xf7, xf8, xlt⟩ := insC_frozen HX4.out
    obtain ⟨z0, z1, z2, z3, z4, z5, z6, z7, z8⟩ := insC_cellsT HZ4.out
    obtain ⟨zf0, zf1, zf2, zf3, zf4, zf5, zf6, zf7, zf8, zlt⟩ := insC_frozen HZ4.out
    go_wp2_with fail
    have hvb := s64_bound B a1 0 HB.out
    have H := Lib.hid (rdS64_any W4 p q B a1 0 HG4.out.1 HB.out)
    generalize rdOf (s64M B a1) a1 0 = t at *
    obtain ⟨v14, a14, e14⟩ := t
    simp only at HV
    obtain ⟨hv14, hw14⟩ := hvb
    refine H.out.mono ?_
    rintro E W14 ⟨rfl, hG⟩
    have hG0 : GoesR W4 W14 p q B a14 e14 := hG
    have HR14 := Lib.hid (HR4.out.goes hRp hG0)
    have HX14 := Lib.hid (HX4.out.grown hG0.2 (by simp; omega))
    have HZ14 := Lib.hid (HZ4.out.grown hG0.2 (by simp; omega))
    have HG14 := Lib.hid (HG4.out.trans hG0)
    clear hG hG0 H HR4 HX4 HZ4 HG4
    clear s0 s1 slt x0 x1 x2 x3 x4 x5 x6 x7 x8 xf0 xf1 xf2 xf3 xf4 xf5 xf6 xf7 xf8 xlt z0 z1 z2 z3 z4 z5 z6 z7 z8 zf0 zf1 zf2 zf3 zf4 zf5 zf6 zf7 zf8 zlt
    obtain ⟨s0, s1, slt⟩ := HR14.out.cells
    obtain ⟨x0, x1, x2, x3, x4, x5, x6, x7, x8⟩ := insC_cellsT HX14.out
    obtain ⟨xf0, xf1, xf2, xf3, xf4, xf5, xf6, xf7, xf8, xlt⟩ := insC_frozen HX14.out
    obtain ⟨z0, z1, z2, z3, z4, z5, z6, z7, z8⟩ := insC_cellsT HZ14.out
    obtain ⟨zf0, zf1, zf2, zf3, zf4, zf5, zf6, zf7, zf8, zlt⟩ := insC_frozen HZ14.out
    go_wp2_with fail
    have HX15 := Lib.hid (show Blk (W14.setCell ⟨X, 4, none⟩ (.int .u64 v14)) X (insC opc 0 0 0 v14 (.slice none 0 0) (.slice none 0 0) (.slice none 0 0) false) 151 from by have := HX14.out.set 4 (.int .u64 v14); simpa [insC] using this)
    have HZ15 := Lib.hid (show Blk (W14.setCell ⟨X, 4, none⟩ (.int .u64 v14)) W.heap.size zeroC 151 from HZ14.out.set_other ⟨X, 4, none⟩ (.int .u64 v14) (by simp; omega))
    have HR15 := Lib.hid (show Rq (W14.setCell ⟨X, 4, none⟩ (.int .u64 v14)) R p sat from Blk.set_other HR14.out ⟨X, 4, none⟩ (.int .u64 v14) (by simp; omega))
    have HG15 := Lib.hid (show GoesR W (W14.setCell ⟨X, 4, none⟩ (.int .u64 v14)) p q B a14 e14 from HG14.out.setNew HW.out X (by omega) 4 (.int .u64 v14))
    clear HX14 HZ14 HR14 HG14
    clear s0 s1 slt x0 x1 x2 x3 x4 x5 x6 x7 x8 xf0 xf1 xf2 xf3 xf4 xf5 xf6 xf7 xf8 xlt z0 z1 z2 z3 z4 z5 z6 z7 z8 zf0 zf1 zf2 zf3 zf4 zf5 zf6 zf7 zf8 zlt
    change bodyPost _ _ _ Exit.ret _ (put9 (W14.setCell ⟨X, 4, none⟩ (.int .u64 v14)) W.heap.size (.int .i64 opc) (.int .u8 0) (.int .u32 0) (.int .u32 0) (.int .u64 v14) (.slice none 0 0) (.slice none 0 0) (.slice none 0 0) (.bool false))
    have hgF : GoesR W (put9 (W14.setCell ⟨X, 4, none⟩ (.int .u64 v14)) W.heap.size (.int .i64 opc) (.int .u8 0) (.int .u32 0) (.int .u32 0) (.int .u64 v14) (.slice none 0 0) (.slice none 0 0) (.slice none 0 0) (.bool false)) p q B a14 e14 := put9_goesR HW.out HG15.out _ (Nat.le_refl _) _ _ _ _ _ _ _ _ _
    have hbF := put9_blk HZ15.out (.int .i64 opc) (.int .u8 0) (.int .u32 0) (.int .u32 0) (.int .u64 v14) (.slice none 0 0) (.slice none 0 0) (.slice none 0 0) (.bool false)
    generalize put9 (W14.setCell ⟨X, 4, none⟩ (.int .u64 v14)) W.heap.size (.int .i64 opc) (.int .u8 0) (.int .u32 0) (.int .u32 0) (.int .u64 v14) (.slice none 0 0) (.slice none 0 0) (.slice none 0 0) (.bool false) = V9 at *
    obtain ⟨y0, y1, y2, y3, y4, y5, y6, y7, y8⟩ := insC_cellsT hbF
    rw [HV.out]
    have HGF := Lib.hid hgF
    refine bodyPost_ret (v := .agg (insC opc 0 0 0 v14 (.slice none 0 0) (.slice none 0 0) (.slice none 0 0) false)) (by simp [results, Tryz.results118, go_sem, y0, y1, y2, y3, y4, y5, y6, y7, y8, insC]) rfl ⟨.mk opc 0 0 0 v14 [] [] [] false, none, none, none, 0, 0, 0, rfl, ?_, fun _ => rfl, HGF.out⟩
    exact fk_flatR hopc (by omega) (by omega) (by omega) (by omega)
  by_cases c10 : i = 10
  · obtain rfl : i = 10 := c10
    have HV := Lib.hid (show bodyM bk B opc 10 a1 = (.mk opc 0 0 0 (rdOf (fixM B a1 4) a1 0).1 [] [] [] false, (rdOf (fixM B a1 4) a1 0).2.1, (rdOf (fixM B a1 4) a1 0).2.2) from rfl)
    obtain ⟨s0, s1, slt⟩ := HR4.out.cells
    obtain ⟨x0, x1, x2, x3, x4, x5, x6, x7, x8⟩ := insC_cellsT HX4.out
    obtain ⟨xf0, xf1, xf2, xf3, xf4, xf5, xf6, xf7, xf8, xlt⟩ := insC_frozen HX4.out
    obtain ⟨z0, z1, z2, z3, z4, z5, z6, z7, z8⟩ := insC_cellsT HZ4.out
    obtain ⟨zf0, zf1, zf2, zf3, zf4, zf5, zf6, zf7, zf8, zlt⟩ := insC_frozen HZ4.out
    go_wp2_with fail
    have hvb := fix_bound B a1 4 0 (by omega) HB.out
    have H := Lib.hid (rFixed_4 W4 p q B a1 0 HG4.out.1 HB.out)
    generalize rdOf (fixM B a1 4) a1 0 = t at *
    obtain ⟨v14, a14, e14⟩ := t
    simp only at HV
    obtain ⟨hv14, hw14⟩ := hvb
    refine H.out.mono ?_
    rintro E W14 ⟨rfl, hG⟩
    have hG0 : GoesR W4 W14 p q B a14 e14 := hG
    have HR14 := Lib.hid (HR4.out.goes hRp hG0)
    have HX14 := Lib.hid (HX4.out.grown hG0.2 (by simp; omega))
    have HZ14 := Lib.hid (HZ4.out.grown hG0.2 (by simp; omega))
    have HG14 := Lib.hid (HG4.out.trans hG0)
    clear hG hG0 H HR4 HX4 HZ4 HG4
    clear s0 s1 slt x0 x1 x2 x3 x4 x5 x6 x7 x8 xf0 xf1 xf2 xf3 xf4 xf5 xf6 xf7 xf8 xlt z0 z1 z2 z3 z4 z5 z6 z7 z8 zf0 zf1 zf2 zf3 zf4 zf5 zf6 zf7 zf8 zlt
    obtain ⟨s0, s1, slt⟩ := HR14.out.cells
    obtain ⟨x0, x1, x2, x3, x4, x5, x6, x7, x8⟩ := insC_cellsT HX14.out
    obtain ⟨xf0, xf1, xf2, xf3, xf4, xf5, xf6, xf7, xf8, xlt⟩ := insC_frozen HX14.out
    obtain ⟨z0, z1, z2, z3, z4, z5, z6, z7, z8⟩ := insC_cellsT HZ14.out
    obtain ⟨zf0, zf1, zf2, zf3, zf4, zf5, zf6, zf7, zf8, zlt⟩ := insC_frozen HZ14.out
    go_wp2_with fail
    have HX15 := Lib.hid (show Blk (W14.setCell ⟨X, 4, none⟩ (.int .u64 v14)) X (insC opc 0 0 0 v14 (.slice none 0 0) (.slice none 0 0) (.slice none 0 0) false) 151 from by have := HX14.out.set 4 (.int .u64 v14); simpa [insC] using this)
    have HZ15 := Lib.hid (show Blk (W14.setCell ⟨X, 4, none⟩ (.int .u64 v14)) W.heap.size zeroC 151 from HZ14.out.set_other ⟨X, 4, none⟩ (.int .u64 v14) (by simp; omega))
    have HR15 := Lib.hid (show Rq (W14.setCell ⟨X, 4, none⟩ (.int .u64 v14)) R p sat from Blk.set_other HR14.out ⟨X, 4, none⟩ (.int .u64 v14) (by simp; omega))
    have HG15 := Lib.hid (show GoesR W (W14.setCell ⟨X, 4, none⟩ (.int .u64 v14)) p q B a14 e14 from HG14.out.setNew HW.out X (by omega) 4 (.int .u64 v14))
    clear HX14 HZ14 HR14 HG14
    clear s0 s1 slt x0 x1 x2 x3 x4 x5 x6 x7 x8 xf0 xf1 xf2 xf3 xf4 xf5 xf6 xf7 xf8 xlt z0 z1 z2 z3 z4 z5 z6 z7 z8 zf0 zf1 zf2 zf3 zf4 zf5 zf6 zf7 zf8 zlt
    change bodyPost _ _ _ Exit.ret _ (put9 (W14.setCell ⟨X, 4, none⟩ (.int .u64 v14)) W.heap.size (.int .i64 opc) (.int .u8 0) (.int .u32 0) (.int .u32 0) (.int .u64 v14) (.slice none 0 0) (.slice none 0 0) (.slice none 0 0) (.bool false))
    have hgF : GoesR W (put9 (W14.setCell ⟨X, 4, none⟩ (.int .u64 v14)) W.heap.size (.int .i64 opc) (.int .u8 0) (.int .u32 0) (.int .u32 0) (.int .u64 v14) (.slice none 0 0) (.slice none 0 0) (.slice none 0 0) (.bool false)) p q B a14 e14 := put9_goesR HW.out HG15.out _ (Nat.le_refl _) _ _ _ _ _ _ _ _ _
    have hbF := put9_blk HZ15.out (.int .i64 opc) (.int .u8 0) (.int .u32 0) (.int .u32 0) (.int .u64 v14) (.slice none 0 0) (.slice none 0 0) (.slice none 0 0) (.bool false)
    generalize put9 (W14.setCell ⟨X, 4, none⟩ (.int .u64 v14)) W.heap.size (.int .i64 opc) (.int .u8 0) (.int .u32 0) (.int .u32 0) (.int .u64 v14) (.slice none 0 0) (.slice none 0 0) (.slice none 0 0) (.bool false) = V9 at *
    obtain ⟨y0, y1, y2, y3, y4, y5, y6, y7, y8⟩ := insC_cellsT hbF
    rw [HV.out]
    have HGF := Lib.hid hgF
    refine bodyPost_ret (v := .agg (insC opc 0 0 0 v14 (.slice none 0 0) (.slice none 0 0) (.slice none 0 0) false)) (by simp [results, Tryz.results118, go_sem, y0, y1, y2, y3, y4, y5, y6, y7, y8, insC]) rfl ⟨.mk opc 0 0 0 v14 [] [] [] false, none, none, none, 0, 0, 0, rfl, ?_, fun _ => rfl, HGF.out⟩
    exact fk_flatR hopc (by omega) (by omega) (by omega) (by omega)
  by_cases c11 : i = 11
  · obtain rfl : i = 11 := c11
    have HV := Lib.hid (show bodyM bk B opc 11 a1 = (.mk opc 0 0 0 (rdOf (fixM B a1 8) a1 0).1 [] [] [] false, (rdOf (fixM B a1 8) a1 0).2.1, (rdOf (fixM B a1 8) a1 0).2.2) from rfl)
    obtain ⟨s0, s1, slt⟩ := HR4.out.cells
    obtain ⟨x0, x1, x2, x3, x4, x5, x6, x7, x8⟩ := insC_cellsT HX4.out
    obtain ⟨xf0, xf1, xf2, xf3, xf4, xf5, xf6, xf7, xf8, xlt⟩ := insC_frozen HX4.out
    obtain ⟨z0, z1, z2, z3, z4, z5, z6, z7, z8⟩ := insC_cellsT HZ4.out
    obtain ⟨zf0, zf1, zf2, zf3, zf4, zf5, zf6, zf7, zf8, zlt⟩ := insC_frozen HZ4.out
    go_wp2_with fail
    have hvb := fix_bound B a1 8 0 (by omega) HB.out
    have H := Lib.hid (rFixed_8 W4 p q B a1 0 HG4.out.1 HB.out)
    generalize rdOf (fixM B a1 8) a1 0 = t at *
    obtain ⟨v14, a14, e14⟩ := t
    simp only at HV
    obtain ⟨hv14, hw14⟩ := hvb
    refine H.out.mono ?_
    rintro E W14 ⟨rfl, hG⟩
    have hG0 : GoesR W4 W14 p q B a14 e14 := hG
    have HR14 := Lib.hid (HR4.out.goes hRp hG0)
    have HX14 := Lib.hid (HX4.out.grown hG0.2 (by simp; omega))
    have HZ14 := Lib.hid (HZ4.out.grown hG0.2 (by simp; omega))
    have HG14 := Lib.hid (HG4.out.trans hG0)
    clear hG hG0 H HR4 HX4 HZ4 HG4
    clear s0 s1 slt x0 x1 x2 x3 x4 x5 x6 x7 x8 xf0 xf1 xf2 xf3 xf4 xf5 xf6 xf7 xf8 xlt z0 z1 z2 z3 z4 z5 z6 z7 z8 zf0 zf1 zf2 zf3 zf4 zf5 zf6 zf7 zf8 zlt
    obtain ⟨s0, s1, slt⟩ := HR14.out.cells
    obtain ⟨x0, x1, x2, x3, x4, x5, x6, x7, x8⟩ := insC_cellsT HX14.out
    obtain ⟨xf0, xf1, xf2, xf3, xf4, xf5, xf6, xf7, xf8, xlt⟩ := insC_frozen HX14.out
    obtain ⟨z0, z1, z2, z3, z4, z5, z6, z7, z8⟩ := insC_cellsT HZ14.out
    obtain ⟨zf0, zf1, zf2, zf3, zf4, zf5, zf6, zf7, zf8, zlt⟩ := insC_frozen HZ14.out
    go_wp2_with fail
    have HX15 := Lib.hid (show Blk (W14.setCell ⟨X, 4, none⟩ (.int .u64 v14)) X (insC opc 0 0 0 v14 (.slice none 0 0) (.slice none 0 0) (.slice none 0 0) false) 151 from by have := HX14.out.set 4 (.int .u64 v14); simpa [insC] using this)
    have HZ15 := Lib.hid (show Blk (W14.setCell ⟨X, 4, none⟩ (.int .u64 v14)) W.heap.size zeroC 151 from HZ14.out.set_other ⟨X, 4, none⟩ (.int .u64 v14) (by simp; omega))
    have HR15 := Lib.hid (show Rq (W14.setCell ⟨X, 4, none⟩ (.int .u64 v14)) R p sat from Blk.set_other HR14.out ⟨X, 4, none⟩ (.int .u64 v14) (by simp; omega))
    have HG15 := Lib.hid (show GoesR W (W14.setCell ⟨X, 4, none⟩ (.int .u64 v14)) p q B a14 e14 from HG14.out.setNew HW.out X (by omega) 4 (.int .u64 v14))
    clear HX14 HZ14 HR14 HG14
    clear s0 s1 slt x0 x1 x2 x3 x4 x5 x6 x7 x8 xf0 xf1 xf2 xf3 xf4 xf5 xf6 xf7 xf8 xlt z0 z1 z2 z3 z4 z5 z6 z7 z8 zf0 zf1 zf2 zf3 zf4 zf5 zf6 zf7 zf8 zlt
    change bodyPost _ _ _ Exit.ret _ (put9 (W14.setCell ⟨X, 4, none⟩ (.int .u64 v14)) W.heap.size (.int .i64 opc) (.int .u8 0) (.int .u32 0) (.int .u32 0) (.int .u64 v14) (.slice none 0 0) (.slice none 0 0) (.slice none 0 0) (.bool false))
    have hgF : GoesR W (put9 (W14.setCell ⟨X, 4, none⟩ (.int .u64 v14)) W.heap.size (.int .i64 opc) (.int .u8 0) (.int .u32 0) (.int .u32 0) (.int .u64 v14) (.slice none 0 0) (.slice none 0 0) (.slice none 0 0) (.bool false)) p q B a14 e14 := put9_goesR HW.out HG15.out _ (Nat.le_refl _) _ _ _ _ _ _ _ _ _
    have hbF := put9_blk HZ15.out (.int .i64 opc) (.int .u8 0) (.int .u32 0) (.int .u32 0) (.int .u64 v14) (.slice none 0 0) (.slice none 0 0) (.slice none 0 0) (.bool false)
    generalize put9 (W14.setCell ⟨X, 4, none⟩ (.int .u64 v14)) W.heap.size (.int .i64 opc) (.int .u8 0) (.int .u32 0) (.int .u32 0) (.int .u64 v14) (.slice none 0 0) (.slice none 0 0) (.slice none 0 0) (.bool false) = V9 at *
    obtain ⟨y0, y1, y2, y3, y4, y5, y6, y7, y8⟩ := insC_cellsT hbF
    rw [HV.out]
    have HGF := Lib.hid hgF
    refine bodyPost_ret (v := .agg (insC opc 0 0 0 v14 (.slice none 0 0) (.slice none 0 0) (.slice none 0 0) false)) (by simp [results, Tryz.results118, go_sem, y0, y1, y2, y3, y4, y5, y6, y7, y8, insC]) rfl ⟨.mk opc 0 0 0 v14 [] [] [] false, none, none, none, 0, 0, 0, rfl, ?_, fun _ => rfl, HGF.out⟩
    exact fk_flatR hopc (by omega) (by omega) (by omega) (by omega)
  have HC24 := Lib.hid (show ¬ (i = 2 ∨ i = 4) from fun h => h.elim c2 c4)
  have HC5 := Lib.hid c5
  have HC6 := Lib.hid c6
  have HC7 := Lib.hid c7
  have HC8 := Lib.hid c8
  have HC9 := Lib.hid c9
  have HC10 := Lib.hid c10
  have HC11 := Lib.hid c11
  have b1 : (i == 1) = false := beq_eq_false_iff_ne.mpr HC1.out
  have b3 : (i == 3) = false := beq_eq_false_iff_ne.mpr HC3.out
  have b2 : (i == 2) = false := beq_eq_false_iff_ne.mpr c2
  have b4 : (i == 4) = false := beq_eq_false_iff_ne.mpr c4
  have b5 : (i == 5) = false := beq_eq_false_iff_ne.mpr c5
  have b6 : (i == 6) = false := beq_eq_false_iff_ne.mpr c6
  have b7 : (i == 7) = false := beq_eq_false_iff_ne.mpr c7
  have b8 : (i == 8) = false := beq_eq_false_iff_ne.mpr c8
  have b9 : (i == 9) = false := beq_eq_false_iff_ne.mpr c9
  have b10 : (i == 10) = false := beq_eq_false_iff_ne.mpr c10
  have b11 : (i == 11) = false := beq_eq_false_iff_ne.mpr c11
  clear c2 c4 c5 c6 c7 c8 c9 c10 c11
  have HV := Lib.hid (show bodyM bk B opc i a1 = (.mk opc 0 0 0 0 [] [] [] false, a1, 0) from by unfold bodyM; rw [if_neg HC1.out, if_neg HC24.out, if_neg HC3.out, if_neg HC5.out, if_neg HC6.out, if_neg HC7.out, if_neg HC8.out, if_neg HC9.out, if_neg HC10.out, if_neg HC11.out]; rfl)
  obtain ⟨s0, s1, slt⟩ := HR4.out.cells
  obtain ⟨x0, x1, x2, x3, x4, x5, x6, x7, x8⟩ := insC_cellsT HX4.out
  obtain ⟨xf0, xf1, xf2, xf3, xf4, xf5, xf6, xf7, xf8, xlt⟩ := insC_frozen HX4.out
  obtain ⟨z0, z1, z2, z3, z4, z5, z6, z7, z8⟩ := insC_cellsT HZ4.out
  obtain ⟨zf0, zf1, zf2, zf3, zf4, zf5, zf6, zf7, zf8, zlt⟩ := insC_frozen HZ4.out
  go_wp2_with fail
  clear s0 s1 slt x0 x1 x2 x3 x4 x5 x6 x7 x8 xf0 xf1 xf2 xf3 xf4 xf5 xf6 xf7 xf8 xlt z0 z1 z2 z3 z4 z5 z6 z7 z8 zf0 zf1 zf2 zf3 zf4 zf5 zf6 zf7 zf8 zlt
  change bodyPost _ _ _ Exit.ret _ (put9 W4 W.heap.size (.int .i64 opc) (.int .u8 0) (.int .u32 0) (.int .u32 0) (.int .u64 0) (.slice none 0 0) (.slice none 0 0) (.slice none 0 0) (.bool false))
  have hgF : GoesR W (put9 W4 W.heap.size (.int .i64 opc) (.int .u8 0) (.int .u32 0) (.int .u32 0) (.int .u64 0) (.slice none 0 0) (.slice none 0 0) (.slice none 0 0) (.bool false)) p q B a1 0 := put9_goesR HW.out HG4.out _ (Nat.le_refl _) _ _ _ _ _ _ _ _ _
  have hbF := put9_blk HZ4.out (.int .i64 opc) (.int .u8 0) (.int .u32 0) (.int .u32 0) (.int .u64 0) (.slice none 0 0) (.slice none 0 0) (.slice none 0 0) (.bool false)
  generalize put9 W4 W.heap.size (.int .i64 opc) (.int .u8 0) (.int .u32 0) (.int .u32 0) (.int .u64 0) (.slice none 0 0) (.slice none 0 0) (.slice none 0 0) (.bool false) = V9 at *
  obtain ⟨y0, y1, y2, y3, y4, y5, y6, y7, y8⟩ := insC_cellsT hbF
  rw [HV.out]
  have HGF := Lib.hid hgF
  refine bodyPost_ret (v := .agg (insC opc 0 0 0 0 (.slice none 0 0) (.slice none 0 0) (.slice none 0 0) false)) (by simp [results, Tryz.results118, go_sem, y0, y1, y2, y3, y4, y5, y6, y7, y8, insC]) rfl ⟨.mk opc 0 0 0 0 [] [] [] false, none, none, none, 0, 0, 0, rfl, ?_, fun _ => rfl, HGF.out⟩
  exact fk_flatR hopc (by omega) (by omega) (by omega) (by omega)
end Go.Proofs.YtofaiocffifhfaaGreat
end
section
namespace Go.Proofs.YtofaiocffifhfaaGreat
open Go.RowKit Go.Shelf YtofaiocffifhfaaGreatB Go.Proofs.YtofaiocffifhfaaGreatW.PrintWords
def SeqPost (W : World) (p q : Nat) (B : List Int) (r : List Ins × Int × Nat × Int) (E : Ending) (w' : World) : Prop :=
  (∃ A c, E = .returned (.tuple #[.slice A r.1.length c, .bool (r.2.1 == 5)]) ∧ r.1.length ≤ c ∧ FC kR w' (fun k => W.heap.size ≤ k) A r.1) ∧ GoesR W w' p q B r.2.2.1 r.2.2.2
theorem FC.goesR {α : Type} {d : Kd α} {W W1 : World} {ok : Nat → Prop} {A : Option Addr} {xs : List α} {p q : Nat} {B : List Int} {a : Nat} {e : Int} (h : FC d W ok A xs) (hG : GoesR W W1 p q B a e) (hg : ¬ ok p) : FC d W1 ok A xs := Ft.grown h hG.2 (fun k hk e => by injection e with e; exact hg (e ▸ hk))
set_option maxRecDepth 100000 in
set_option maxHeartbeats 4000000 in
theorem rinstr_bad (W : World) (R p q : Nat) (sat : Bool) (deep : Nat) (B : List Int) (a a1 : Nat) (e nv pe o1 e1 : Int) (hR : Rq W R p sat) (hRp : R ≠ p) (hC : Rdr W p q B a e) (hB : Byts B) (hnv : nextV B a e = nv) (hpe : (peekM B a e).2 = pe)
    (hm : decide (2 ≤ nv) = false ∨ (decide (2 ≤ nv) = true ∧ (decide (nv ≤ 4) = false ∨ (decide (nv ≤ 4) = true ∧ decide ((64 : Int) ≤ (deep : Int)) = false))))
    (hop : ∀ X, Rq X R p sat → Rdr X p q B a pe → Calls Tryz.prog 125 #[.pointer (some ⟨R, 0, none⟩)] X (ROpPost X p q B (o1, a1, e1))) (he1 : ¬ e1 = 0) :
    Calls Tryz.prog 118 #[.pointer (some ⟨R, 0, none⟩), .int .i64 deep] W (RInsPost W p q B (leafI 0, a1, e1)) := by
  have hplt := hC.lt
  have hRlt := hR.cells.2.2
  have HP := Lib.hid (rnext_any (W.alloc (.cells zeroC 151)) R p q sat B a e (Blk.alloc hR _) (hC.alloc _) hB)
  rw [hnv, hpe] at HP
  have HOP := Lib.hid hop
  have HV := Lib.hid (show ropV (o1, a1, e1) = -1 from if_neg he1)
  have HR := Lib.hid (show Rq (W.alloc (.cells zeroC 151)) R p sat from Blk.alloc hR _)
  have HZ := Lib.hid (Blk.new W zeroC 151)
  have HW := Lib.hid hC
  clear hR hC hB hnv hpe hop he1
  go_enter Tryz.func118, Tryz.ntmps118
  go_wp2_with fail
  refine HP.out.mono ?_
  rintro E W1 ⟨rfl, hG1⟩
  have HR1 := Lib.hid (HR.out.goes hRp hG1)
  have HZ1 := Lib.hid (HZ.out.grown hG1.2 (by simp; omega))
  have HG1 := Lib.hid (GoesR.of_alloc hG1)
  clear hG1 HP HR HZ
  go_upto_region 2 with fail
  go_cut [21] from 12 to 21 (fun s21 wx => s21 = .bool false ∧ wx = W1)
  case first =>
    rcases hm with hm | ⟨hm, hm2 | ⟨hm2, hm3⟩⟩
    all_goals
      go_wp2_with fail
      go_meet
      exact ⟨rfl, rfl⟩
  case rest =>
  obtain ⟨rfl, rfl⟩ := hcut
  clear hm
  go_wp2_with fail
  refine (HOP.out _ HR1.out HG1.out.1).mono ?_
  rintro E W3 ⟨rfl, hG3⟩
  have HR3 := Lib.hid (HR1.out.goes hRp hG3)
  have HZ3 := Lib.hid (HZ1.out.grown hG3.2 (by simp; omega))
  have HG3 := Lib.hid (HG1.out.trans hG3)
  clear hG3 HR1 HZ1 HG1 HOP
  rw [HV.out]
  obtain ⟨z0, z1, z2, z3, z4, z5, z6, z7, z8⟩ := insC_cellsT HZ3.out
  obtain ⟨zf0, zf1, zf2, zf3, zf4, zf5, zf6, zf7, zf8, zlt⟩ := insC_frozen HZ3.out
  go_wp2_with fail
  change bodyPost _ _ _ Exit.ret _ (put9 W3 W.heap.size (.int .i64 0) (.int .u8 0) (.int .u32 0) (.int .u32 0) (.int .u64 0) (.slice none 0 0) (.slice none 0 0) (.slice none 0 0) (.bool false))
  have hgF : GoesR W (put9 W3 W.heap.size (.int .i64 0) (.int .u8 0) (.int .u32 0) (.int .u32 0) (.int .u64 0) (.slice none 0 0) (.slice none 0 0) (.slice none 0 0) (.bool false)) p q B a1 e1 := put9_goesR HW.out HG3.out _ (Nat.le_refl _) _ _ _ _ _ _ _ _ _
  have hbF := put9_blk HZ3.out (.int .i64 0) (.int .u8 0) (.int .u32 0) (.int .u32 0) (.int .u64 0) (.slice none 0 0) (.slice none 0 0) (.slice none 0 0) (.bool false)
  generalize put9 W3 W.heap.size (.int .i64 0) (.int .u8 0) (.int .u32 0) (.int .u32 0) (.int .u64 0) (.slice none 0 0) (.slice none 0 0) (.slice none 0 0) (.bool false) = V9 at *
  clear z0 z1 z2 z3 z4 z5 z6 z7 z8 zf0 zf1 zf2 zf3 zf4 zf5 zf6 zf7 zf8 zlt
  obtain ⟨y0, y1, y2, y3, y4, y5, y6, y7, y8⟩ := insC_cellsT hbF
  have HGF := Lib.hid hgF
  refine bodyPost_ret (v := .agg (insC 0 0 0 0 0 (.slice none 0 0) (.slice none 0 0) (.slice none 0 0) false)) (by simp [results, Tryz.results118, go_sem, y0, y1, y2, y3, y4, y5, y6, y7, y8, insC]) rfl ⟨leafI 0, none, none, none, 0, 0, 0, rfl, ?_, fun _ => rfl, HGF.out⟩
  exact fk_flatR (by omega) (by omega) (by omega) (by omega) (by omega)
set_option maxRecDepth 100000 in
set_option maxHeartbeats 4000000 in
theorem rinstr_deep (W : World) (R p q : Nat) (sat : Bool) (deep : Nat) (B : List Int) (a : Nat) (b : Int) (hR : Rq W R p sat) (hRp : R ≠ p) (hC : Rdr W p q B a 0) (hB : Byts B) (hx : B[a]? = some b) (hb : 2 ≤ b ∧ b ≤ 4) (hd : 64 ≤ deep) :
    Calls Tryz.prog 118 #[.pointer (some ⟨R, 0, none⟩), .int .i64 deep] W (RInsPost W p q B (leafI 0, a, 3)) := by
  have hplt := hC.lt
  have hRlt := hR.cells.2.2
  obtain ⟨a1, ha1⟩ : ∃ a1, a1 = a := ⟨_, rfl⟩
  obtain ⟨e1, he1⟩ : ∃ e1 : Int, e1 = 3 := ⟨_, rfl⟩
  have HP := Lib.hid (rnext_any (W.alloc (.cells zeroC 151)) R p q sat B a 0 (Blk.alloc hR _) (hC.alloc _) hB)
  rw [show nextV B a 0 = b from by simp [nextV, peekM, hx], show (peekM B a 0).2 = 0 from by simp [peekM, hx]] at HP
  have HOP := Lib.hid (fun X h1 h2 => rop_bad X R p q sat B a e1 h1 h2 hB (by rw [he1]; show ¬ (3 : Int) = 0; decide))
  rw [show (0, a, (peekM B a e1).2) = ((0 : Int), a1, e1) from by rw [he1, ha1]; rfl] at HOP
  have HV := Lib.hid (show ropV (0, a1, e1) = -1 from by rw [he1]; rfl)
  have HF := Lib.hid (fun X h => rFail_any X p q B a 0 3 h)
  rw [show failE 0 3 = e1 from by rw [he1]; rfl] at HF
  have HR := Lib.hid (show Rq (W.alloc (.cells zeroC 151)) R p sat from Blk.alloc hR _)
  have HZ := Lib.hid (Blk.new W zeroC 151)
  have HW := Lib.hid hC
  have hm : decide (2 ≤ b) = true ∧ decide (b ≤ 4) = true ∧ decide ((64 : Int) ≤ (deep : Int)) = true := ⟨decide_eq_true hb.1, decide_eq_true hb.2, decide_eq_true (by omega)⟩
  rw [← ha1, ← he1]
  have HA := Lib.hid ha1
  clear hR hC hB hx hb hd he1 ha1
  go_enter Tryz.func118, Tryz.ntmps118
  go_wp2_with fail
  refine HP.out.mono ?_
  rintro E W1 ⟨rfl, hG1⟩
  have HR1 := Lib.hid (HR.out.goes hRp hG1)
  have HZ1 := Lib.hid (HZ.out.grown hG1.2 (by simp; omega))
  have HG1 := Lib.hid (GoesR.of_alloc hG1)
  clear hG1 HP HR HZ
  go_upto_region 2 with fail
  go_cut [21] from 12 to 21 (fun s21 wx => s21 = .bool true ∧ wx = W1)
  case first =>
    obtain ⟨hm, hm2, hm3⟩ := hm
    go_wp2_with fail
    go_meet
    exact ⟨rfl, rfl⟩
  case rest =>
  obtain ⟨rfl, rfl⟩ := hcut
  clear hm
  obtain ⟨s0, s1, slt⟩ := HR1.out.cells
  go_wp2_with fail
  refine (HF.out _ HG1.out.1).mono ?_
  rintro E W2 ⟨rfl, hG2⟩
  have HR2 := Lib.hid (HR1.out.goes hRp hG2)
  have HZ2 := Lib.hid (HZ1.out.grown hG2.2 (by simp; omega))
  have HG2 := Lib.hid (HG1.out.trans hG2)
  clear hG2 HR1 HZ1 HG1 HF s0 s1 slt
  go_wp2_with fail
  refine (HOP.out _ HR2.out HG2.out.1).mono ?_
  rintro E W3 ⟨rfl, hG3⟩
  have HR3 := Lib.hid (HR2.out.goes hRp hG3)
  have HZ3 := Lib.hid (HZ2.out.grown hG3.2 (by simp; omega))
  have HG3 := Lib.hid (HG2.out.trans hG3)
  clear hG3 HR2 HZ2 HG2 HOP
  rw [HV.out]
  obtain ⟨z0, z1, z2, z3, z4, z5, z6, z7, z8⟩ := insC_cellsT HZ3.out
  obtain ⟨zf0, zf1, zf2, zf3, zf4, zf5, zf6, zf7, zf8, zlt⟩ := insC_frozen HZ3.out
  go_wp2_with fail
  change bodyPost _ _ _ Exit.ret _ (put9 W3 W.heap.size (.int .i64 0) (.int .u8 0) (.int .u32 0) (.int .u32 0) (.int .u64 0) (.slice none 0 0) (.slice none 0 0) (.slice none 0 0) (.bool false))
  have hgF : GoesR W (put9 W3 W.heap.size (.int .i64 0) (.int .u8 0) (.int .u32 0) (.int .u32 0) (.int .u64 0) (.slice none 0 0) (.slice none 0 0) (.slice none 0 0) (.bool false)) p q B a1 e1 := put9_goesR HW.out HG3.out _ (Nat.le_refl _) _ _ _ _ _ _ _ _ _
  have hbF := put9_blk HZ3.out (.int .i64 0) (.int .u8 0) (.int .u32 0) (.int .u32 0) (.int .u64 0) (.slice none 0 0) (.slice none 0 0) (.slice none 0 0) (.bool false)
  generalize put9 W3 W.heap.size (.int .i64 0) (.int .u8 0) (.int .u32 0) (.int .u32 0) (.int .u64 0) (.slice none 0 0) (.slice none 0 0) (.slice none 0 0) (.bool false) = V9 at *
  clear z0 z1 z2 z3 z4 z5 z6 z7 z8 zf0 zf1 zf2 zf3 zf4 zf5 zf6 zf7 zf8 zlt
  obtain ⟨y0, y1, y2, y3, y4, y5, y6, y7, y8⟩ := insC_cellsT hbF
  have HGF := Lib.hid hgF
  refine bodyPost_ret (v := .agg (insC 0 0 0 0 0 (.slice none 0 0) (.slice none 0 0) (.slice none 0 0) false)) (by simp [results, Tryz.results118, go_sem, y0, y1, y2, y3, y4, y5, y6, y7, y8, insC]) rfl ⟨leafI 0, none, none, none, 0, 0, 0, rfl, ?_, fun _ => rfl, HGF.out⟩
  exact fk_flatR (by omega) (by omega) (by omega) (by omega) (by omega)
set_option maxRecDepth 100000 in
set_option maxHeartbeats 8000000 in
theorem rinstr_1 (bk : Bool → Nat → Int → List Ins × Int × Nat × Int) (W : World) (R p q : Nat) (sat : Bool) (deep : Nat) (B : List Int) (a : Nat) (b : Int) (hR : Rq W R p sat) (hRp : R ≠ p) (hC : Rdr W p q B a 0) (hB : Byts B) (hx : B[a]? = some b) (hb : 2 ≤ b ∧ b ≤ 4) (hd : deep < 64)
    (hbk : ∀ (W' : World) (m : Bool) (a' : Nat) (e' : Int), a + 1 ≤ a' ∨ ¬ e' = 0 → Rq W' R p sat → Rdr W' p q B a' e' → Calls Tryz.prog 93 #[.pointer (some ⟨R, 0, none⟩), .int .i64 ((deep : Int) + 1), .bool m] W' (SeqPost W' p q B (bk m a' e')))
    (hge : BkGe bk) :
    Calls Tryz.prog 118 #[.pointer (some ⟨R, 0, none⟩), .int .i64 deep] W (RInsPost W p q B (bodyM bk B b 1 (a + 1))) := by
  have hplt := hC.lt
  have hRlt := hR.cells.2.2
  have hbb := hB.get hx
  obtain ⟨a1, ha1⟩ : ∃ a1, a1 = a + 1 := ⟨_, rfl⟩
  obtain ⟨opc, hopc⟩ : ∃ opc : Int, opc = b := ⟨_, rfl⟩
  have him : immM b = (1, true) := by unfold immM; rw [if_neg (by omega), if_pos (by omega)]
  have HP := Lib.hid (rnext_any (W.alloc (.cells zeroC 151)) R p q sat B a 0 (Blk.alloc hR _) (hC.alloc _) hB)
  rw [show nextV B a 0 = b from by simp [nextV, peekM, hx], show (peekM B a 0).2 = 0 from by simp [peekM, hx]] at HP
  have HOP := Lib.hid (fun X h1 h2 => rop_one X R p q sat B a b h1 hRp h2 hB hx (by omega) 1 (by unfold rImmV; rw [him]; rfl) (by omega) (by omega) (by omega))
  rw [show (b, a + 1, (0 : Int)) = (opc, a1, 0) from by rw [hopc, ha1]] at HOP
  have HV1 := Lib.hid (show ropV (opc, a1, 0) = opc from if_pos rfl)
  have HI2 := Lib.hid (fun X => rImm_any X opc (by omega) (by omega))
  rw [show rImmV opc = 1 from by rw [hopc]; unfold rImmV; rw [him]; rfl] at HI2
  have HR := Lib.hid (show Rq (W.alloc (.cells zeroC 151)) R p sat from Blk.alloc hR _)
  have HZ := Lib.hid (Blk.new W zeroC 151)
  have HW := Lib.hid hC
  have hm : decide (2 ≤ b) = true ∧ decide (b ≤ 4) = true ∧ decide ((64 : Int) ≤ (deep : Int)) = false := ⟨decide_eq_true hb.1, decide_eq_true hb.2, decide_eq_false (by omega)⟩
  have hdi : (deep : Int) ≤ 63 := by omega
  have hopd : decide (opc < 0) = false := decide_eq_false (by omega)
  have hopc2 : 0 ≤ opc ∧ opc ≤ 5000000000 := by omega
  rw [← ha1, show bodyM bk B b 1 a1 = bodyM bk B opc 1 a1 from by rw [hopc]]
  have HBK := Lib.hid (show ∀ (W' : World) (m : Bool) (a' : Nat) (e' : Int), a1 ≤ a' ∨ ¬ e' = 0 → Rq W' R p sat → Rdr W' p q B a' e' → Calls Tryz.prog 93 #[.pointer (some ⟨R, 0, none⟩), .int .i64 ((deep : Int) + 1), .bool m] W' (SeqPost W' p q B (bk m a' e')) from by rw [ha1]; exact hbk)
  have HGE := Lib.hid hge
  have HB := Lib.hid hB
  have HV := Lib.hid (show bodyM bk B opc 1 a1 = (let t := rdOf (resM B a1) a1 0; let r := bk (opc == 4) t.2.1 t.2.2; if r.2.1 = 5 then let s := bk false r.2.2.1 r.2.2.2; (.mk opc t.1 0 0 0 [] r.1 s.1 true, s.2.2.1, s.2.2.2) else (.mk opc t.1 0 0 0 [] r.1 [] false, r.2.2.1, r.2.2.2)) from if_pos rfl)
  clear hR hC hB hx hb hd hbk hge hopc ha1 him hbb
  go_enter Tryz.func118, Tryz.ntmps118
  go_wp2_with fail
  refine HP.out.mono ?_
  rintro E W1 ⟨rfl, hG1⟩
  have HR1 := Lib.hid (HR.out.goes hRp hG1)
  have HZ1 := Lib.hid (HZ.out.grown hG1.2 (by simp; omega))
  have HG1 := Lib.hid (GoesR.of_alloc hG1)
  clear hG1 HP HR HZ
  go_upto_region 2 with fail
  go_cut [21] from 12 to 21 (fun s21 wx => s21 = .bool false ∧ wx = W1)
  case first =>
    obtain ⟨hm, hm2, hm3⟩ := hm
    go_wp2_with fail
    go_meet
    exact ⟨rfl, rfl⟩
  case rest =>
  obtain ⟨rfl, rfl⟩ := hcut
  clear hm
  go_wp2_with fail
  refine (HOP.out _ HR1.out HG1.out.1).mono ?_
  rintro E W3 ⟨rfl, hG3⟩
  have HR3 := Lib.hid (HR1.out.goes hRp hG3)
  have HZ3 := Lib.hid (HZ1.out.grown hG3.2 (by simp; omega))
  have HG3 := Lib.hid (HG1.out.trans hG3)
  clear hG3 HR1 HZ1 HG1 HOP
  rw [HV1.out]
  go_wp2_with fail
  refine (HI2.out _).mono ?_
  rintro E W4 ⟨rfl, hB4⟩
  have XB4 : Blk W4 W3.heap.size (insC opc 0 0 0 0 (.slice none 0 0) (.slice none 0 0) (.slice none 0 0) false) 151 := (Blk.new W3 (insC opc 0 0 0 0 (.slice none 0 0) (.slice none 0 0) (.slice none 0 0) false) 151).below hB4 (by simp)
  have hg4 : GoesR W3 W4 p q B a1 0 := GoesR.of_alloc (o := .cells (insC opc 0 0 0 0 (.slice none 0 0) (.slice none 0 0) (.slice none 0 0) false) 151) ⟨(HG3.out.1.alloc _).below hB4, grown_below hB4 _⟩
  have HR4 := Lib.hid (HR3.out.goes hRp hg4)
  have HZ4 := Lib.hid (HZ3.out.grown hg4.2 (by simp; omega))
  have HG4 := Lib.hid (HG3.out.trans hg4)
  have HX4 := Lib.hid XB4
  have hXp : p < W3.heap.size := Nat.lt_of_lt_of_le hplt HG3.out.2.size
  have hXR : R < W3.heap.size := Nat.lt_of_lt_of_le hRlt HG3.out.2.size
  have hXZ : W.heap.size < W3.heap.size := HZ3.out.lt
  obtain ⟨X, hXe⟩ : ∃ X, X = W3.heap.size := ⟨_, rfl⟩
  rw [← hXe] at HX4 hXp hXR hXZ ⊢
  clear hB4 XB4 hg4 HR3 HZ3 HG3 hXe HI2
  obtain ⟨s0, s1, slt⟩ := HR4.out.cells
  obtain ⟨x0, x1, x2, x3, x4, x5, x6, x7, x8⟩ := insC_cellsT HX4.out
  obtain ⟨xf0, xf1, xf2, xf3, xf4, xf5, xf6, xf7, xf8, xlt⟩ := insC_frozen HX4.out
  obtain ⟨z0, z1, z2, z3, z4, z5, z6, z7, z8⟩ := insC_cellsT HZ4.out
  obtain ⟨zf0, zf1, zf2, zf3, zf4, zf5, zf6, zf7, zf8, zlt⟩ := insC_frozen HZ4.out
  go_wp2_with fail
  have H := Lib.hid (rResults_any W4 p q B a1 0 HG4.out.1 HB.out)
  have hty := Lib.hid (res_bound B a1 0)
  have hg1 := Lib.hid (res_ge (B := B) (a := a1) (e := 0))
  generalize rdOf (resM B a1) a1 0 = t at *
  obtain ⟨ty, a2, e2⟩ := t
  simp only at HV
  refine H.out.mono ?_
  rintro E W5 ⟨rfl, hG⟩
  have hG : GoesR W4 W5 p q B a2 e2 := hG
  have HR5 := Lib.hid (HR4.out.goes hRp hG)
  have HX5 := Lib.hid (HX4.out.grown hG.2 (by simp; omega))
  have HZ5 := Lib.hid (HZ4.out.grown hG.2 (by simp; omega))
  have HG5 := Lib.hid (HG4.out.trans hG)
  clear hG HR4 HX4 HZ4 HG4 
  clear s0 s1 slt x0 x1 x2 x3 x4 x5 x6 x7 x8 xf0 xf1 xf2 xf3 xf4 xf5 xf6 xf7 xf8 xlt z0 z1 z2 z3 z4 z5 z6 z7 z8 zf0 zf1 zf2 zf3 zf4 zf5 zf6 zf7 zf8 zlt
  obtain ⟨s0, s1, slt⟩ := HR5.out.cells
  obtain ⟨x0, x1, x2, x3, x4, x5, x6, x7, x8⟩ := insC_cellsT HX5.out
  obtain ⟨xf0, xf1, xf2, xf3, xf4, xf5, xf6, xf7, xf8, xlt⟩ := insC_frozen HX5.out
  obtain ⟨z0, z1, z2, z3, z4, z5, z6, z7, z8⟩ := insC_cellsT HZ5.out
  obtain ⟨zf0, zf1, zf2, zf3, zf4, zf5, zf6, zf7, zf8, zlt⟩ := insC_frozen HZ5.out
  go_wp2_with fail
  have HX6 := Lib.hid (show Blk (W5.setCell ⟨X, 1, none⟩ (.int .u8 ty)) X (insC opc ty 0 0 0 (.slice none 0 0) (.slice none 0 0) (.slice none 0 0) false) 151 from by have := HX5.out.set 1 (.int .u8 ty); simpa [insC] using this)
  have HZ6 := Lib.hid (show Blk (W5.setCell ⟨X, 1, none⟩ (.int .u8 ty)) W.heap.size zeroC 151 from HZ5.out.set_other ⟨X, 1, none⟩ (.int .u8 ty) (by simp; omega))
  have HR6 := Lib.hid (show Rq (W5.setCell ⟨X, 1, none⟩ (.int .u8 ty)) R p sat from Blk.set_other HR5.out ⟨X, 1, none⟩ (.int .u8 ty) (by simp; omega))
  have HG6 := Lib.hid (show GoesR W (W5.setCell ⟨X, 1, none⟩ (.int .u8 ty)) p q B a2 e2 from HG5.out.setNew HW.out X (by omega) 1 (.int .u8 ty))
  clear HX5 HZ5 HR5 HG5 
  generalize W5.setCell ⟨X, 1, none⟩ (.int .u8 ty) = W6 at *
  clear s0 s1 slt x0 x1 x2 x3 x4 x5 x6 x7 x8 xf0 xf1 xf2 xf3 xf4 xf5 xf6 xf7 xf8 xlt z0 z1 z2 z3 z4 z5 z6 z7 z8 zf0 zf1 zf2 zf3 zf4 zf5 zf6 zf7 zf8 zlt
  have HBC := Lib.hid (HBK.out W6 (opc == 4) a2 e2 (by by_cases h : e2 = 0; exact .inl (hg1.out h).1; exact .inr h) HR6.out HG6.out.1)
  have hg2 := Lib.hid (HGE.out (opc == 4) a2 e2)
  have HBK2 := Lib.hid (fun X' a' e' => HBK.out X' false a' e')
  generalize bk (opc == 4) a2 e2 = r at *
  obtain ⟨th, en, a3, e3⟩ := r
  simp only at HV
  have hW6X := HX6.out.lt
  have hW6Z := HZ6.out.lt
  have hW6s := HG6.out.2.size
  obtain ⟨s0, s1, slt⟩ := HR6.out.cells
  obtain ⟨x0, x1, x2, x3, x4, x5, x6, x7, x8⟩ := insC_cellsT HX6.out
  obtain ⟨xf0, xf1, xf2, xf3, xf4, xf5, xf6, xf7, xf8, xlt⟩ := insC_frozen HX6.out
  obtain ⟨z0, z1, z2, z3, z4, z5, z6, z7, z8⟩ := insC_cellsT HZ6.out
  obtain ⟨zf0, zf1, zf2, zf3, zf4, zf5, zf6, zf7, zf8, zlt⟩ := insC_frozen HZ6.out
  refine HBC.out.mono ?_
  rintro E W7 ⟨⟨A6, c6, rfl, hl6, hF6⟩, hG⟩
  have hG : GoesR W6 W7 p q B a3 e3 := hG
  have HT7 := Lib.hid hF6
  clear hF6 HBC HBK
  have HR7 := Lib.hid (HR6.out.goes hRp hG)
  have HX7 := Lib.hid (HX6.out.grown hG.2 (by simp; omega))
  have HZ7 := Lib.hid (HZ6.out.grown hG.2 (by simp; omega))
  have HG7 := Lib.hid (HG6.out.trans hG)
  clear hG HR6 HX6 HZ6 HG6 
  clear s0 s1 slt x0 x1 x2 x3 x4 x5 x6 x7 x8 xf0 xf1 xf2 xf3 xf4 xf5 xf6 xf7 xf8 xlt z0 z1 z2 z3 z4 z5 z6 z7 z8 zf0 zf1 zf2 zf3 zf4 zf5 zf6 zf7 zf8 zlt
  obtain ⟨s0, s1, slt⟩ := HR7.out.cells
  obtain ⟨x0, x1, x2, x3, x4, x5, x6, x7, x8⟩ := insC_cellsT HX7.out
  obtain ⟨xf0, xf1, xf2, xf3, xf4, xf5, xf6, xf7, xf8, xlt⟩ := insC_frozen HX7.out
  obtain ⟨z0, z1, z2, z3, z4, z5, z6, z7, z8⟩ := insC_cellsT HZ7.out
  obtain ⟨zf0, zf1, zf2, zf3, zf4, zf5, zf6, zf7, zf8, zlt⟩ := insC_frozen HZ7.out
  simp only
  by_cases h5 : en = 5
  · subst h5
    rw [if_pos rfl] at HV
    go_wp2_with fail
    have HX8 := Lib.hid (show Blk (W7.setCell ⟨X, 6, none⟩ (.slice A6 th.length c6)) X (insC opc ty 0 0 0 (.slice none 0 0) (.slice A6 th.length c6) (.slice none 0 0) false) 151 from by have := HX7.out.set 6 (.slice A6 th.length c6); simpa [insC] using this)
    have HZ8 := Lib.hid (show Blk (W7.setCell ⟨X, 6, none⟩ (.slice A6 th.length c6)) W.heap.size zeroC 151 from HZ7.out.set_other ⟨X, 6, none⟩ (.slice A6 th.length c6) (by simp; omega))
    have HR8 := Lib.hid (show Rq (W7.setCell ⟨X, 6, none⟩ (.slice A6 th.length c6)) R p sat from Blk.set_other HR7.out ⟨X, 6, none⟩ (.slice A6 th.length c6) (by simp; omega))
    have HG8 := Lib.hid (show GoesR W (W7.setCell ⟨X, 6, none⟩ (.slice A6 th.length c6)) p q B a3 e3 from HG7.out.setNew HW.out X (by omega) 6 (.slice A6 th.length c6))
    have HT8 := Lib.hid (FC.set HT7.out X 6 (.slice A6 th.length c6) (by simp; omega))
    clear HX7 HZ7 HR7 HG7 HT7
    have HX9 := Lib.hid (show Blk ((W7.setCell ⟨X, 6, none⟩ (.slice A6 th.length c6)).setCell ⟨X, 8, none⟩ (.bool true)) X (insC opc ty 0 0 0 (.slice none 0 0) (.slice A6 th.length c6) (.slice none 0 0) true) 151 from by have := HX8.out.set 8 (.bool true); simpa [insC] using this)
    have HZ9 := Lib.hid (show Blk ((W7.setCell ⟨X, 6, none⟩ (.slice A6 th.length c6)).setCell ⟨X, 8, none⟩ (.bool true)) W.heap.size zeroC 151 from HZ8.out.set_other ⟨X, 8, none⟩ (.bool true) (by simp; omega))
    have HR9 := Lib.hid (show Rq ((W7.setCell ⟨X, 6, none⟩ (.slice A6 th.length c6)).setCell ⟨X, 8, none⟩ (.bool true)) R p sat from Blk.set_other HR8.out ⟨X, 8, none⟩ (.bool true) (by simp; omega))
    have HG9 := Lib.hid (show GoesR W ((W7.setCell ⟨X, 6, none⟩ (.slice A6 th.length c6)).setCell ⟨X, 8, none⟩ (.bool true)) p q B a3 e3 from HG8.out.setNew HW.out X (by omega) 8 (.bool true))
    have HT9 := Lib.hid (FC.set HT8.out X 8 (.bool true) (by simp; omega))
    clear HX8 HZ8 HR8 HG8 HT8
    generalize (W7.setCell ⟨X, 6, none⟩ (.slice A6 th.length c6)).setCell ⟨X, 8, none⟩ (.bool true) = W9 at *
    clear s0 s1 slt x0 x1 x2 x3 x4 x5 x6 x7 x8 xf0 xf1 xf2 xf3 xf4 xf5 xf6 xf7 xf8 xlt z0 z1 z2 z3 z4 z5 z6 z7 z8 zf0 zf1 zf2 zf3 zf4 zf5 zf6 zf7 zf8 zlt
    have HBC := Lib.hid (HBK2.out W9 a3 e3 (by
      by_cases h : e3 = 0
      · have h1 := hg2.out h
        have h2 := hg1.out h1.2
        exact .inl (Nat.le_trans h2.1 h1.1)
      · exact .inr h) HR9.out HG9.out.1)
    generalize bk false a3 e3 = r2 at *
    obtain ⟨el, en2, a4, e4⟩ := r2
    simp only at HV
    have hW9X := HX9.out.lt
    have hW9Z := HZ9.out.lt
    have hW9s := HG9.out.2.size
    obtain ⟨s0, s1, slt⟩ := HR9.out.cells
    obtain ⟨x0, x1, x2, x3, x4, x5, x6, x7, x8⟩ := insC_cellsT HX9.out
    obtain ⟨xf0, xf1, xf2, xf3, xf4, xf5, xf6, xf7, xf8, xlt⟩ := insC_frozen HX9.out
    obtain ⟨z0, z1, z2, z3, z4, z5, z6, z7, z8⟩ := insC_cellsT HZ9.out
    obtain ⟨zf0, zf1, zf2, zf3, zf4, zf5, zf6, zf7, zf8, zlt⟩ := insC_frozen HZ9.out
    refine HBC.out.mono ?_
    rintro E W10 ⟨⟨A7, c7, rfl, hl7, hF7⟩, hG⟩
    have hG : GoesR W9 W10 p q B a4 e4 := hG
    have HE10 := Lib.hid hF7
    clear hF7 HBC HBK2
    have HR10 := Lib.hid (HR9.out.goes hRp hG)
    have HX10 := Lib.hid (HX9.out.grown hG.2 (by simp; omega))
    have HZ10 := Lib.hid (HZ9.out.grown hG.2 (by simp; omega))
    have HG10 := Lib.hid (HG9.out.trans hG)
    have HT10 := Lib.hid (FC.goesR HT9.out hG (by simp; omega))
    clear hG HR9 HX9 HZ9 HG9 HT9
    clear s0 s1 slt x0 x1 x2 x3 x4 x5 x6 x7 x8 xf0 xf1 xf2 xf3 xf4 xf5 xf6 xf7 xf8 xlt z0 z1 z2 z3 z4 z5 z6 z7 z8 zf0 zf1 zf2 zf3 zf4 zf5 zf6 zf7 zf8 zlt
    obtain ⟨s0, s1, slt⟩ := HR10.out.cells
    obtain ⟨x0, x1, x2, x3, x4, x5, x6, x7, x8⟩ := insC_cellsT HX10.out
    obtain ⟨xf0, xf1, xf2, xf3, xf4, xf5, xf6, xf7, xf8, xlt⟩ := insC_frozen HX10.out
    obtain ⟨z0, z1, z2, z3, z4, z5, z6, z7, z8⟩ := insC_cellsT HZ10.out
    obtain ⟨zf0, zf1, zf2, zf3, zf4, zf5, zf6, zf7, zf8, zlt⟩ := insC_frozen HZ10.out
    go_wp2_with fail
    have HX11 := Lib.hid (show Blk (W10.setCell ⟨X, 7, none⟩ (.slice A7 el.length c7)) X (insC opc ty 0 0 0 (.slice none 0 0) (.slice A6 th.length c6) (.slice A7 el.length c7) true) 151 from by have := HX10.out.set 7 (.slice A7 el.length c7); simpa [insC] using this)
    have HZ11 := Lib.hid (show Blk (W10.setCell ⟨X, 7, none⟩ (.slice A7 el.length c7)) W.heap.size zeroC 151 from HZ10.out.set_other ⟨X, 7, none⟩ (.slice A7 el.length c7) (by simp; omega))
    have HR11 := Lib.hid (show Rq (W10.setCell ⟨X, 7, none⟩ (.slice A7 el.length c7)) R p sat from Blk.set_other HR10.out ⟨X, 7, none⟩ (.slice A7 el.length c7) (by simp; omega))
    have HG11 := Lib.hid (show GoesR W (W10.setCell ⟨X, 7, none⟩ (.slice A7 el.length c7)) p q B a4 e4 from HG10.out.setNew HW.out X (by omega) 7 (.slice A7 el.length c7))
    have HT11 := Lib.hid (FC.set HT10.out X 7 (.slice A7 el.length c7) (by simp; omega))
    have HE11 := Lib.hid (FC.set HE10.out X 7 (.slice A7 el.length c7) (by simp; omega))
    clear HX10 HZ10 HR10 HG10 HT10 HE10
    clear s0 s1 slt x0 x1 x2 x3 x4 x5 x6 x7 x8 xf0 xf1 xf2 xf3 xf4 xf5 xf6 xf7 xf8 xlt z0 z1 z2 z3 z4 z5 z6 z7 z8 zf0 zf1 zf2 zf3 zf4 zf5 zf6 zf7 zf8 zlt
    change bodyPost _ _ _ Exit.ret _ (put9 (W10.setCell ⟨X, 7, none⟩ (.slice A7 el.length c7)) W.heap.size (.int .i64 opc) (.int .u8 ty) (.int .u32 0) (.int .u32 0) (.int .u64 0) (.slice none 0 0) (.slice A6 th.length c6) (.slice A7 el.length c7) (.bool true))
    have hgF : GoesR W (put9 (W10.setCell ⟨X, 7, none⟩ (.slice A7 el.length c7)) W.heap.size (.int .i64 opc) (.int .u8 ty) (.int .u32 0) (.int .u32 0) (.int .u64 0) (.slice none 0 0) (.slice A6 th.length c6) (.slice A7 el.length c7) (.bool true)) p q B a4 e4 := put9_goesR HW.out HG11.out _ (Nat.le_refl _) _ _ _ _ _ _ _ _ _
    have hbF := put9_blk HZ11.out (.int .i64 opc) (.int .u8 ty) (.int .u32 0) (.int .u32 0) (.int .u64 0) (.slice none 0 0) (.slice A6 th.length c6) (.slice A7 el.length c7) (.bool true)
    have hfT := put9_FC HT11.out W.heap.size (by simp; omega) (.int .i64 opc) (.int .u8 ty) (.int .u32 0) (.int .u32 0) (.int .u64 0) (.slice none 0 0) (.slice A6 th.length c6) (.slice A7 el.length c7) (.bool true)
    have hfE := put9_FC HE11.out W.heap.size (by simp; omega) (.int .i64 opc) (.int .u8 ty) (.int .u32 0) (.int .u32 0) (.int .u64 0) (.slice none 0 0) (.slice A6 th.length c6) (.slice A7 el.length c7) (.bool true)
    generalize put9 (W10.setCell ⟨X, 7, none⟩ (.slice A7 el.length c7)) W.heap.size (.int .i64 opc) (.int .u8 ty) (.int .u32 0) (.int .u32 0) (.int .u64 0) (.slice none 0 0) (.slice A6 th.length c6) (.slice A7 el.length c7) (.bool true) = V9 at *
    obtain ⟨y0, y1, y2, y3, y4, y5, y6, y7, y8⟩ := insC_cellsT hbF
    have HGF := Lib.hid hgF
    have HFT := Lib.hid hfT
    have HFE := Lib.hid hfE
    rw [HV.out]
    refine bodyPost_ret (v := .agg (insC opc ty 0 0 0 (.slice none 0 0) (.slice A6 th.length c6) (.slice A7 el.length c7) true)) (by simp [results, Tryz.results118, go_sem, y0, y1, y2, y3, y4, y5, y6, y7, y8, insC]) rfl ⟨.mk opc ty 0 0 0 [] th el true, none, A6, A7, 0, c6, c7, rfl, ?_, fun _ => rfl, HGF.out⟩
    refine ins_mkF (x := .mk opc ty 0 0 0 [] th el true) (nest_wf hopc2.1 hopc2.2) (nest_ty hty.out) rfl rfl rfl FC.nil (HFT.out.mono ?_) (HFE.out.mono ?_) (Nat.le_refl _) hl6 hl7
    all_goals
      intro k hk
      first | exact Nat.le_trans hW6s hk | exact Nat.le_trans hW9s hk
  · have h5b : (en == 5) = false := beq_eq_false_iff_ne.2 h5
    rw [if_neg h5] at HV
    clear h5
    go_wp2_with fail
    have HX8 := Lib.hid (show Blk (W7.setCell ⟨X, 6, none⟩ (.slice A6 th.length c6)) X (insC opc ty 0 0 0 (.slice none 0 0) (.slice A6 th.length c6) (.slice none 0 0) false) 151 from by have := HX7.out.set 6 (.slice A6 th.length c6); simpa [insC] using this)
    have HZ8 := Lib.hid (show Blk (W7.setCell ⟨X, 6, none⟩ (.slice A6 th.length c6)) W.heap.size zeroC 151 from HZ7.out.set_other ⟨X, 6, none⟩ (.slice A6 th.length c6) (by simp; omega))
    have HR8 := Lib.hid (show Rq (W7.setCell ⟨X, 6, none⟩ (.slice A6 th.length c6)) R p sat from Blk.set_other HR7.out ⟨X, 6, none⟩ (.slice A6 th.length c6) (by simp; omega))
    have HG8 := Lib.hid (show GoesR W (W7.setCell ⟨X, 6, none⟩ (.slice A6 th.length c6)) p q B a3 e3 from HG7.out.setNew HW.out X (by omega) 6 (.slice A6 th.length c6))
    have HT8 := Lib.hid (FC.set HT7.out X 6 (.slice A6 th.length c6) (by simp; omega))
    clear HX7 HZ7 HR7 HG7 HT7
    have HX9 := Lib.hid (show Blk ((W7.setCell ⟨X, 6, none⟩ (.slice A6 th.length c6)).setCell ⟨X, 8, none⟩ (.bool false)) X (insC opc ty 0 0 0 (.slice none 0 0) (.slice A6 th.length c6) (.slice none 0 0) false) 151 from by have := HX8.out.set 8 (.bool false); simpa [insC] using this)
    have HZ9 := Lib.hid (show Blk ((W7.setCell ⟨X, 6, none⟩ (.slice A6 th.length c6)).setCell ⟨X, 8, none⟩ (.bool false)) W.heap.size zeroC 151 from HZ8.out.set_other ⟨X, 8, none⟩ (.bool false) (by simp; omega))
    have HR9 := Lib.hid (show Rq ((W7.setCell ⟨X, 6, none⟩ (.slice A6 th.length c6)).setCell ⟨X, 8, none⟩ (.bool false)) R p sat from Blk.set_other HR8.out ⟨X, 8, none⟩ (.bool false) (by simp; omega))
    have HG9 := Lib.hid (show GoesR W ((W7.setCell ⟨X, 6, none⟩ (.slice A6 th.length c6)).setCell ⟨X, 8, none⟩ (.bool false)) p q B a3 e3 from HG8.out.setNew HW.out X (by omega) 8 (.bool false))
    have HT9 := Lib.hid (FC.set HT8.out X 8 (.bool false) (by simp; omega))
    clear HX8 HZ8 HR8 HG8 HT8
    clear s0 s1 slt x0 x1 x2 x3 x4 x5 x6 x7 x8 xf0 xf1 xf2 xf3 xf4 xf5 xf6 xf7 xf8 xlt z0 z1 z2 z3 z4 z5 z6 z7 z8 zf0 zf1 zf2 zf3 zf4 zf5 zf6 zf7 zf8 zlt
    change bodyPost _ _ _ Exit.ret _ (put9 ((W7.setCell ⟨X, 6, none⟩ (.slice A6 th.length c6)).setCell ⟨X, 8, none⟩ (.bool false)) W.heap.size (.int .i64 opc) (.int .u8 ty) (.int .u32 0) (.int .u32 0) (.int .u64 0) (.slice none 0 0) (.slice A6 th.length c6) (.slice none 0 0) (.bool false))
    have hgF : GoesR W (put9 ((W7.setCell ⟨X, 6, none⟩ (.slice A6 th.length c6)).setCell ⟨X, 8, none⟩ (.bool false)) W.heap.size (.int .i64 opc) (.int .u8 ty) (.int .u32 0) (.int .u32 0) (.int .u64 0) (.slice none 0 0) (.slice A6 th.length c6) (.slice none 0 0) (.bool false)) p q B a3 e3 := put9_goesR HW.out HG9.out _ (Nat.le_refl _) _ _ _ _ _ _ _ _ _
    have hbF := put9_blk HZ9.out (.int .i64 opc) (.int .u8 ty) (.int .u32 0) (.int .u32 0) (.int .u64 0) (.slice none 0 0) (.slice A6 th.length c6) (.slice none 0 0) (.bool false)
    have hfT := put9_FC HT9.out W.heap.size (by simp; omega) (.int .i64 opc) (.int .u8 ty) (.int .u32 0) (.int .u32 0) (.int .u64 0) (.slice none 0 0) (.slice A6 th.length c6) (.slice none 0 0) (.bool false)
    generalize put9 ((W7.setCell ⟨X, 6, none⟩ (.slice A6 th.length c6)).setCell ⟨X, 8, none⟩ (.bool false)) W.heap.size (.int .i64 opc) (.int .u8 ty) (.int .u32 0) (.int .u32 0) (.int .u64 0) (.slice none 0 0) (.slice A6 th.length c6) (.slice none 0 0) (.bool false) = V9 at *
    obtain ⟨y0, y1, y2, y3, y4, y5, y6, y7, y8⟩ := insC_cellsT hbF
    have HGF := Lib.hid hgF
    have HFT := Lib.hid hfT
    rw [HV.out]
    refine bodyPost_ret (v := .agg (insC opc ty 0 0 0 (.slice none 0 0) (.slice A6 th.length c6) (.slice none 0 0) false)) (by simp [results, Tryz.results118, go_sem, y0, y1, y2, y3, y4, y5, y6, y7, y8, insC]) rfl ⟨.mk opc ty 0 0 0 [] th [] false, none, A6, none, 0, c6, 0, rfl, ?_, fun _ => rfl, HGF.out⟩
    refine ins_mkF (x := .mk opc ty 0 0 0 [] th [] false) (nest_wf hopc2.1 hopc2.2) (nest_ty hty.out) rfl rfl rfl FC.nil (HFT.out.mono ?_) FC.nil (Nat.le_refl _) hl6 (Nat.le_refl _)
    all_goals
      intro k hk
      first | exact Nat.le_trans hW6s hk | exact Nat.le_trans hW9s hk
end Go.Proofs.YtofaiocffifhfaaGreat
end
section
namespace Go.Proofs.YtofaiocffifhfaaGreat
open Go.RowKit Go.Shelf YtofaiocffifhfaaGreatB Go.Proofs.YtofaiocffifhfaaGreatW.PrintWords
set_option maxRecDepth 100000 in
set_option maxHeartbeats 16000000 in
theorem rinstr_3 (bk : Bool → Nat → Int → List Ins × Int × Nat × Int) (W : World) (R p q : Nat) (sat : Bool) (deep : Nat) (B : List Int) (a a1 : Nat) (b opc : Int) (hR : Rq W R p sat) (hRp : R ≠ p) (hC : Rdr W p q B a 0) (hB : Byts B) (hx : B[a]? = some b)
    (hi1 : ¬ (2 ≤ b ∧ b ≤ 4)) (h5 : ¬ b = 5 ∧ ¬ b = 11) (ho : opM sat B a 0 = (opc, a1, 0)) (hopc : 0 ≤ opc ∧ opc ≤ 5000000000) (hi2 : rImmV opc = 3) :
    Calls Tryz.prog 118 #[.pointer (some ⟨R, 0, none⟩), .int .i64 deep] W (RInsPost W p q B (bodyM bk B opc 3 a1)) := by
  have hxb := hB.get hx
  have hplt := hC.lt
  have hRlt := hR.cells.2.2
  have HP := Lib.hid (rnext_any (W.alloc (.cells zeroC 151)) R p q sat B a 0 (Blk.alloc hR _) (hC.alloc _) hB)
  rw [show nextV B a 0 = b from by simp [nextV, peekM, hx], show (peekM B a 0).2 = 0 from by simp [peekM, hx]] at HP
  have HI2 := Lib.hid (fun X => rImm_any X opc hopc.1 hopc.2)
  rw [hi2] at HI2
  have HOP := Lib.hid (fun X h1 h2 => rop_any X R p q sat B a 0 h1 hRp h2 hB (fun b' hb' => by rw [show peekM B a 0 = (b, 0) from by simp [peekM, hx]] at hb'; injection hb' with hb' _; subst hb'; exact h5))
  rw [ho] at HOP
  have HR := Lib.hid (show Rq (W.alloc (.cells zeroC 151)) R p sat from Blk.alloc hR _)
  have HZ := Lib.hid (Blk.new W zeroC 151)
  have HB := Lib.hid hB
  have hm : decide (2 ≤ b) = false ∨ (decide (2 ≤ b) = true ∧ decide (b ≤ 4) = false) := by
    by_cases h : 2 ≤ b
    · exact .inr ⟨decide_eq_true h, decide_eq_false (fun h4 => hi1 ⟨h, h4⟩)⟩
    · exact .inl (decide_eq_false h)
  have hopd : decide (opc < 0) = false := decide_eq_false (by omega)
  have HW := Lib.hid hC
  clear hR hC hB hx ho hi2 hxb h5 hi1
  go_enter Tryz.func118, Tryz.ntmps118
  go_wp2_with fail
  refine HP.out.mono ?_
  rintro E W1 ⟨rfl, hG1⟩
  have HR1 := Lib.hid (HR.out.goes hRp hG1)
  have HZ1 := Lib.hid (HZ.out.grown hG1.2 (by simp; omega))
  have HG1 := Lib.hid (GoesR.of_alloc hG1)
  clear hG1 HP HR HZ
  go_upto_region 2 with fail
  go_cut [21] from 12 to 21 (fun s21 wx => s21 = .bool false ∧ wx = W1)
  case first =>
    rcases hm with hm | ⟨hm, hm2⟩
    all_goals
      go_wp2_with fail
      go_meet
      exact ⟨rfl, rfl⟩
  case rest =>
  obtain ⟨rfl, rfl⟩ := hcut
  clear hm
  go_wp2_with fail
  refine (HOP.out _ HR1.out HG1.out.1).mono ?_
  rintro E W3 ⟨rfl, hG3⟩
  have HR3 := Lib.hid (HR1.out.goes hRp hG3)
  have HZ3 := Lib.hid (HZ1.out.grown hG3.2 (by simp; omega))
  have HG3 := Lib.hid (HG1.out.trans hG3)
  clear hG3 HR1 HZ1 HG1 HOP
  rw [show ropV (opc, a1, 0) = opc from if_pos rfl]
  go_wp2_with fail
  refine (HI2.out _).mono ?_
  rintro E W4 ⟨rfl, hB4⟩
  have XB4 : Blk W4 W3.heap.size (insC opc 0 0 0 0 (.slice none 0 0) (.slice none 0 0) (.slice none 0 0) false) 151 := (Blk.new W3 (insC opc 0 0 0 0 (.slice none 0 0) (.slice none 0 0) (.slice none 0 0) false) 151).below hB4 (by simp)
  have hg4 : GoesR W3 W4 p q B a1 0 := GoesR.of_alloc (o := .cells (insC opc 0 0 0 0 (.slice none 0 0) (.slice none 0 0) (.slice none 0 0) false) 151) ⟨(HG3.out.1.alloc _).below hB4, grown_below hB4 _⟩
  have HR4 := Lib.hid (HR3.out.goes hRp hg4)
  have HZ4 := Lib.hid (HZ3.out.grown hg4.2 (by simp; omega))
  have HG4 := Lib.hid (HG3.out.trans hg4)
  have HX4 := Lib.hid XB4
  have hXp : p < W3.heap.size := Nat.lt_of_lt_of_le hplt HG3.out.2.size
  have hXR : R < W3.heap.size := Nat.lt_of_lt_of_le hRlt HG3.out.2.size
  have hXZ : W.heap.size < W3.heap.size := HZ3.out.lt
  obtain ⟨X, hXe⟩ : ∃ X, X = W3.heap.size := ⟨_, rfl⟩
  rw [← hXe] at HX4 hXp hXR hXZ ⊢
  clear hB4 XB4 hg4 HR3 HZ3 HG3 hXe HI2
  obtain ⟨s0, s1, slt⟩ := HR4.out.cells
  obtain ⟨x0, x1, x2, x3, x4, x5, x6, x7, x8⟩ := insC_cellsT HX4.out
  obtain ⟨xf0, xf1, xf2, xf3, xf4, xf5, xf6, xf7, xf8, xlt⟩ := insC_frozen HX4.out
  obtain ⟨z0, z1, z2, z3, z4, z5, z6, z7, z8⟩ := insC_cellsT HZ4.out
  obtain ⟨zf0, zf1, zf2, zf3, zf4, zf5, zf6, zf7, zf8, zlt⟩ := insC_frozen HZ4.out
  go_wp2_with fail
  have H := Lib.hid (rCount_any W4 p q B a1 0 HG4.out.1 HB.out)
  have hb := count_bound B a1 0 HB.out
  have HV := Lib.hid (show labelsM B a1 0 = labM B (rdOf (countM B a1) a1 0).1.toNat (rdOf (countM B a1) a1 0).2.1 (rdOf (countM B a1) a1 0).2.2 [] from rfl)
  have HVB := Lib.hid (show bodyM bk B opc 3 a1 = (let l := labelsM B a1 0; let t := rdOf (u32M B l.2.1) l.2.1 l.2.2; (.mk opc 0 t.1 0 0 l.1 [] [] false, t.2.1, t.2.2)) from rfl)
  generalize rdOf (countM B a1) a1 0 = t at *
  obtain ⟨ni, a0, e0⟩ := t
  obtain ⟨n, rfl⟩ := Int.eq_ofNat_of_zero_le hb.1
  have hn : (n : Int) ≤ 4096 := hb.2
  rw [show ((n : Int).toNat) = n from Int.toNat_natCast n] at HV
  clear hb
  refine H.out.mono ?_
  rintro E W5 ⟨rfl, hG⟩
  have hG : GoesR W4 W5 p q B a0 e0 := hG
  have HR5 := Lib.hid (HR4.out.goes hRp hG)
  have HX5 := Lib.hid (HX4.out.grown hG.2 (by simp; omega))
  have HZ5 := Lib.hid (HZ4.out.grown hG.2 (by simp; omega))
  have HG5 := Lib.hid (HG4.out.trans hG)
  clear hG H HR4 HX4 HZ4 HG4
  clear s0 s1 slt x0 x1 x2 x3 x4 x5 x6 x7 x8 xf0 xf1 xf2 xf3 xf4 xf5 xf6 xf7 xf8 xlt z0 z1 z2 z3 z4 z5 z6 z7 z8 zf0 zf1 zf2 zf3 zf4 zf5 zf6 zf7 zf8 zlt
  have hW5X := HX5.out.lt
  have hW5s := HG5.out.2.size
  have hW5R := HR5.out.cells.2.2
  go_wp2_with fail
  go_loopw [9] (fun i wr => ∃ (j a5 : Nat) (e5 : Int) (xs : List Int) (v : Value), j ≤ n ∧ i = .int .i64 j ∧ xs.length = j ∧ Blk wr X (insC opc 0 0 0 0 v (.slice none 0 0) (.slice none 0 0) false) 151 ∧ Blk wr W.heap.size zeroC 151 ∧ Rq wr R p sat ∧ Own (rng .u32) 30 wr W5.heap.size (fun k => W5.heap.size ≤ k) v xs ∧ GoesR W wr p q B a5 e5 ∧ W5.heap.size ≤ wr.heap.size ∧ Hid (labelsM B a1 0 = labM B (n - j) a5 e5 xs)) (fun i _ => n - (intOf i).toNat)
  case atStart => exact ⟨0, a0, e0, [], (.slice none 0 0), Nat.zero_le _, rfl, rfl, HX5.out, HZ5.out, HR5.out, Own.nil, HG5.out, Nat.le_refl _, HV⟩
  case round =>
    obtain ⟨j, a5, e5, xs, v, hj, rfl, hxl, hX, hZ, hR, hown, hGo, hws, hlab⟩ := hrel
    have HXL := Lib.hid hxl
    have HX6 := Lib.hid hX
    have HZ6 := Lib.hid hZ
    have HR6 := Lib.hid hR
    have HO := Lib.hid hown
    have HG6 := Lib.hid hGo
    clear hxl hX hZ hR hown hGo
    obtain ⟨A, c, c0, c1, c2, f0, f1, f2, hle, hq, hlt, ha⟩ := HG6.out.1.cells
    clear hq
    obtain ⟨s0, s1, slt⟩ := HR6.out.cells
    obtain ⟨x0, x1, x2, x3, x4, x5, x6, x7, x8⟩ := insC_cellsT HX6.out
    obtain ⟨xf0, xf1, xf2, xf3, xf4, xf5, xf6, xf7, xf8, xlt⟩ := insC_frozen HX6.out
    obtain ⟨z0, z1, z2, z3, z4, z5, z6, z7, z8⟩ := insC_cellsT HZ6.out
    obtain ⟨zf0, zf1, zf2, zf3, zf4, zf5, zf6, zf7, zf8, zlt⟩ := insC_frozen HZ6.out
    by_cases hfin : j < n ∧ e5 = 0
    · obtain ⟨hlt2, rfl⟩ := hfin
      have hlt3 : (j : Int) < (n : Int) := by omega
      have hub := u32_bound B a5 0 HB.out
      have HU := Lib.hid (rU32_any wr.drew p q B a5 0 (HG6.out.1.below ⟨rfl, rfl, rfl, Nat.le_refl _, fun _ _ => rfl⟩) HB.out)
      have HL := Lib.hid (show labelsM B a1 0 = labM B (n - (j + 1)) (rdOf (u32M B a5) a5 0).2.1 (rdOf (u32M B a5) a5 0).2.2 (xs ++ [(rdOf (u32M B a5) a5 0).1]) from by
        rw [hlab.out, show n - j = n - (j + 1) + 1 from by omega, labM, if_pos rfl])
      generalize rdOf (u32M B a5) a5 0 = t at *
      obtain ⟨x, a6, e6⟩ := t
      obtain ⟨hx0, hx1⟩ := hub
      go_wp2_with fail
      have hOd := Lib.hid (Own.below HO.out ((Below.refl wr.heap.size wr).drew))
      have hneX : some X ≠ some p := by simp; omega
      have hneR : some R ≠ some p := by simpa using hRp
      have hRX : some R ≠ some X := by simp; omega
      have hvb := Lib.hid (show ∀ k, v.ownBlock = some k → W5.heap.size ≤ k from fun k hk => (HO.out.block hk).1)
      have hvX : some X ≠ v.ownBlock := fun e => by have := hvb.out _ e.symm; omega
      have hvR : some R ≠ v.ownBlock := fun e => by have := hvb.out _ e.symm; omega
      have hxl : xs.length ≤ 5000 := by have := HXL.out; omega
      have hOg := Lib.hid (show ∀ W2, wr.drew.grownBy W2 (some p) → Own (rng .u32) 30 W2 W5.heap.size (fun k => W5.heap.size ≤ k) v xs from fun W2 h => Own.grown hOd.out h (by
        cases hv : v.ownBlock with
        | none => exact .inl rfl
        | some k => right; intro e; injection e with e; have := hvb.out k hv; omega) (fun k hk e => by injection e with e; omega))
      have HFK := Lib.hid (show ∀ (W' : World) (ok : Nat → Prop), FK (rng .u32) W' ok x [.int .u32 (IntKind.u32.wrap x)] from fun W' ok => by rw [show IntKind.u32.wrap x = x from by rw [IntKind.wrap_u32]; omega]; exact fk_u32 hx0 hx1)
      have hXn := Lib.hid (show ∀ W2 w1, wr.drew.grownBy W2 (some p) → W2.grownBy w1 v.ownBlock → w1.cell? ⟨X, 5, none⟩ = some v ∧ w1.frozen? ⟨X, 5, none⟩ = false ∧ X < w1.heap.size ∧ w1.cell? ⟨R, 0, none⟩ = some (.pointer (some ⟨p, 0, none⟩)) from fun W2 w1 h h1 => by
        have hb := Blk.grown (Blk.grown (show Blk wr.drew X _ _ from HX6.out) h hneX) h1 hvX
        exact ⟨(insC_cellsT hb).2.2.2.2.2.1, hb.frozen 5, hb.lt, World.grownBy.cell h1 (World.grownBy.cell h s0 hneR) hvR⟩)
      have hl6 := Lib.hid (show (xs.length + 1) * 4 ≤ 140737488355328 from by omega)
      go_region_law
        (first
          | (go_simp; go_at_call_of 38 (Value.pointer (some ⟨p, 0, none⟩)); refine HU.out.mono ?_; rintro e1' W2 ⟨rfl, hG2⟩; have y5 : W2.cell? ⟨X, 5, none⟩ = some v := World.grownBy.cell hG2.2 x5 hneX; have y5l : X < W2.heap.size := Nat.lt_of_lt_of_le xlt hG2.2.size)
          | (refine Own.append_step (d := rng .u32) W5.heap.size rfl (.tmp 98) (.tmp 105) 69 30 _ 4 rfl Tryz.underlying69 infoU rfl (by decide) (by decide) v xs x _ (fun k => W5.heap.size ≤ k) rfl rfl (HFK.out _ _) (hOg.out _ hG2.2) (Nat.le_trans hws hG2.2.size) hl6.out ?_; intro v1 w1 hown1 hg1 hat1; obtain ⟨k5, k5f, k5l, k0⟩ := hXn.out _ _ hG2.2 hg1; obtain ⟨A1, c1', rfl, hl1', hF1⟩ := Own.reads hown1))
      all_goals
        have hlen : (xs ++ [x]).length = xs.length + 1 := by simp
        have hvb2 := Lib.hid (show ∀ k, (Value.slice A1 (xs ++ [x]).length c1').ownBlock = some k → W5.heap.size ≤ k from fun k hk => (hown1.block hk).1)
        have hw1s : W5.heap.size ≤ w1.heap.size := Nat.le_trans hws (Nat.le_trans hG2.2.size hg1.size)
        rw [hlen] at hown1 hvb2
        have HV5 := Lib.hid hvb2.out
        have HG7 := Lib.hid (show GoesR W (w1.setCell ⟨X, 5, none⟩ (.slice A1 (xs.length + 1) c1')) p q B a6 e6 from (lab_goesR HW.out (HG6.out.trans ⟨hG2.1, (show wr.grownBy wr.drew (some p) from ⟨rfl, rfl, rfl, Nat.le_refl _, fun _ _ _ => rfl⟩).trans hG2.2⟩) hg1 (fun k hk => Nat.le_trans hW5s (hvb.out k hk))).setNew HW.out X (by omega) _ _)
        have HX7 := Lib.hid (show Blk (w1.setCell ⟨X, 5, none⟩ (.slice A1 (xs.length + 1) c1')) X (insC opc 0 0 0 0 (.slice A1 (xs.length + 1) c1') (.slice none 0 0) (.slice none 0 0) false) 151 from by
          have := (Blk.grown (Blk.grown (show Blk wr.drew X _ _ from HX6.out) hG2.2 hneX) hg1 hvX).set 5 (.slice A1 (xs.length + 1) c1')
          simpa [insC] using this)
        have HZ7 := Lib.hid (show Blk (w1.setCell ⟨X, 5, none⟩ (.slice A1 (xs.length + 1) c1')) W.heap.size zeroC 151 from
          (Blk.grown (Blk.grown (show Blk wr.drew W.heap.size _ _ from HZ6.out) hG2.2 (by simp; omega)) hg1 (fun e => by have := hvb.out _ e.symm; omega)).set_other ⟨X, 5, none⟩ _ (by simp; omega))
        have HR7 := Lib.hid (show Rq (w1.setCell ⟨X, 5, none⟩ (.slice A1 (xs.length + 1) c1')) R p sat from
          Blk.set_other (Blk.grown (Blk.grown (show Blk wr.drew R _ _ from HR6.out) hG2.2 hneR) hg1 hvR) ⟨X, 5, none⟩ _ (by simp; omega))
        have HO7 := Lib.hid (Own.grown hown1 (gset w1 X 5 (.slice A1 (xs.length + 1) c1')) (by
          cases hv : (Value.slice A1 (xs.length + 1) c1').ownBlock with
          | none => exact .inl rfl
          | some k => right; intro e; injection e with e; have := HV5.out k hv; omega) (fun k hk e => by injection e with e; omega))
        have hs7 := (gset w1 X 5 (.slice A1 (xs.length + 1) c1')).size
        clear hown1 hvb2 hlen hG2 hg1 k5 k5f k5l k0 y5 y5l hF1
        go_wp2_with fail
        go_roundw
        case rel => exact ⟨j + 1, a6, e6, xs ++ [x], _, by omega, by go_num, by rw [List.length_append, HXL.out]; rfl, HX7.out, HZ7.out, HR7.out, HO7.out, HG7.out, Nat.le_trans hw1s hs7, HL⟩
        case measure => simp [intOf]; omega
    · have HLE := Lib.hid (show labelsM B a1 0 = (xs, a5, e5) from by
        by_cases he : e5 = 0
        · have : j = n := by omega
          rw [hlab.out, this, Nat.sub_self]; rfl
        · rw [hlab.out, labM_bad _ _ _ _ _ he])
      obtain ⟨AL, cL, rfl, hl5, hF6⟩ := Own.reads HO.out
      have HF6 := Lib.hid (hF6.mono (ok' := fun k => W5.heap.size ≤ k) (fun k hk => hk.elim id id))
      have hub := u32_bound B a5 e5 HB.out
      have HU := Lib.hid (rU32_any wr p q B a5 e5 HG6.out.1 HB.out)
      have HVC := Lib.hid (show bodyM bk B opc 3 a1 = (.mk opc 0 (rdOf (u32M B a5) a5 e5).1 0 0 xs [] [] false, (rdOf (u32M B a5) a5 e5).2.1, (rdOf (u32M B a5) a5 e5).2.2) from by rw [HVB.out, HLE.out])
      generalize rdOf (u32M B a5) a5 e5 = t at *
      obtain ⟨x, a6, e6⟩ := t
      obtain ⟨hx0, hx1⟩ := hub
      simp only at hx0 hx1
      clear hF6
      by_cases hlt5 : j < n
      · have he : ¬ e5 = 0 := fun h => hfin ⟨hlt5, h⟩
        have he2 : (e5 == 0) = false := beq_eq_false_iff_ne.2 he
        have hlt3 : (j : Int) < (n : Int) := by omega
        clear hfin he
        go_wp2_with fail
        refine HU.out.mono ?_
        rintro E W7 ⟨rfl, hG⟩
        have hG : GoesR wr W7 p q B a6 e6 := hG
        have HX7 := Lib.hid (HX6.out.grown hG.2 (by simp; omega))
        have HZ7 := Lib.hid (HZ6.out.grown hG.2 (by simp; omega))
        have HG7 := Lib.hid (HG6.out.trans hG)
        have HF7 := Lib.hid (FC.goesR HF6.out hG (by simp; omega))
        clear hG HU s0 s1 slt x0 x1 x2 x3 x4 x5 x6 x7 x8 xf0 xf1 xf2 xf3 xf4 xf5 xf6 xf7 xf8 xlt z0 z1 z2 z3 z4 z5 z6 z7 z8 zf0 zf1 zf2 zf3 zf4 zf5 zf6 zf7 zf8 zlt
        obtain ⟨x0, x1, x2, x3, x4, x5, x6, x7, x8⟩ := insC_cellsT HX7.out
        obtain ⟨xf0, xf1, xf2, xf3, xf4, xf5, xf6, xf7, xf8, xlt⟩ := insC_frozen HX7.out
        obtain ⟨z0, z1, z2, z3, z4, z5, z6, z7, z8⟩ := insC_cellsT HZ7.out
        obtain ⟨zf0, zf1, zf2, zf3, zf4, zf5, zf6, zf7, zf8, zlt⟩ := insC_frozen HZ7.out
        go_wp2_with fail
        have HZ8 := Lib.hid (show Blk (W7.setCell ⟨X, 2, none⟩ (.int .u32 x)) W.heap.size zeroC 151 from HZ7.out.set_other ⟨X, 2, none⟩ (.int .u32 x) (by simp; omega))
        have HG8 := Lib.hid (show GoesR W (W7.setCell ⟨X, 2, none⟩ (.int .u32 x)) p q B a6 e6 from HG7.out.setNew HW.out X (by omega) 2 (.int .u32 x))
        have HF8 := Lib.hid (FC.set HF7.out X 2 (.int .u32 x) (by simp; omega))
        change bodyPost _ _ _ Exit.ret _ (put9 (W7.setCell ⟨X, 2, none⟩ (.int .u32 x)) W.heap.size (.int .i64 opc) (.int .u8 0) (.int .u32 x) (.int .u32 0) (.int .u64 0) (.slice AL xs.length cL) (.slice none 0 0) (.slice none 0 0) (.bool false))
        have hgF : GoesR W (put9 (W7.setCell ⟨X, 2, none⟩ (.int .u32 x)) W.heap.size (.int .i64 opc) (.int .u8 0) (.int .u32 x) (.int .u32 0) (.int .u64 0) (.slice AL xs.length cL) (.slice none 0 0) (.slice none 0 0) (.bool false)) p q B a6 e6 := put9_goesR HW.out HG8.out _ (Nat.le_refl _) _ _ _ _ _ _ _ _ _
        have hbF := put9_blk HZ8.out (.int .i64 opc) (.int .u8 0) (.int .u32 x) (.int .u32 0) (.int .u64 0) (.slice AL xs.length cL) (.slice none 0 0) (.slice none 0 0) (.bool false)
        have hfF := put9_FC HF8.out W.heap.size (by simp; omega) (.int .i64 opc) (.int .u8 0) (.int .u32 x) (.int .u32 0) (.int .u64 0) (.slice AL xs.length cL) (.slice none 0 0) (.slice none 0 0) (.bool false)
        generalize put9 (W7.setCell ⟨X, 2, none⟩ (.int .u32 x)) W.heap.size (.int .i64 opc) (.int .u8 0) (.int .u32 x) (.int .u32 0) (.int .u64 0) (.slice AL xs.length cL) (.slice none 0 0) (.slice none 0 0) (.bool false) = V9 at *
        obtain ⟨y0, y1, y2, y3, y4, y5, y6, y7, y8⟩ := insC_cellsT hbF
        have HGF := Lib.hid hgF
        have HFF := Lib.hid hfF
        rw [HVC.out]
        refine bodyPost_ret (v := .agg (insC opc 0 x 0 0 (.slice AL xs.length cL) (.slice none 0 0) (.slice none 0 0) false)) (by simp [results, Tryz.results118, go_sem, y0, y1, y2, y3, y4, y5, y6, y7, y8, insC]) rfl ⟨.mk opc 0 x 0 0 xs [] [] false, AL, none, none, cL, 0, 0, rfl, ?_, fun _ => rfl, HGF.out⟩
        refine ins_mkF (x := .mk opc 0 x 0 0 xs [] [] false) (nest_wf hopc.1 hopc.2) rfl (show (Lit.int .u32 x).wf = true from by simp [Lit.wf, IntKind.min, IntKind.max, IntKind.signed, IntKind.bits]; omega) rfl rfl (HFF.out.mono ?_) FC.nil FC.nil hl5 (Nat.le_refl _) (Nat.le_refl _)
        intro k hk; exact Nat.le_trans hW5s hk
      · have hlt3 : ¬ (j : Int) < (n : Int) := by omega
        clear hfin
        go_wp2_with fail
        refine HU.out.mono ?_
        rintro E W7 ⟨rfl, hG⟩
        have hG : GoesR wr W7 p q B a6 e6 := hG
        have HX7 := Lib.hid (HX6.out.grown hG.2 (by simp; omega))
        have HZ7 := Lib.hid (HZ6.out.grown hG.2 (by simp; omega))
        have HG7 := Lib.hid (HG6.out.trans hG)
        have HF7 := Lib.hid (FC.goesR HF6.out hG (by simp; omega))
        clear hG HU s0 s1 slt x0 x1 x2 x3 x4 x5 x6 x7 x8 xf0 xf1 xf2 xf3 xf4 xf5 xf6 xf7 xf8 xlt z0 z1 z2 z3 z4 z5 z6 z7 z8 zf0 zf1 zf2 zf3 zf4 zf5 zf6 zf7 zf8 zlt
        obtain ⟨x0, x1, x2, x3, x4, x5, x6, x7, x8⟩ := insC_cellsT HX7.out
        obtain ⟨xf0, xf1, xf2, xf3, xf4, xf5, xf6, xf7, xf8, xlt⟩ := insC_frozen HX7.out
        obtain ⟨z0, z1, z2, z3, z4, z5, z6, z7, z8⟩ := insC_cellsT HZ7.out
        obtain ⟨zf0, zf1, zf2, zf3, zf4, zf5, zf6, zf7, zf8, zlt⟩ := insC_frozen HZ7.out
        go_wp2_with fail
        have HZ8 := Lib.hid (show Blk (W7.setCell ⟨X, 2, none⟩ (.int .u32 x)) W.heap.size zeroC 151 from HZ7.out.set_other ⟨X, 2, none⟩ (.int .u32 x) (by simp; omega))
        have HG8 := Lib.hid (show GoesR W (W7.setCell ⟨X, 2, none⟩ (.int .u32 x)) p q B a6 e6 from HG7.out.setNew HW.out X (by omega) 2 (.int .u32 x))
        have HF8 := Lib.hid (FC.set HF7.out X 2 (.int .u32 x) (by simp; omega))
        change bodyPost _ _ _ Exit.ret _ (put9 (W7.setCell ⟨X, 2, none⟩ (.int .u32 x)) W.heap.size (.int .i64 opc) (.int .u8 0) (.int .u32 x) (.int .u32 0) (.int .u64 0) (.slice AL xs.length cL) (.slice none 0 0) (.slice none 0 0) (.bool false))
        have hgF : GoesR W (put9 (W7.setCell ⟨X, 2, none⟩ (.int .u32 x)) W.heap.size (.int .i64 opc) (.int .u8 0) (.int .u32 x) (.int .u32 0) (.int .u64 0) (.slice AL xs.length cL) (.slice none 0 0) (.slice none 0 0) (.bool false)) p q B a6 e6 := put9_goesR HW.out HG8.out _ (Nat.le_refl _) _ _ _ _ _ _ _ _ _
        have hbF := put9_blk HZ8.out (.int .i64 opc) (.int .u8 0) (.int .u32 x) (.int .u32 0) (.int .u64 0) (.slice AL xs.length cL) (.slice none 0 0) (.slice none 0 0) (.bool false)
        have hfF := put9_FC HF8.out W.heap.size (by simp; omega) (.int .i64 opc) (.int .u8 0) (.int .u32 x) (.int .u32 0) (.int .u64 0) (.slice AL xs.length cL) (.slice none 0 0) (.slice none 0 0) (.bool false)
        generalize put9 (W7.setCell ⟨X, 2, none⟩ (.int .u32 x)) W.heap.size (.int .i64 opc) (.int .u8 0) (.int .u32 x) (.int .u32 0) (.int .u64 0) (.slice AL xs.length cL) (.slice none 0 0) (.slice none 0 0) (.bool false) = V9 at *
        obtain ⟨y0, y1, y2, y3, y4, y5, y6, y7, y8⟩ := insC_cellsT hbF
        have HGF := Lib.hid hgF
        have HFF := Lib.hid hfF
        rw [HVC.out]
        refine bodyPost_ret (v := .agg (insC opc 0 x 0 0 (.slice AL xs.length cL) (.slice none 0 0) (.slice none 0 0) false)) (by simp [results, Tryz.results118, go_sem, y0, y1, y2, y3, y4, y5, y6, y7, y8, insC]) rfl ⟨.mk opc 0 x 0 0 xs [] [] false, AL, none, none, cL, 0, 0, rfl, ?_, fun _ => rfl, HGF.out⟩
        refine ins_mkF (x := .mk opc 0 x 0 0 xs [] [] false) (nest_wf hopc.1 hopc.2) rfl (show (Lit.int .u32 x).wf = true from by simp [Lit.wf, IntKind.min, IntKind.max, IntKind.signed, IntKind.bits]; omega) rfl rfl (HFF.out.mono ?_) FC.nil FC.nil hl5 (Nat.le_refl _) (Nat.le_refl _)
        intro k hk; exact Nat.le_trans hW5s hk
end Go.Proofs.YtofaiocffifhfaaGreat
end
section
namespace Go.Proofs.YtofaiocffifhfaaGreat
open Go.RowKit Go.Shelf YtofaiocffifhfaaGreatB Go.Proofs.YtofaiocffifhfaaGreatW.PrintWords
theorem imm_block {b : Int} : (immM b).1 = 1 ↔ 2 ≤ b ∧ b ≤ 4 := by
  constructor
  · intro h
    have := (imm_one (b := b) (ib := (immM b).2) (by rw [← h])).1
    omega
  · intro h
    unfold immM
    rw [if_neg (by omega), if_pos (by omega)]
theorem op_know {sat : Bool} {B : List Int} {a : Nat} {e : Int} (h : (opM sat B a e).2.2 = 0) : rImmV (opM sat B a e).1 = (immM (opM sat B a e).1).1 := by
  have key : (immM (opM sat B a e).1).2 = true := by
    unfold opM at h ⊢
    split at h
    next hp =>
      rw [if_pos hp]
      split at h
      next h2 =>
        rw [if_pos h2]
        unfold secondM at h ⊢
        simp only at h ⊢
        split at h
        next h7 =>
          unfold failE at h
          split at h
          · cases h
          · contradiction
        next h7 =>
          have hb : 0 ≤ (rdOf (u32M B (a + 1)) (a + 1) 0).1 := by
            unfold rdOf
            rw [if_pos rfl]
            unfold numV
            cases u32M B (a + 1) with
            | error _ => exact Int.le_refl _
            | ok y => exact Int.natCast_nonneg _
          generalize (rdOf (u32M B (a + 1)) (a + 1) 0).1 = n at *
          unfold immM
          rw [if_neg (by omega), if_neg (by omega), if_neg (by omega), if_neg (by omega), if_neg (by omega), if_neg (by omega), if_neg (by omega), if_neg (by omega), if_neg (by omega), if_neg (by omega), if_neg (by omega), if_neg (by omega), if_neg (by omega)]
          exact decide_eq_true (by omega)
      next h2 =>
        rw [if_neg h2]
        split at h
        next h3 => rw [if_pos h3]; exact h3
        next h3 => cases h
    next hp => exact absurd h hp
  unfold rImmV
  rw [if_pos key]
theorem rinstr_five (W : World) (R p q : Nat) (sat : Bool) (deep : Nat) (B : List Int) (a : Nat) (hR : Rq W R p sat) (hRp : R ≠ p) (hC : Rdr W p q B a 0) (hB : Byts B) (hx : B[a]? = some 5) :
    Calls Tryz.prog 118 #[.pointer (some ⟨R, 0, none⟩), .int .i64 deep] W (RInsPost W p q B (leafI 0, a, 108)) :=
  rinstr_bad W R p q sat deep B a a 0 5 0 0 108 hR hRp hC hB (by simp [nextV, peekM, hx]) (by simp [peekM, hx]) (.inr ⟨rfl, .inl rfl⟩)
    (fun X h1 h2 => rop_not X R p q sat B a 5 h1 hRp h2 hB hx (by omega) _ rfl (.inr rfl)) (by decide)
theorem rinstr_any (bk : Bool → Nat → Int → List Ins × Int × Nat × Int) (W : World) (R p q : Nat) (sat : Bool) (deep : Nat) (B : List Int) (a : Nat) (e : Int) (hR : Rq W R p sat) (hRp : R ≠ p) (hC : Rdr W p q B a e) (hB : Byts B) (h5 : ∀ b, peekM B a e = (b, 0) → ¬ b = 5 ∧ ¬ b = 11)
    (hbk : ∀ (W' : World) (m : Bool) (a' : Nat) (e' : Int), a + 1 ≤ a' ∨ ¬ e' = 0 → Rq W' R p sat → Rdr W' p q B a' e' → Calls Tryz.prog 93 #[.pointer (some ⟨R, 0, none⟩), .int .i64 ((deep : Int) + 1), .bool m] W' (SeqPost W' p q B (bk m a' e')))
    (hge : BkGe bk) :
    Calls Tryz.prog 118 #[.pointer (some ⟨R, 0, none⟩), .int .i64 deep] W (RInsPost W p q B (insM bk sat B deep a e)) := by
  by_cases hp : (peekM B a e).2 = 0
  · obtain ⟨b, hx⟩ : ∃ b, peekM B a e = (b, 0) := ⟨(peekM B a e).1, by rw [← hp]⟩
    obtain ⟨rfl, hxx⟩ := peek_good hx
    have hn := h5 b hx
    have hbb := hB.get hxx
    by_cases h1 : 2 ≤ b ∧ b ≤ 4
    · have hi : immM b = (1, true) := by unfold immM; rw [if_neg (by omega), if_pos (by omega)]
      by_cases hd : 64 ≤ deep
      · have hdE : deepE B deep a 0 = 3 := by unfold deepE; rw [hx]; simp only [hi]; exact if_pos ⟨trivial, hd, trivial⟩
        have : insM bk sat B deep a 0 = (leafI 0, a, 3) := by unfold insM; rw [hdE, op_three]; rfl
        rw [this]
        exact rinstr_deep W R p q sat deep B a b hR hRp hC hB hxx h1 hd
      · have hdE : deepE B deep a 0 = 0 := by unfold deepE; rw [hx]; simp only [hi]; exact if_neg (fun h => hd h.2.1)
        have : insM bk sat B deep a 0 = bodyM bk B b 1 (a + 1) := by unfold insM; rw [hdE, op_one hxx hi]; simp only [hi]; rfl
        rw [this]
        exact rinstr_1 bk W R p q sat deep B a b hR hRp hC hB hxx h1 (by omega) hbk hge
    · have hni : ¬ (immM b).1 = 1 := fun h => h1 (imm_block.1 h)
      have hdE : deepE B deep a 0 = 0 := by unfold deepE; rw [hx]; exact if_neg (fun h => hni h.1)
      have hop := op_imm (sat := sat) (a := a) (e := 0) hB (by rw [hx]; exact hni)
      obtain ⟨opc, a1, e1, ho⟩ : ∃ opc a1 e1, opM sat B a 0 = (opc, a1, e1) := ⟨_, _, _, rfl⟩
      by_cases he1 : e1 = 0
      · subst he1
        have hk := op_know (sat := sat) (B := B) (a := a) (e := 0) (by rw [ho])
        rw [ho] at hop hk
        simp only at hop hk
        have : insM bk sat B deep a 0 = bodyM bk B opc (immM opc).1 a1 := by unfold insM; rw [hdE, ho]; rfl
        rw [this]
        by_cases h3 : (immM opc).1 = 3
        · rw [h3]
          exact rinstr_3 bk W R p q sat deep B a a1 b opc hR hRp hC hB hxx h1 hn ho hop.2 (by rw [hk, h3])
        · exact rinstr_n bk W R p q sat deep B a a1 b opc _ hR hRp hC hB hxx h1 hn ho hop.2 hk hop.1 h3
      · have : insM bk sat B deep a 0 = (leafI 0, a1, e1) := by unfold insM; rw [hdE, ho]; exact if_neg he1
        rw [this]
        refine rinstr_bad W R p q sat deep B a a1 0 b 0 opc e1 hR hRp hC hB (by simp [nextV, hx]) (by rw [hx]) ?_ (fun X g1 g2 => by rw [← ho]; exact rop_any X R p q sat B a 0 g1 hRp g2 hB h5) he1
        by_cases h2 : 2 ≤ b
        · exact .inr ⟨decide_eq_true h2, .inl (decide_eq_false (fun h4 => h1 ⟨h2, h4⟩))⟩
        · exact .inl (decide_eq_false h2)
  · have hp2 := hp
    have hpv : (peekM B a e).1 = 0 := by
      unfold peekM at hp ⊢
      by_cases he : e = 0
      · rw [if_pos he] at hp ⊢
        cases hy : B[a]? with
        | none => rfl
        | some y => rw [hy] at hp; exact absurd rfl hp
      · rw [if_neg he]
    have hdE : deepE B deep a e = (peekM B a e).2 := by unfold deepE; exact if_neg (fun h => hp h.2.2)
    have hpp : (peekM B a (peekM B a e).2).2 = (peekM B a e).2 := by
      generalize (peekM B a e).2 = pe at *
      unfold peekM
      rw [if_neg hp]
    have ho : opM sat B a (peekM B a e).2 = (0, a, (peekM B a e).2) := by unfold opM; rw [hpp, if_neg hp]
    have : insM bk sat B deep a e = (leafI 0, a, (peekM B a e).2) := by unfold insM; rw [hdE, ho]; exact if_neg hp
    rw [this]
    refine rinstr_bad W R p q sat deep B a a e (-1) _ 0 (peekM B a e).2 hR hRp hC hB (if_neg hp) rfl (.inl (by decide)) (fun X g1 g2 => ?_) hp
    have := rop_bad X R p q sat B a (peekM B a e).2 g1 g2 hB (by rw [hpp]; exact hp)
    rw [hpp] at this
    exact this
end Go.Proofs.YtofaiocffifhfaaGreat
end
section
namespace Go.Proofs.YtofaiocffifhfaaGreat
open Go.RowKit Go.Shelf YtofaiocffifhfaaGreatB Go.Proofs.YtofaiocffifhfaaGreatW.PrintWords
theorem curMeas_R {W : World} {p q : Nat} {B : List Int} {a : Nat} {e : Int} (h : Rdr W p q B a e) : curMeas W p B.length = if e = 0 then B.length + 1 - a else 0 := by
  obtain ⟨A, c, c0, c1, c2, _⟩ := h.cells
  unfold curMeas
  rw [c2, c1]
  simp only [Int.toNat_natCast]
theorem Own.goesR {α : Type} {d : Kd α} {t : TypeId} {W W1 : World} {base : Nat} {ok : Nat → Prop} {v : Value} {xs : List α} {p q : Nat} {B : List Int} {a : Nat} {e : Int} (h : Own d t W base ok v xs) (hG : GoesR W W1 p q B a e) (hp : p < base) (hok : ∀ k, ok k → base ≤ k) : Own d t W1 base ok v xs :=
  h.grown hG.2 (by
    cases hv : v.ownBlock with
    | none => exact .inl rfl
    | some k => right; intro e; injection e with e; have := (h.block hv).1; omega) (fun k hk e => by injection e with e; have := hok k hk; omega)
theorem GoesR.alloc {W W1 : World} {p q : Nat} {B : List Int} {a : Nat} {e : Int} (h : GoesR W W1 p q B a e) (o : Obj) : GoesR W (W1.alloc o) p q B a e := ⟨h.1.alloc o, h.2.trans (World.grownBy_alloc W1 o _)⟩
end Go.Proofs.YtofaiocffifhfaaGreat
end
