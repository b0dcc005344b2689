/- Lemmas towards this claim's statement: what the functions named here come to, each under the conditions that it states itself. -/
import Derived.Test.YtofaiocffifhfaaGreatML5
import Derived.Deep.CutRange
section
namespace Go.Proofs.YtofaiocffifhfaaGreat
open Go.RowKit Go.Shelf YtofaiocffifhfaaGreatB Go.Proofs.YtofaiocffifhfaaGreatW.PrintWords
set_option maxRecDepth 100000 in
set_option maxHeartbeats 4000000 in
theorem instr_bad (W : World) (R p q : Nat) (sat : Bool) (deep : Nat) (B : List Int) (a a1 : Nat) (e b pe opc e1 iv i : Int) (ib ib2 : Bool) (hR : Rp W R p sat deep) (hRp : R ≠ p) (hC : Cur W p q B a e) (hB : Byts B) (hx : peekM B a e = (b, pe)) (hb : 0 ≤ b ∧ b ≤ 255)
    (hi : immM b = (iv, ib)) (hi1 : (iv == 1) = false) (ho : opM sat B a pe = (opc, a1, e1)) (he1 : (e1 == 0) = false) (hopc : 0 ≤ opc ∧ opc ≤ 5000000000) (hi2 : immM opc = (i, ib2)) (r : Ins) :
    Calls Tryz.prog 141 #[.pointer (some ⟨R, 0, none⟩)] W (InsPost W p q B (leafI 0, a1, e1)) := by
  have hplt := hC.lt
  have hRlt := hR.lt
  have HP := Lib.hid (peek_any (W.alloc (.cells zeroC 153)) R p q sat deep B a e (Blk.alloc hR _) hRp (hC.alloc _) hB)
  rw [hx] at HP
  have HI1 := Lib.hid (fun X => Imm_any X b hb.1 (by omega))
  have HI2 := Lib.hid (fun X => Imm_any X opc hopc.1 hopc.2)
  rw [hi] at HI1
  rw [hi2] at HI2
  have HOP := Lib.hid (fun X h1 h2 => op_any X R p q sat deep B a pe h1 hRp h2 hB)
  rw [ho] at HOP
  have HE1 := Lib.hid he1
  have HR := Lib.hid (show Rp (W.alloc (.cells zeroC 153)) R p sat deep from Blk.alloc hR _)
  have HZ := Lib.hid (Blk.new W zeroC 153)
  have HW := Lib.hid hC
  have hb0 := hb.1
  have hb1 := hb.2
  clear hR hC hB hx hi ho hi2 hb he1
  go_enter Tryz.func141, Tryz.ntmps141
  go_wp2_with fail
  refine HP.out.mono ?_
  rintro E W1 ⟨rfl, hG1⟩
  have HR1 := Lib.hid (HR.out.goes hRp hG1)
  have HZ1 := Lib.hid (HZ.out.grown hG1.2 (by simp; omega))
  have HG1 := Lib.hid hG1.of_alloc
  clear hG1 HP HR HZ
  go_wp2_with fail
  refine (HI1.out _).mono ?_
  rintro E W2 ⟨rfl, hB2⟩
  have hg2 : Goes W1 W2 p q B a pe := ⟨HG1.out.1.below hB2, grown_below hB2 _⟩
  have HR2 := Lib.hid (HR1.out.goes hRp hg2)
  have HZ2 := Lib.hid (HZ1.out.grown hg2.2 (by simp; omega))
  have HG2 := Lib.hid (HG1.out.trans hg2)
  clear hg2 hB2 HR1 HZ1 HG1
  go_wp2_with fail
  refine (HOP.out _ HR2.out HG2.out.1).mono ?_
  rintro E W3 ⟨rfl, hG3⟩
  have HR3 := Lib.hid (HR2.out.goes hRp hG3)
  have HZ3 := Lib.hid (HZ2.out.grown hG3.2 (by simp; omega))
  have HG3 := Lib.hid (HG2.out.trans hG3)
  clear hG3 HR2 HZ2 HG2 HOP
  go_wp2_with fail
  refine (HI2.out _).mono ?_
  rintro E W4 ⟨rfl, hB4⟩
  have hg4 : Goes W3 W4 p q B a1 e1 := Goes.of_alloc (o := .cells (insC opc 0 0 0 0 (.slice none 0 0) (.slice none 0 0) (.slice none 0 0) false) 153) ⟨(HG3.out.1.alloc _).below hB4, grown_below hB4 _⟩
  have HR4 := Lib.hid (HR3.out.goes hRp hg4)
  have HZ4 := Lib.hid (HZ3.out.grown hg4.2 (by simp; omega))
  have HG4 := Lib.hid (HG3.out.trans hg4)
  clear hB4 hg4 HR3 HZ3 HG3
  go_wp2_with fail
  refine (rgood_any _ _ _ _ _ _ _ _ _ false HR4.out HG4.out.1 HE1.out).mono ?_
  rintro E w' ⟨rfl, rfl⟩
  clear HI1 HI2 HR4
  obtain ⟨z0, z1, z2, z3, z4, z5, z6, z7, z8⟩ := insC_cells HZ4.out
  obtain ⟨zf0, zf1, zf2, zf3, zf4, zf5, zf6, zf7, zf8, zlt⟩ := insC_frozen HZ4.out
  go_wp2_with fail
  change bodyPost _ _ _ Exit.ret _ (put9 W4 W.heap.size (.int .i64 0) (.int .u8 0) (.int .u32 0) (.int .u32 0) (.int .u64 0) (.slice none 0 0) (.slice none 0 0) (.slice none 0 0) (.bool false))
  have hgF : Goes W (put9 W4 W.heap.size (.int .i64 0) (.int .u8 0) (.int .u32 0) (.int .u32 0) (.int .u64 0) (.slice none 0 0) (.slice none 0 0) (.slice none 0 0) (.bool false)) p q B a1 e1 := put9_goes HW.out HG4.out _ (Nat.le_refl _) _ _ _ _ _ _ _ _ _
  have hbF := put9_blk HZ4.out (.int .i64 0) (.int .u8 0) (.int .u32 0) (.int .u32 0) (.int .u64 0) (.slice none 0 0) (.slice none 0 0) (.slice none 0 0) (.bool false)
  generalize put9 W4 W.heap.size (.int .i64 0) (.int .u8 0) (.int .u32 0) (.int .u32 0) (.int .u64 0) (.slice none 0 0) (.slice none 0 0) (.slice none 0 0) (.bool false) = V9 at *
  clear z0 z1 z2 z3 z4 z5 z6 z7 z8 zf0 zf1 zf2 zf3 zf4 zf5 zf6 zf7 zf8 zlt
  obtain ⟨y0, y1, y2, y3, y4, y5, y6, y7, y8⟩ := insC_cells hbF
  have HGF := Lib.hid hgF
  refine bodyPost_ret (v := .agg (insC 0 0 0 0 0 (.slice none 0 0) (.slice none 0 0) (.slice none 0 0) false)) (by simp [results, Tryz.results141, go_sem, y0, y1, y2, y3, y4, y5, y6, y7, y8, insC]) rfl ⟨leafI 0, none, none, none, 0, 0, 0, rfl, ?_, fun _ => rfl, HGF.out⟩
  exact fk_flat (by omega) (by omega) (by omega) (by omega) (by omega)
theorem imm_one {b : Int} {ib : Bool} (h : immM b = (1, ib)) : (b = 2 ∨ b = 3 ∨ b = 4) ∧ ib = true := by
  unfold immM at h
  by_cases c0 : b = 0 ∨ b = 1 ∨ b = 15 ∨ b = 26 ∨ b = 27
  · rw [if_pos c0] at h; exact absurd (Prod.mk.inj h).1 (by decide)
  rw [if_neg c0] at h
  by_cases c1 : b = 2 ∨ b = 3 ∨ b = 4
  · rw [if_pos c1] at h; exact ⟨c1, (Prod.mk.inj h).2.symm⟩
  rw [if_neg c1] at h
  by_cases c2 : b = 5 ∨ b = 11
  · rw [if_pos c2] at h; exact absurd (Prod.mk.inj h).1 (by decide)
  rw [if_neg c2] at h
  by_cases c3 : b = 12 ∨ b = 13
  · rw [if_pos c3] at h; exact absurd (Prod.mk.inj h).1 (by decide)
  rw [if_neg c3] at h
  by_cases c4 : b = 14
  · rw [if_pos c4] at h; exact absurd (Prod.mk.inj h).1 (by decide)
  rw [if_neg c4] at h
  by_cases c5 : b = 16 ∨ b = 32 ∨ b = 33 ∨ b = 34 ∨ b = 35 ∨ b = 36
  · rw [if_pos c5] at h; exact absurd (Prod.mk.inj h).1 (by decide)
  rw [if_neg c5] at h
  by_cases c6 : b = 17
  · rw [if_pos c6] at h; exact absurd (Prod.mk.inj h).1 (by decide)
  rw [if_neg c6] at h
  by_cases c7 : b = 63 ∨ b = 64
  · rw [if_pos c7] at h; exact absurd (Prod.mk.inj h).1 (by decide)
  rw [if_neg c7] at h
  by_cases c8 : b = 65
  · rw [if_pos c8] at h; exact absurd (Prod.mk.inj h).1 (by decide)
  rw [if_neg c8] at h
  by_cases c9 : b = 66
  · rw [if_pos c9] at h; exact absurd (Prod.mk.inj h).1 (by decide)
  rw [if_neg c9] at h
  by_cases c10 : b = 67
  · rw [if_pos c10] at h; exact absurd (Prod.mk.inj h).1 (by decide)
  rw [if_neg c10] at h
  by_cases c11 : b = 68
  · rw [if_pos c11] at h; exact absurd (Prod.mk.inj h).1 (by decide)
  rw [if_neg c11] at h
  by_cases c12 : 40 ≤ b ∧ b ≤ 62
  · rw [if_pos c12] at h; exact absurd (Prod.mk.inj h).1 (by decide)
  rw [if_neg c12] at h
  exact absurd (Prod.mk.inj h).1 (by decide)
theorem op_one {sat : Bool} {B : List Int} {a : Nat} {b : Int} {ib : Bool} (hx : B[a]? = some b) (h : immM b = (1, ib)) : opM sat B a 0 = (b, a + 1, 0) := by
  have h2 := imm_one h
  unfold opM
  rw [show peekM B a 0 = (b, 0) from by simp [peekM, hx], if_pos rfl, if_neg (by simp only; omega), h, if_pos h2.2]
theorem op_three {sat : Bool} {B : List Int} {a : Nat} : opM sat B a 3 = (0, a, 3) := by
  unfold opM
  rw [show peekM B a 3 = (0, 3) from rfl, if_neg (by decide)]
set_option maxRecDepth 100000 in
set_option maxHeartbeats 4000000 in
theorem instr_deep (W : World) (R p q : Nat) (sat : Bool) (deep : Nat) (B : List Int) (a : Nat) (b : Int) (ib : Bool) (hR : Rp W R p sat deep) (hRp : R ≠ p) (hC : Cur W p q B a 0) (hB : Byts B) (hx : B[a]? = some b)
    (hi : immM b = (1, ib)) (hd : 64 ≤ deep) :
    Calls Tryz.prog 141 #[.pointer (some ⟨R, 0, none⟩)] W (InsPost W p q B (leafI 0, a, 3)) := by
  have hplt := hC.lt
  have hRlt := hR.lt
  have hb := hB.get hx
  obtain ⟨a1, ha1⟩ : ∃ a1, a1 = a := ⟨_, rfl⟩
  obtain ⟨e1, he1⟩ : ∃ e1 : Int, e1 = 3 := ⟨_, rfl⟩
  obtain ⟨opc, hopc⟩ : ∃ opc : Int, opc = 0 := ⟨_, rfl⟩
  obtain ⟨i, hii⟩ : ∃ i : Int, i = 0 := ⟨_, rfl⟩
  have HP := Lib.hid (peek_any (W.alloc (.cells zeroC 153)) R p q sat deep B a 0 (Blk.alloc hR _) hRp (hC.alloc _) hB)
  rw [show peekM B a 0 = (b, 0) from by simp [peekM, hx]] at HP
  have HI1 := Lib.hid (fun X => Imm_any X b hb.1 (by omega))
  have HI2 := Lib.hid (fun X => Imm_any X opc (by omega) (by omega))
  rw [hi] at HI1
  rw [show immM opc = (i, true) from by rw [hopc, hii]; rfl] at HI2
  have HOP := Lib.hid (fun X h1 h2 => op_any X R p q sat deep B a e1 h1 hRp h2 hB)
  rw [show opM sat B a e1 = (opc, a1, e1) from by rw [he1, hopc, ha1]; exact op_three] at HOP
  have HE1 := Lib.hid (show (e1 == 0) = false from by rw [he1]; rfl)
  have HR := Lib.hid (show Rp (W.alloc (.cells zeroC 153)) R p sat deep from Blk.alloc hR _)
  have HZ := Lib.hid (Blk.new W zeroC 153)
  have HW := Lib.hid hC
  have hdb : decide ((64 : Int) ≤ (deep : Int)) = true := decide_eq_true (by omega)
  have HF := Lib.hid (fun X h => Fail_any X p q B a 0 3 h rfl)
  rw [show failE 0 3 = e1 from by rw [he1]; rfl] at HF
  rw [← ha1, ← he1]
  have HA := Lib.hid ha1
  have hb0 := hb.1
  have hb1 := hb.2
  clear hR hC hB hx hi hb he1 hopc hii ha1 hd
  go_enter Tryz.func141, Tryz.ntmps141
  go_wp2_with fail
  refine HP.out.mono ?_
  rintro E W1 ⟨rfl, hG1⟩
  have HR1 := Lib.hid (HR.out.goes hRp hG1)
  have HZ1 := Lib.hid (HZ.out.grown hG1.2 (by simp; omega))
  have HG1 := Lib.hid hG1.of_alloc
  clear hG1 HP HR HZ
  go_wp2_with fail
  refine (HI1.out _).mono ?_
  rintro E W2 ⟨rfl, hB2⟩
  have hg2 : Goes W1 W2 p q B a 0 := ⟨HG1.out.1.below hB2, grown_below hB2 _⟩
  have HR2 := Lib.hid (HR1.out.goes hRp hg2)
  have HZ2 := Lib.hid (HZ1.out.grown hg2.2 (by simp; omega))
  have HG2 := Lib.hid (HG1.out.trans hg2)
  clear hg2 hB2 HR1 HZ1 HG1
  obtain ⟨s0, s1, s2, sf, slt⟩ := HR2.out.cells
  go_wp2_with fail
  refine (rgood_any _ _ _ _ _ _ _ _ _ true HR2.out HG2.out.1 rfl).mono ?_
  rintro E w' ⟨rfl, rfl⟩
  go_wp2_with fail
  refine (HF.out _ HG2.out.1).mono ?_
  rintro E W9 ⟨rfl, hG9⟩
  have HR9 := Lib.hid (HR2.out.goes hRp hG9)
  have HZ9 := Lib.hid (HZ2.out.grown hG9.2 (by simp; omega))
  have HG9 := Lib.hid (HG2.out.trans hG9)
  clear hG9 HR2 HZ2 HG2 HF s0 s1 s2 sf slt
  go_wp2_with fail
  refine (HOP.out _ HR9.out HG9.out.1).mono ?_
  rintro E W3 ⟨rfl, hG3⟩
  have HR3 := Lib.hid (HR9.out.goes hRp hG3)
  have HZ3 := Lib.hid (HZ9.out.grown hG3.2 (by simp; omega))
  have HG3 := Lib.hid (HG9.out.trans hG3)
  clear hG3 HR9 HZ9 HG9 HOP
  go_wp2_with fail
  refine (HI2.out _).mono ?_
  rintro E W4 ⟨rfl, hB4⟩
  have hg4 : Goes W3 W4 p q B a1 e1 := Goes.of_alloc (o := .cells (insC opc 0 0 0 0 (.slice none 0 0) (.slice none 0 0) (.slice none 0 0) false) 153) ⟨(HG3.out.1.alloc _).below hB4, grown_below hB4 _⟩
  have HR4 := Lib.hid (HR3.out.goes hRp hg4)
  have HZ4 := Lib.hid (HZ3.out.grown hg4.2 (by simp; omega))
  have HG4 := Lib.hid (HG3.out.trans hg4)
  clear hB4 hg4 HR3 HZ3 HG3
  go_wp2_with fail
  refine (rgood_any _ _ _ _ _ _ _ _ _ false HR4.out HG4.out.1 HE1.out).mono ?_
  rintro E w' ⟨rfl, rfl⟩
  clear HI1 HI2 HR4
  obtain ⟨z0, z1, z2, z3, z4, z5, z6, z7, z8⟩ := insC_cells HZ4.out
  obtain ⟨zf0, zf1, zf2, zf3, zf4, zf5, zf6, zf7, zf8, zlt⟩ := insC_frozen HZ4.out
  go_wp2_with fail
  change bodyPost _ _ _ Exit.ret _ (put9 W4 W.heap.size (.int .i64 0) (.int .u8 0) (.int .u32 0) (.int .u32 0) (.int .u64 0) (.slice none 0 0) (.slice none 0 0) (.slice none 0 0) (.bool false))
  have hgF : Goes W (put9 W4 W.heap.size (.int .i64 0) (.int .u8 0) (.int .u32 0) (.int .u32 0) (.int .u64 0) (.slice none 0 0) (.slice none 0 0) (.slice none 0 0) (.bool false)) p q B a1 e1 := put9_goes HW.out HG4.out _ (Nat.le_refl _) _ _ _ _ _ _ _ _ _
  have hbF := put9_blk HZ4.out (.int .i64 0) (.int .u8 0) (.int .u32 0) (.int .u32 0) (.int .u64 0) (.slice none 0 0) (.slice none 0 0) (.slice none 0 0) (.bool false)
  generalize put9 W4 W.heap.size (.int .i64 0) (.int .u8 0) (.int .u32 0) (.int .u32 0) (.int .u64 0) (.slice none 0 0) (.slice none 0 0) (.slice none 0 0) (.bool false) = V9 at *
  clear z0 z1 z2 z3 z4 z5 z6 z7 z8 zf0 zf1 zf2 zf3 zf4 zf5 zf6 zf7 zf8 zlt
  obtain ⟨y0, y1, y2, y3, y4, y5, y6, y7, y8⟩ := insC_cells hbF
  have HGF := Lib.hid hgF
  refine bodyPost_ret (v := .agg (insC 0 0 0 0 0 (.slice none 0 0) (.slice none 0 0) (.slice none 0 0) false)) (by simp [results, Tryz.results141, go_sem, y0, y1, y2, y3, y4, y5, y6, y7, y8, insC]) rfl ⟨leafI 0, none, none, none, 0, 0, 0, rfl, ?_, fun _ => rfl, HGF.out⟩
  exact fk_flat (by omega) (by omega) (by omega) (by omega) (by omega)
set_option maxRecDepth 100000 in
set_option maxHeartbeats 4000000 in
theorem instr_1 (bk : Bool → Nat → Int → List Ins × Int × Nat × Int) (W : World) (R p q : Nat) (sat : Bool) (deep : Nat) (B : List Int) (a : Nat) (b : Int) (ib : Bool) (hR : Rp W R p sat deep) (hRp : R ≠ p) (hRq : R ≠ q) (hC : Cur W p q B a 0) (hB : Byts B) (hx : B[a]? = some b)
    (hi : immM b = (1, ib)) (hd : deep < 64)
    (hbk : ∀ (W' : World) (m : Bool) (a' : Nat) (e' : Int), a + 1 ≤ a' ∨ ¬ e' = 0 → Rp W' R p sat (deep + 1 : Nat) → Cur W' p q B a' e' → Calls Tryz.prog 133 #[.pointer (some ⟨R, 0, none⟩), .bool m] W' (BlkPost W' p q B (bk m a' e')))
    (hge : BkGe bk) :
    Calls Tryz.prog 141 #[.pointer (some ⟨R, 0, none⟩)] W (InsPost W p q B (bodyM bk B b 1 (a + 1))) := by
  have hplt := hC.lt
  have hRlt := hR.lt
  have hb := hB.get hx
  have hqlt : q < W.heap.size := by
    rcases hC.qlt with h | h
    · rw [h] at hx; simp at hx
    · exact h
  obtain ⟨a1, ha1⟩ : ∃ a1, a1 = a + 1 := ⟨_, rfl⟩
  obtain ⟨opc, hopc⟩ : ∃ opc : Int, opc = b := ⟨_, rfl⟩
  have HP := Lib.hid (peek_any (W.alloc (.cells zeroC 153)) R p q sat deep B a 0 (Blk.alloc hR _) hRp (hC.alloc _) hB)
  rw [show peekM B a 0 = (b, 0) from by simp [peekM, hx]] at HP
  have HI1 := Lib.hid (fun X => Imm_any X b hb.1 (by omega))
  have HI2 := Lib.hid (fun X => Imm_any X opc (by omega) (by omega))
  rw [hi] at HI1
  rw [show immM opc = (1, ib) from by rw [hopc]; exact hi] at HI2
  have HOP := Lib.hid (fun X h1 h2 => op_any X R p q sat deep B a 0 h1 hRp h2 hB)
  rw [show opM sat B a 0 = (opc, a1, 0) from by rw [hopc, ha1]; exact op_one hx hi] at HOP
  have HR := Lib.hid (show Rp (W.alloc (.cells zeroC 153)) R p sat deep from Blk.alloc hR _)
  have HZ := Lib.hid (Blk.new W zeroC 153)
  have HW := Lib.hid hC
  have hdb : decide ((64 : Int) ≤ (deep : Int)) = false := decide_eq_false (by omega)
  have HN := Lib.hid (fun X Y h1 h2 h3 h4 h5 h6 => nested_any bk X R p q Y sat deep B a1 opc h1 hRp h2 h3 hRq h4 h5 hB (by omega) (by omega) h6 (by rw [ha1]; exact hbk) hge)
  rw [← ha1, show bodyM bk B b 1 a1 = bodyM bk B opc 1 a1 from by rw [hopc]]
  generalize bodyM bk B opc 1 a1 = r at *
  obtain ⟨rx, ra, re⟩ := r
  have hopc2 : 0 ≤ opc ∧ opc ≤ 5000000000 := by omega
  have hb0 := hb.1
  have hb1 := hb.2
  clear hR hC hB hx hi hb hopc ha1 hd hbk hge
  go_enter Tryz.func141, Tryz.ntmps141
  go_wp2_with fail
  refine HP.out.mono ?_
  rintro E W1 ⟨rfl, hG1⟩
  have HR1 := Lib.hid (HR.out.goes hRp hG1)
  have HZ1 := Lib.hid (HZ.out.grown hG1.2 (by simp; omega))
  have HG1 := Lib.hid hG1.of_alloc
  clear hG1 HP HR HZ
  go_wp2_with fail
  refine (HI1.out _).mono ?_
  rintro E W2 ⟨rfl, hB2⟩
  have hg2 : Goes W1 W2 p q B a 0 := ⟨HG1.out.1.below hB2, grown_below hB2 _⟩
  have HR2 := Lib.hid (HR1.out.goes hRp hg2)
  have HZ2 := Lib.hid (HZ1.out.grown hg2.2 (by simp; omega))
  have HG2 := Lib.hid (HG1.out.trans hg2)
  clear hg2 hB2 HR1 HZ1 HG1
  obtain ⟨s0, s1, s2, sf, slt⟩ := HR2.out.cells
  go_wp2_with fail
  refine (HOP.out _ HR2.out HG2.out.1).mono ?_
  rintro E W3 ⟨rfl, hG3⟩
  have HR3 := Lib.hid (HR2.out.goes hRp hG3)
  have HZ3 := Lib.hid (HZ2.out.grown hG3.2 (by simp; omega))
  have HG3 := Lib.hid (HG2.out.trans hG3)
  clear hG3 HR2 HZ2 HG2 HOP s0 s1 s2 sf slt
  go_wp2_with fail
  refine (HI2.out _).mono ?_
  rintro E W4 ⟨rfl, hB4⟩
  have XB4 : Blk W4 W3.heap.size (insC opc 0 0 0 0 (.slice none 0 0) (.slice none 0 0) (.slice none 0 0) false) 153 := (Blk.new W3 (insC opc 0 0 0 0 (.slice none 0 0) (.slice none 0 0) (.slice none 0 0) false) 153).below hB4 (by simp)
  have hg4 : Goes W3 W4 p q B a1 0 := Goes.of_alloc (o := .cells (insC opc 0 0 0 0 (.slice none 0 0) (.slice none 0 0) (.slice none 0 0) false) 153) ⟨(HG3.out.1.alloc _).below hB4, grown_below hB4 _⟩
  have HR4 := Lib.hid (HR3.out.goes hRp hg4)
  have HZ4 := Lib.hid (HZ3.out.grown hg4.2 (by simp; omega))
  have HG4 := Lib.hid (HG3.out.trans hg4)
  have HX4 := Lib.hid XB4
  have hXp : p < W3.heap.size := Nat.lt_of_lt_of_le hplt HG3.out.2.size
  have hXR : R < W3.heap.size := Nat.lt_of_lt_of_le hRlt HG3.out.2.size
  have hXZ : W.heap.size < W3.heap.size := HZ3.out.lt
  obtain ⟨X, hXe⟩ : ∃ X, X = W3.heap.size := ⟨_, rfl⟩
  rw [← hXe] at HX4 hXp hXR hXZ ⊢
  clear hB4 XB4 hg4 HR3 HZ3 HG3 hXe
  go_wp2_with fail
  refine (rgood_any _ _ _ _ _ _ _ _ _ true HR4.out HG4.out.1 rfl).mono ?_
  rintro E w' ⟨rfl, rfl⟩
  clear HI1 HI2
  have hW4 := HZ4.out.lt
  go_wp2_with fail
  refine (HN.out W4 X HR4.out (by omega) (by omega) (by omega) HG4.out.1 HX4.out).mono ?_
  rintro E W5 ⟨rfl, ⟨cs, x', hcs, hF, hxr⟩, hGX, hR5⟩
  have HG5 := Lib.hid (GoesX.goes HG4.out hGX (by omega))
  obtain ⟨AL, cL, AT, cT, AE, cE, hce, w1, w2, w3, w4, w5, fL, fT, fE, l1, l2, l3⟩ := ins_openF hF
  have hce : cs = insC x'.op x'.ty x'.a x'.b x'.bits (.slice AL x'.list.length cL) (.slice AT x'.th.length cT) (.slice AE x'.el.length cE) x'.has := by
    obtain ⟨l⟩ := cs; exact congrArg Array.mk hce
  subst hce
  have HX5 := Lib.hid hcs
  have HZ5 := Lib.hid (show Blk W5 W.heap.size zeroC 153 from (hGX.2.2.2.2.2 W.heap.size hW4 (by omega) (by omega)).trans HZ4.out)
  have HL := Lib.hid (show FC (rng .u32) W5 (fun k => W4.heap.size ≤ k) AL x'.list from fL)
  have HT := Lib.hid fT
  have HE := Lib.hid fE
  have HXR := Lib.hid hxr
  have HW1 := Lib.hid w1
  have HW2 := Lib.hid w2
  have HW3 := Lib.hid w3
  have HW4 := Lib.hid w4
  have HW5 := Lib.hid w5
  have HL1 := Lib.hid l1
  have HL2 := Lib.hid l2
  have HL3 := Lib.hid l3
  clear hGX hR5 hF hcs fL fT fE hxr w1 w2 w3 w4 w5 l1 l2 l3 HN HR4 HX4 HZ4
  obtain ⟨x0, x1, x2, x3, x4, x5, x6, x7, x8⟩ := insC_cells HX5.out
  obtain ⟨z0, z1, z2, z3, z4, z5, z6, z7, z8⟩ := insC_cells HZ5.out
  obtain ⟨zf0, zf1, zf2, zf3, zf4, zf5, zf6, zf7, zf8, zlt⟩ := insC_frozen HZ5.out
  have xlt := HX5.out.lt
  go_wp2_with fail
  change bodyPost _ _ _ Exit.ret _ (put9 W5 W.heap.size (.int .i64 x'.op) (.int .u8 x'.ty) (.int .u32 x'.a) (.int .u32 x'.b) (.int .u64 x'.bits) (.slice AL x'.list.length cL) (.slice AT x'.th.length cT) (.slice AE x'.el.length cE) (.bool x'.has))
  have hgF : Goes W (put9 W5 W.heap.size (.int .i64 x'.op) (.int .u8 x'.ty) (.int .u32 x'.a) (.int .u32 x'.b) (.int .u64 x'.bits) (.slice AL x'.list.length cL) (.slice AT x'.th.length cT) (.slice AE x'.el.length cE) (.bool x'.has)) p q B ra re := put9_goes HW.out HG5.out _ (Nat.le_refl _) _ _ _ _ _ _ _ _ _
  have hbF := put9_blk HZ5.out (.int .i64 x'.op) (.int .u8 x'.ty) (.int .u32 x'.a) (.int .u32 x'.b) (.int .u64 x'.bits) (.slice AL x'.list.length cL) (.slice AT x'.th.length cT) (.slice AE x'.el.length cE) (.bool x'.has)
  have HFL := Lib.hid (put9_FC HL.out W.heap.size (by simp; omega) (.int .i64 x'.op) (.int .u8 x'.ty) (.int .u32 x'.a) (.int .u32 x'.b) (.int .u64 x'.bits) (.slice AL x'.list.length cL) (.slice AT x'.th.length cT) (.slice AE x'.el.length cE) (.bool x'.has))
  have HFT := Lib.hid (put9_FC HT.out W.heap.size (by simp; omega) (.int .i64 x'.op) (.int .u8 x'.ty) (.int .u32 x'.a) (.int .u32 x'.b) (.int .u64 x'.bits) (.slice AL x'.list.length cL) (.slice AT x'.th.length cT) (.slice AE x'.el.length cE) (.bool x'.has))
  have HFE := Lib.hid (put9_FC HE.out W.heap.size (by simp; omega) (.int .i64 x'.op) (.int .u8 x'.ty) (.int .u32 x'.a) (.int .u32 x'.b) (.int .u64 x'.bits) (.slice AL x'.list.length cL) (.slice AT x'.th.length cT) (.slice AE x'.el.length cE) (.bool x'.has))
  generalize put9 W5 W.heap.size (.int .i64 x'.op) (.int .u8 x'.ty) (.int .u32 x'.a) (.int .u32 x'.b) (.int .u64 x'.bits) (.slice AL x'.list.length cL) (.slice AT x'.th.length cT) (.slice AE x'.el.length cE) (.bool x'.has) = V9 at *
  clear x0 x1 x2 x3 x4 x5 x6 x7 x8 z0 z1 z2 z3 z4 z5 z6 z7 z8 zf0 zf1 zf2 zf3 zf4 zf5 zf6 zf7 zf8 zlt
  obtain ⟨y0, y1, y2, y3, y4, y5, y6, y7, y8⟩ := insC_cells hbF
  have HGF := Lib.hid hgF
  refine bodyPost_ret (v := .agg (insC x'.op x'.ty x'.a x'.b x'.bits (.slice AL x'.list.length cL) (.slice AT x'.th.length cT) (.slice AE x'.el.length cE) x'.has)) (by simp [results, Tryz.results141, go_sem, y0, y1, y2, y3, y4, y5, y6, y7, y8, insC]) rfl ⟨x', AL, AT, AE, cL, cT, cE, rfl, ?_, HXR.out, HGF.out⟩
  exact ins_mkF HW1.out HW2.out HW3.out HW4.out HW5.out (HFL.out.mono fun k hk => Nat.le_trans (Nat.le_of_lt hW4) hk) (HFT.out.mono fun k hk => Nat.le_trans (Nat.le_of_lt hW4) hk) (HFE.out.mono fun k hk => Nat.le_trans (Nat.le_of_lt hW4) hk) HL1.out HL2.out HL3.out
theorem imm_big (n : Int) (h : 64512 ≤ n) : (immM n).1 = 0 := by
  unfold immM
  rw [if_neg (by omega), if_neg (by omega), if_neg (by omega), if_neg (by omega), if_neg (by omega), if_neg (by omega), if_neg (by omega), if_neg (by omega), if_neg (by omega), if_neg (by omega), if_neg (by omega), if_neg (by omega), if_neg (by omega)]
theorem op_imm {sat : Bool} {B : List Int} {a : Nat} {e : Int} (hB : Byts B) (h : ¬ (immM (peekM B a e).1).1 = 1) : ¬ (immM (opM sat B a e).1).1 = 1 ∧ 0 ≤ (opM sat B a e).1 ∧ (opM sat B a e).1 ≤ 5000000000 := by
  unfold opM
  split
  next hp =>
    split
    next h2 =>
      have hb := u32_bound B (a + 1) 0 hB
      have : (secondM B (a + 1) 0).1 = 64512 + (rdOf (u32M B (a + 1)) (a + 1) 0).1 := rfl
      rw [this]
      refine ⟨?_, by omega, by omega⟩
      rw [imm_big _ (by omega)]
      decide
    next h2 =>
      split
      next h3 =>
        refine ⟨h, ?_⟩
        obtain ⟨x, hx⟩ : ∃ x, peekM B a e = (x, 0) := ⟨(peekM B a e).1, by rw [← hp]⟩
        rw [hx]
        have := hB.get (peek_good hx).2
        simp only
        omega
      next h3 => exact ⟨by simp only; decide, by simp only; omega, by simp only; omega⟩
  next hp => exact ⟨by simp only; decide, by simp only; omega, by simp only; omega⟩
theorem instr_any (bk : Bool → Nat → Int → List Ins × Int × Nat × Int) (W : World) (R p q : Nat) (sat : Bool) (deep : Nat) (B : List Int) (a : Nat) (e : Int) (hR : Rp W R p sat deep) (hRp : R ≠ p) (hRq : R ≠ q) (hC : Cur W p q B a e) (hB : Byts B)
    (hbk : ∀ (W' : World) (m : Bool) (a' : Nat) (e' : Int), a + 1 ≤ a' ∨ ¬ e' = 0 → Rp W' R p sat (deep + 1 : Nat) → Cur W' p q B a' e' → Calls Tryz.prog 133 #[.pointer (some ⟨R, 0, none⟩), .bool m] W' (BlkPost W' p q B (bk m a' e')))
    (hge : BkGe bk) :
    Calls Tryz.prog 141 #[.pointer (some ⟨R, 0, none⟩)] W (InsPost W p q B (insM bk sat B deep a e)) := by
  obtain ⟨b, pe, hx⟩ : ∃ b pe, peekM B a e = (b, pe) := ⟨_, _, rfl⟩
  have hb : 0 ≤ b ∧ b ≤ 255 := by
    by_cases hp : pe = 0
    · rw [hp] at hx
      exact hB.get (peek_good hx).2
    · unfold peekM at hx
      by_cases he : e = 0
      · rw [if_pos he] at hx
        cases hy : B[a]? with
        | none => rw [hy] at hx; simp at hx; omega
        | some y => rw [hy] at hx; simp at hx; exact absurd hx.2.symm hp
      · rw [if_neg he] at hx; simp at hx; omega
  obtain ⟨iv, ib, hi⟩ : ∃ iv ib, immM b = (iv, ib) := ⟨_, _, rfl⟩
  by_cases h1 : iv = 1
  · subst h1
    have hp : pe = 0 := by
      by_cases hp : pe = 0
      · exact hp
      · unfold peekM at hx
        by_cases he : e = 0
        · rw [if_pos he] at hx
          cases hy : B[a]? with
          | none => rw [hy] at hx; simp at hx; rw [← hx.1] at hi; exact absurd (imm_one hi).1 (by omega)
          | some y => rw [hy] at hx; simp at hx; exact absurd hx.2.symm hp
        · rw [if_neg he] at hx; simp at hx; rw [← hx.1] at hi; exact absurd (imm_one hi).1 (by omega)
    subst hp
    obtain ⟨rfl, hxx⟩ := peek_good hx
    have hdE : deepE B deep a 0 = if 64 ≤ deep then 3 else 0 := by
      unfold deepE
      rw [hx]
      simp only [hi]
      by_cases hd : 64 ≤ deep
      · rw [if_pos ⟨trivial, hd, trivial⟩, if_pos hd]
      · rw [if_neg (fun h => hd h.2.1), if_neg hd]
    by_cases hd : 64 ≤ deep
    · rw [if_pos hd] at hdE
      have : insM bk sat B deep a 0 = (leafI 0, a, 3) := by
        unfold insM
        rw [hdE, op_three]
        rfl
      rw [this]
      exact instr_deep W R p q sat deep B a b ib hR hRp hC hB hxx hi hd
    · rw [if_neg hd] at hdE
      have : insM bk sat B deep a 0 = bodyM bk B b 1 (a + 1) := by
        unfold insM
        rw [hdE, op_one hxx hi]
        simp only [hi]
        rfl
      rw [this]
      exact instr_1 bk W R p q sat deep B a b ib hR hRp hRq hC hB hxx hi (by omega) hbk hge
  · have hdE : deepE B deep a e = pe := by
      unfold deepE
      rw [hx]
      simp only [hi]
      exact if_neg (fun h => h1 h.1)
    have hop := op_imm (sat := sat) (a := a) (e := pe) hB (by
      by_cases hp : pe = 0
      · subst hp
        have := peek_good hx
        have hx0 : peekM B a 0 = (b, 0) := by rw [this.1] at hx; exact hx
        rw [hx0, hi]
        exact h1
      · rw [show peekM B a pe = (0, pe) from by simp [peekM, hp]]
        rw [show (immM (0, pe).1).1 = 0 from rfl]
        decide)
    obtain ⟨opc, a1, e1, ho⟩ : ∃ opc a1 e1, opM sat B a pe = (opc, a1, e1) := ⟨_, _, _, rfl⟩
    obtain ⟨i, ib2, hi2⟩ : ∃ i ib2, immM opc = (i, ib2) := ⟨_, _, rfl⟩
    rw [ho] at hop
    simp only [hi2] at hop
    by_cases he1 : e1 = 0
    · subst he1
      have hg := op_ge hB (show (opM sat B a pe).2.2 = 0 from by rw [ho])
      have hp := hg.2.1
      subst hp
      obtain ⟨rfl, hxx⟩ := peek_good hx
      have : insM bk sat B deep a 0 = bodyM bk B opc i a1 := by
        unfold insM
        rw [hdE, ho]
        simp only [hi2]
        rfl
      rw [this]
      exact instr_n bk W R p q sat deep B a a1 b opc iv i ib ib2 hR hRp hC hB hxx hi (beq_eq_false_iff_ne.2 h1) ho hop.2 hi2 hop.1
    · have : insM bk sat B deep a e = (leafI 0, a1, e1) := by
        unfold insM
        rw [hdE, ho]
        exact if_neg he1
      rw [this]
      exact instr_bad W R p q sat deep B a a1 e b pe opc e1 iv i ib ib2 hR hRp hC hB hx hb hi (beq_eq_false_iff_ne.2 h1) ho (beq_eq_false_iff_ne.2 he1) hop.2 hi2 (leafI 0)
end Go.Proofs.YtofaiocffifhfaaGreat
end
section
namespace Go.Proofs.YtofaiocffifhfaaGreat
open Go.RowKit Go.Shelf YtofaiocffifhfaaGreatB Go.Proofs.YtofaiocffifhfaaGreatW.PrintWords
theorem infoI : (Tryz.prog.info? 153).map (fun i => (i.zero, i.size, i.bytes)) = some (some (.agg #[.int .i64 0, .int .u8 0, .int .u32 0, .int .u32 0, .int .u64 0, .slice none 0 0, .slice none 0 0, .slice none 0 0, .bool false]), 9, 112) := by kernel_rfl
/-- What is left of the input: none, once the cursor has failed. -/
def curMeas (W : World) (p len : Nat) : Nat := match W.cell? ⟨p, 2, none⟩, W.cell? ⟨p, 1, none⟩ with
  | some (.int _ e), some (.int _ n) => if e = 0 then len + 1 - n.toNat else 0
  | _, _ => 0
theorem curMeas_eq {W : World} {p q : Nat} {B : List Int} {a : Nat} {e : Int} (h : Cur W p q B a e) : curMeas W p B.length = if e = 0 then B.length + 1 - a else 0 := by
  obtain ⟨A, c, c0, c1, c2, _⟩ := h.cells
  unfold curMeas
  rw [c2, c1]
  simp only [Int.toNat_natCast]
theorem Own.goes {α : Type} {d : Kd α} {t : TypeId} {W W1 : World} {base : Nat} {ok : Nat → Prop} {v : Value} {xs : List α} {p q : Nat} {B : List Int} {a : Nat} {e : Int} (h : Own d t W base ok v xs) (hG : Goes W W1 p q B a e) (hp : p < base) (hok : ∀ k, ok k → base ≤ k) : Own d t W1 base ok v xs :=
  h.grown hG.2 (by
    cases hv : v.ownBlock with
    | none => exact .inl rfl
    | some k => right; intro e; injection e with e; have := (h.block hv).1; omega) (fun k hk e => by injection e with e; have := hok k hk; omega)
theorem Goes.alloc {W W1 : World} {p q : Nat} {B : List Int} {a : Nat} {e : Int} (h : Goes W W1 p q B a e) (o : Obj) : Goes W (W1.alloc o) p q B a e := ⟨h.1.alloc o, h.2.trans (World.grownBy_alloc W1 o _)⟩
def bkOf (sat : Bool) (B : List Int) (f deep : Nat) (m : Bool) (a : Nat) (e : Int) : List Ins × Int × Nat × Int := blkM sat B f deep m a e []
theorem blkM_bad {sat : Bool} {B : List Int} (f deep : Nat) (may : Bool) (a : Nat) (e : Int) (acc : List Ins) (he : ¬ e = 0) : blkM sat B f deep may a e acc = ([], 0, a, e) := by
  cases f with
  | zero => rfl
  | succ f => rw [blkM, if_neg he]
theorem blkM_next {sat : Bool} {B : List Int} {f deep : Nat} {may : Bool} {a : Nat} {b : Int} {acc : List Ins} (hx : B[a]? = some b) (h1 : ¬ b = 11) (h2 : ¬ b = 5) :
    blkM sat B (f + 1) deep may a 0 acc = (let r := insM (bkOf sat B f (deep + 1)) sat B deep a 0; if r.2.2 = 0 then blkM sat B f deep may r.2.1 0 (acc ++ [r.1]) else ([], 0, r.2.1, r.2.2)) := by
  rw [blkM, if_pos rfl, hx]
  simp only [if_neg h1, if_neg h2]
  rfl
set_option maxRecDepth 100000 in
set_option maxHeartbeats 8000000 in
theorem block_any (R p q : Nat) (sat : Bool) (B : List Int) (hRp : R ≠ p) (hRq : R ≠ q) (hB : Byts B) : ∀ (f deep : Nat) (may : Bool) (W : World) (a : Nat) (e : Int), Rp W R p sat deep → Cur W p q B a e → (e = 0 → B.length < a + f) →
    Calls Tryz.prog 133 #[.pointer (some ⟨R, 0, none⟩), .bool may] W (BlkPost W p q B (blkM sat B f deep may a e [])) := by
  intro f
  induction f using Nat.strongRecOn with
  | ind f ih =>
  intro deep may W a e hR hC hfu
  have IH := Lib.hid ih
  have HR := Lib.hid hR
  have HB := Lib.hid hB
  have HW := Lib.hid hC
  have hplt := hC.lt
  have hRlt := hR.lt
  have HFU := Lib.hid hfu
  clear ih hR hB hC hfu
  go_enter Tryz.func133, Tryz.ntmps133
  go_wp2_with fail
  go_loopw [4] (fun v wr => ∃ (a1 : Nat) (e1 : Int) (f1 : Nat) (xs : List Ins), Own kI 153 wr W.heap.size (fun k => W.heap.size ≤ k) v xs ∧ Goes W wr p q B a1 e1 ∧ Hid (f1 ≤ f ∧ (e1 = 0 → xs.length ≤ a1) ∧ (e1 = 0 → B.length < a1 + f1) ∧ blkM sat B f deep may a e [] = blkM sat B f1 deep may a1 e1 xs)) (fun _ wr => curMeas wr p B.length)
  case atStart => exact ⟨a, e, f, [], Own.nil, Goes.same HW.out, Lib.hid ⟨Nat.le_refl _, fun _ => Nat.zero_le _, HFU.out, rfl⟩⟩
  case round =>
    obtain ⟨a1, e1, f1, xs, hown, hGo, hst⟩ := hrel
    have hsz := hGo.2.size
    have HR1 := Lib.hid (HR.out.goes hRp hGo)
    obtain ⟨s0, s1, s2, sf, slt⟩ := HR1.out.cells
    have HGo := Lib.hid hGo
    have HO := Lib.hid hown
    clear hGo hown
    by_cases he : e1 = 0
    · subst he
      have hal := HGo.out.1.2.1
      have HGo := Lib.hid (show Goes W wr p q B a1 0 from HGo.out)
      have HPk := Lib.hid (peek_any wr R p q sat deep B a1 0 HR1.out hRp HGo.out.1 HB.out)
      obtain ⟨g, rfl⟩ : ∃ g, f1 = g + 1 := ⟨f1 - 1, by have := hst.out.2.2.1 rfl; omega⟩
      have hxl := hst.out.2.1 rfl
      have hff := hst.out.1
      have hfu := hst.out.2.2.1 rfl
      go_wp2_with fail
      refine (rgood_any _ _ _ _ _ _ _ _ _ true HR1.out HGo.out.1 rfl).mono ?_
      rintro E w' ⟨rfl, rfl⟩
      by_cases hbx : ∃ b, B[a1]? = some b
      · obtain ⟨b, hx⟩ := hbx
        have hbb := HB.out.get hx
        rw [show peekM B a1 0 = (b, 0) from by rw [peekM, if_pos rfl, hx]] at HPk
        have hx := Lib.hid hx
        go_wp2_with fail
        refine HPk.out.mono ?_
        rintro E W2 ⟨rfl, hG⟩
        have hG0 : Goes wr W2 p q B a1 0 := hG
        have HR2 := Lib.hid (HR1.out.goes hRp hG0)
        have HG2 := Lib.hid (HGo.out.trans hG0)
        have HO2 := Lib.hid (Own.goes HO.out hG0 hplt (fun k hk => hk))
        clear hG hG0 HPk s0 s1 s2 sf slt
        obtain ⟨s0, s1, s2, sf, slt⟩ := HR2.out.cells
        by_cases h11 : b = 11
        · subst h11
          have HBy := Lib.hid (fun X h => Byte_any X p q B a1 0 h HB.out)
          rw [show rdByte B a1 0 = (11, a1 + 1, 0) from by rw [rdByte, if_pos rfl, hx.out]] at HBy
          have HV := Lib.hid (show blkM sat B f deep may a e [] = (xs, 11, a1 + 1, 0) from by rw [hst.out.2.2.2, blkM, if_pos rfl, hx.out]; rfl)
          go_wp2_with fail
          refine (rgood_any _ _ _ _ _ _ _ _ _ true HR2.out HG2.out.1 rfl).mono ?_
          rintro E w' ⟨rfl, rfl⟩
          go_wp2_with fail
          refine (HBy.out _ HG2.out.1).mono ?_
          rintro E W3 ⟨rfl, hG⟩
          have hG0 : Goes W2 W3 p q B (a1 + 1) 0 := hG
          have HG3 := Lib.hid (HG2.out.trans hG0)
          have HO3 := Lib.hid (Own.goes HO2.out hG0 hplt (fun k hk => hk))
          clear hG hG0 HBy s0 s1 s2 sf slt HR2 HG2 HO2
          go_wp2_with fail
          obtain ⟨A, c, hu, hle, hF⟩ := HO3.out.reads
          subst hu
          go_ret2
          rw [HV.out]
          exact ⟨⟨A, c, rfl, hle, hF.mono (fun k hk => hk.elim id id)⟩, HG3.out⟩

        · by_cases h5 : b = 5
          · subst h5
            clear h11
            cases may with
            | true =>
              have HBy := Lib.hid (fun X h => Byte_any X p q B a1 0 h HB.out)
              rw [show rdByte B a1 0 = (5, a1 + 1, 0) from by rw [rdByte, if_pos rfl, hx.out]] at HBy
              have HV := Lib.hid (show blkM sat B f deep true a e [] = (xs, 5, a1 + 1, 0) from by rw [hst.out.2.2.2, blkM, if_pos rfl, hx.out]; rfl)
              go_wp2_with fail
              refine (HBy.out _ HG2.out.1).mono ?_
              rintro E W3 ⟨rfl, hG⟩
              have hG0 : Goes W2 W3 p q B (a1 + 1) 0 := hG
              have HG3 := Lib.hid (HG2.out.trans hG0)
              have HO3 := Lib.hid (Own.goes HO2.out hG0 hplt (fun k hk => hk))
              clear hG hG0 HBy s0 s1 s2 sf slt HR2 HG2 HO2
              go_wp2_with fail
              obtain ⟨A, c, hu, hle, hF⟩ := HO3.out.reads
              subst hu
              go_ret2
              rw [HV.out]
              exact ⟨⟨A, c, rfl, hle, hF.mono (fun k hk => hk.elim id id)⟩, HG3.out⟩

            | false =>
              have HV := Lib.hid (show blkM sat B f deep false a e [] = ([], 0, a1, 108) from by rw [hst.out.2.2.2, blkM, if_pos rfl, hx.out]; rfl)
              go_wp2_with fail
              refine (Fail_any _ p q B a1 0 108 HG2.out.1 rfl).mono ?_
              rintro E W3 ⟨rfl, hG⟩
              have hG0 : Goes W2 W3 p q B a1 108 := hG
              have HR4 := Lib.hid (HR2.out.goes hRp hG0)
              have HG4 := Lib.hid (HG2.out.trans hG0)
              have HO4 := Lib.hid (Own.goes HO2.out hG0 hplt (fun k hk => hk))
              clear hG hG0 s0 s1 s2 sf slt HR2 HG2 HO2
              have HR2 := HR4
              have HG2 := HG4
              have HO2 := HO4
              obtain ⟨s0, s1, s2, sf, slt⟩ := HR2.out.cells
              clear HR4 HG4 HO4
              have HI := Lib.hid (instr_bad W3 R p q sat deep B a1 a1 108 0 108 0 108 0 0 true true HR2.out hRp HG2.out.1 HB.out rfl (by omega) rfl rfl rfl rfl (by omega) rfl (leafI 0))
              go_wp2_with fail
              refine HI.out.mono ?_
              rintro E W3 ⟨x', AL, AT, AE, cL, cT, cE, rfl, hF, hxr, hG⟩
              have hG : Goes _ W3 p q B a1 108 := hG
              have HR3 := Lib.hid (HR2.out.goes hRp hG)
              have HG3 := Lib.hid (HG2.out.trans hG)
              have HO3 := Lib.hid (Own.goes HO2.out hG hplt (fun k hk => hk))
              have hbx := Blk.new W3 (#[.int .i64 x'.op, .int .u8 x'.ty, .int .u32 x'.a, .int .u32 x'.b, .int .u64 x'.bits, .slice AL x'.list.length cL, .slice AT x'.th.length cT, .slice AE x'.el.length cE, .bool x'.has]) 153
              have HRb := Lib.hid (show Rp (W3.alloc (.cells (#[.int .i64 x'.op, .int .u8 x'.ty, .int .u32 x'.a, .int .u32 x'.b, .int .u64 x'.bits, .slice AL x'.list.length cL, .slice AT x'.th.length cT, .slice AE x'.el.length cE, .bool x'.has]) 153)) R p sat deep from Blk.alloc HR3.out _)
              have HGb := Lib.hid (HG3.out.alloc (.cells (#[.int .i64 x'.op, .int .u8 x'.ty, .int .u32 x'.a, .int .u32 x'.b, .int .u64 x'.bits, .slice AL x'.list.length cL, .slice AT x'.th.length cT, .slice AE x'.el.length cE, .bool x'.has]) 153))
              have HOb := Lib.hid (Own.below HO3.out ((Below.refl W3.heap.size W3).alloc (Nat.le_refl _) (.cells (#[.int .i64 x'.op, .int .u8 x'.ty, .int .u32 x'.a, .int .u32 x'.b, .int .u64 x'.bits, .slice AL x'.list.length cL, .slice AT x'.th.length cT, .slice AE x'.el.length cE, .bool x'.has]) 153)))
              have HFb := Lib.hid (Ft.below hF ((Below.refl W3.heap.size W3).alloc (Nat.le_refl _) (.cells (#[.int .i64 x'.op, .int .u8 x'.ty, .int .u32 x'.a, .int .u32 x'.b, .int .u64 x'.bits, .slice AL x'.list.length cL, .slice AT x'.th.length cT, .slice AE x'.el.length cE, .bool x'.has]) 153)))
              clear hF hG HR3 HG3 HO3 s0 s1 s2 sf slt HR2 HG2
              simp only [insC]
              clear HI hxr
              have HRE := Lib.hid (show ((108 : Int) == 0) = false from rfl)
              have HRN := Lib.hid (show ¬ (108 : Int) = 0 from by decide)
              go_wp2_with fail
              refine (rgood_any _ _ _ _ _ _ _ _ _ false HRb.out HGb.out.1 HRE.out).mono ?_
              rintro E w' ⟨rfl, rfl⟩
              go_wp2_with fail
              go_roundw
              case rel => exact ⟨a1, 108, 0, xs, HOb.out, HGb.out, Lib.hid ⟨Nat.zero_le _, fun h => absurd h HRN.out, fun h => absurd h HRN.out, by rw [HV.out, blkM_bad _ _ _ _ _ _ HRN.out]⟩⟩
              case measure =>
                rw [curMeas_eq HGb.out.1, curMeas_eq HGo.out.1, if_neg HRN.out, if_pos rfl]
                omega
          · have h11b : (b == 11) = false := beq_eq_false_iff_ne.2 h11
            have h5b : (b == 5) = false := beq_eq_false_iff_ne.2 h5
            have HVn := Lib.hid (show blkM sat B f deep may a e [] = (let r := insM (bkOf sat B g (deep + 1)) sat B deep a1 0; if r.2.2 = 0 then blkM sat B g deep may r.2.1 0 (xs ++ [r.1]) else ([], 0, r.2.1, r.2.2)) from by rw [hst.out.2.2.2]; exact blkM_next hx.out h11 h5)
            have HI := Lib.hid (instr_any (bkOf sat B g (deep + 1)) W2 R p q sat deep B a1 0 HR2.out hRp hRq HG2.out.1 HB.out (fun W' m a' e' hh hr hc => IH.out g (by omega) (deep + 1) m W' a' e' hr hc (fun he => by omega)) (fun m a e h => blk_ge HB.out g (deep + 1) m a e [] h))
            have HGE := Lib.hid (fun h => ins_ge (bk := bkOf sat B g (deep + 1)) (sat := sat) (B := B) (deep := deep) (a := a1) (e := 0) HB.out (fun m a e h => blk_ge HB.out g (deep + 1) m a e [] h) h)
            generalize insM (bkOf sat B g (deep + 1)) sat B deep a1 0 = r at *
            obtain ⟨rx, ra, re⟩ := r
            simp only at HVn HGE
            clear h11 h5
            go_wp2_with fail
            refine HI.out.mono ?_
            rintro E W3 ⟨x', AL, AT, AE, cL, cT, cE, rfl, hF, hxr, hG⟩
            have hG : Goes W2 W3 p q B ra re := hG
            have hxr : re = 0 → x' = rx := hxr
            have HW2s := Lib.hid HG2.out.2.size
            have HR3 := Lib.hid (HR2.out.goes hRp hG)
            have HG3 := Lib.hid (HG2.out.trans hG)
            have HO3 := Lib.hid (Own.goes HO2.out hG hplt (fun k hk => hk))
            have hbx := Blk.new W3 (#[.int .i64 x'.op, .int .u8 x'.ty, .int .u32 x'.a, .int .u32 x'.b, .int .u64 x'.bits, .slice AL x'.list.length cL, .slice AT x'.th.length cT, .slice AE x'.el.length cE, .bool x'.has]) 153
            have HRb := Lib.hid (show Rp (W3.alloc (.cells (#[.int .i64 x'.op, .int .u8 x'.ty, .int .u32 x'.a, .int .u32 x'.b, .int .u64 x'.bits, .slice AL x'.list.length cL, .slice AT x'.th.length cT, .slice AE x'.el.length cE, .bool x'.has]) 153)) R p sat deep from Blk.alloc HR3.out _)
            have HGb := Lib.hid (HG3.out.alloc (.cells (#[.int .i64 x'.op, .int .u8 x'.ty, .int .u32 x'.a, .int .u32 x'.b, .int .u64 x'.bits, .slice AL x'.list.length cL, .slice AT x'.th.length cT, .slice AE x'.el.length cE, .bool x'.has]) 153))
            have HOb := Lib.hid (Own.below HO3.out ((Below.refl W3.heap.size W3).alloc (Nat.le_refl _) (.cells (#[.int .i64 x'.op, .int .u8 x'.ty, .int .u32 x'.a, .int .u32 x'.b, .int .u64 x'.bits, .slice AL x'.list.length cL, .slice AT x'.th.length cT, .slice AE x'.el.length cE, .bool x'.has]) 153)))
            have HFb := Lib.hid (Ft.below hF ((Below.refl W3.heap.size W3).alloc (Nat.le_refl _) (.cells (#[.int .i64 x'.op, .int .u8 x'.ty, .int .u32 x'.a, .int .u32 x'.b, .int .u64 x'.bits, .slice AL x'.list.length cL, .slice AT x'.th.length cT, .slice AE x'.el.length cE, .bool x'.has]) 153)))
            clear hF hG HR3 HG3 HO3 s0 s1 s2 sf slt HR2 HG2
            simp only [insC]
            clear HI
            by_cases hre : re = 0
            · subst hre
              obtain rfl := hxr rfl
              have hra := HGE.out rfl
              have HV := Lib.hid (show blkM sat B f deep may a e [] = blkM sat B g deep may ra 0 (xs ++ [x']) from by rw [HVn.out]; exact if_pos rfl)
              have hral := HGb.out.1.2.1
              have hBl := HB.out.1
              obtain ⟨e0, e1, e2, e3, e4, e5, e6, e7, e8⟩ := insC_cells hbx
              have hgs := HGb.out.2.size
              have HFK := Lib.hid (show FK kI (W3.alloc (.cells (#[.int .i64 x'.op, .int .u8 x'.ty, .int .u32 x'.a, .int .u32 x'.b, .int .u64 x'.bits, .slice AL x'.list.length cL, .slice AT x'.th.length cT, .slice AE x'.el.length cE, .bool x'.has]) 153)) (fun k => (fun k => W.heap.size ≤ k) k ∧ some k ≠ u4.ownBlock) x' [.int .i64 x'.op, .int .u8 x'.ty, .int .u32 x'.a, .int .u32 x'.b, .int .u64 x'.bits, .slice AL x'.list.length cL, .slice AT x'.th.length cT, .slice AE x'.el.length cE, .bool x'.has] from HFb.out.mono (fun k hk => ⟨Nat.le_trans HW2s.out hk, fun e => by have := (HO2.out.block e.symm).2; omega⟩))
              clear hbx
              go_wp2_with fail
              refine (rgood_any _ _ _ _ _ _ _ _ _ true HRb.out HGb.out.1 rfl).mono ?_
              rintro E w' ⟨rfl, rfl⟩
              go_wp2_with (at_builtin; go_loud (refine Own.append (d := kI) W.heap.size rfl (.tmp 42) (.tmp 44) 73 153 _ 112 rfl Tryz.underlying73 infoI rfl (by decide) (by decide) u4 xs x' _ (fun k => W.heap.size ≤ k) rfl (by rw [World.size_alloc]; rfl) HFK.out HOb.out hgs (by omega) ?_; intro v1 w1 hown1 hg1 hat1))
              have HO4 := Lib.hid hown1
              have HG4 := Lib.hid (show Goes W w1 p q B ra 0 from lab_goes HW.out HGb.out hg1 (fun k hk => (HOb.out.block hk).1))
              clear hown1 hg1 hat1
              go_wp2_with fail
              go_roundw
              case rel => exact ⟨ra, 0, g, xs ++ [x'], HO4.out, HG4.out, Lib.hid ⟨by omega, fun _ => by rw [List.length_append]; simp; omega, fun _ => by omega, HV.out⟩⟩
              case measure =>
                rw [curMeas_eq HG4.out.1, curMeas_eq HGo.out.1, if_pos rfl, if_pos rfl]
                omega
            · have HV := Lib.hid (show blkM sat B f deep may a e [] = ([], 0, ra, re) from by rw [HVn.out]; exact if_neg hre)
              have HRE := Lib.hid (beq_eq_false_iff_ne.2 hre)
              have HRN := Lib.hid hre
              clear hre hxr
              go_wp2_with fail
              refine (rgood_any _ _ _ _ _ _ _ _ _ false HRb.out HGb.out.1 HRE.out).mono ?_
              rintro E w' ⟨rfl, rfl⟩
              go_wp2_with fail
              go_roundw
              case rel => exact ⟨ra, re, 0, xs, HOb.out, HGb.out, Lib.hid ⟨Nat.zero_le _, fun h => absurd h HRN.out, fun h => absurd h HRN.out, by rw [HV.out, blkM_bad _ _ _ _ _ _ HRN.out]⟩⟩
              case measure =>
                rw [curMeas_eq HGb.out.1, curMeas_eq HGo.out.1, if_neg HRN.out, if_pos rfl]
                omega
      · have hx : B[a1]? = none := by
          cases h : B[a1]? with
          | none => rfl
          | some b => exact absurd ⟨b, h⟩ hbx
        clear hbx
        rw [show peekM B a1 0 = (0, 100) from by rw [peekM, if_pos rfl, hx]] at HPk
        have HV := Lib.hid (show blkM sat B f deep may a e [] = ([], 0, a1, 100) from by rw [hst.out.2.2.2, blkM, if_pos rfl, hx])
        clear hx
        go_wp2_with fail
        refine HPk.out.mono ?_
        rintro E W2 ⟨rfl, hG⟩
        have hG0 : Goes wr W2 p q B a1 100 := hG
        have HR2 := Lib.hid (HR1.out.goes hRp hG0)
        have HG2 := Lib.hid (HGo.out.trans hG0)
        have HO2 := Lib.hid (Own.goes HO.out hG0 hplt (fun k hk => hk))
        clear hG hG0 HPk s0 s1 s2 sf slt
        obtain ⟨s0, s1, s2, sf, slt⟩ := HR2.out.cells
        have HI := Lib.hid (instr_bad W2 R p q sat deep B a1 a1 100 0 100 0 100 0 0 true true HR2.out hRp HG2.out.1 HB.out rfl (by omega) rfl rfl rfl rfl (by omega) rfl (leafI 0))
        go_wp2_with fail
        refine HI.out.mono ?_
        rintro E W3 ⟨x', AL, AT, AE, cL, cT, cE, rfl, hF, hxr, hG⟩
        have hG : Goes W2 W3 p q B a1 100 := hG
        have HR3 := Lib.hid (HR2.out.goes hRp hG)
        have HG3 := Lib.hid (HG2.out.trans hG)
        have HO3 := Lib.hid (Own.goes HO2.out hG hplt (fun k hk => hk))
        have hbx := Blk.new W3 (#[.int .i64 x'.op, .int .u8 x'.ty, .int .u32 x'.a, .int .u32 x'.b, .int .u64 x'.bits, .slice AL x'.list.length cL, .slice AT x'.th.length cT, .slice AE x'.el.length cE, .bool x'.has]) 153
        have HRb := Lib.hid (show Rp (W3.alloc (.cells (#[.int .i64 x'.op, .int .u8 x'.ty, .int .u32 x'.a, .int .u32 x'.b, .int .u64 x'.bits, .slice AL x'.list.length cL, .slice AT x'.th.length cT, .slice AE x'.el.length cE, .bool x'.has]) 153)) R p sat deep from Blk.alloc HR3.out _)
        have HGb := Lib.hid (HG3.out.alloc (.cells (#[.int .i64 x'.op, .int .u8 x'.ty, .int .u32 x'.a, .int .u32 x'.b, .int .u64 x'.bits, .slice AL x'.list.length cL, .slice AT x'.th.length cT, .slice AE x'.el.length cE, .bool x'.has]) 153))
        have HOb := Lib.hid (Own.below HO3.out ((Below.refl W3.heap.size W3).alloc (Nat.le_refl _) (.cells (#[.int .i64 x'.op, .int .u8 x'.ty, .int .u32 x'.a, .int .u32 x'.b, .int .u64 x'.bits, .slice AL x'.list.length cL, .slice AT x'.th.length cT, .slice AE x'.el.length cE, .bool x'.has]) 153)))
        have HFb := Lib.hid (Ft.below hF ((Below.refl W3.heap.size W3).alloc (Nat.le_refl _) (.cells (#[.int .i64 x'.op, .int .u8 x'.ty, .int .u32 x'.a, .int .u32 x'.b, .int .u64 x'.bits, .slice AL x'.list.length cL, .slice AT x'.th.length cT, .slice AE x'.el.length cE, .bool x'.has]) 153)))
        clear hF hG HR3 HG3 HO3 s0 s1 s2 sf slt HR2 HG2
        simp only [insC]
        clear HI hxr
        have HRE := Lib.hid (show ((100 : Int) == 0) = false from rfl)
        have HRN := Lib.hid (show ¬ (100 : Int) = 0 from by decide)
        go_wp2_with fail
        refine (rgood_any _ _ _ _ _ _ _ _ _ false HRb.out HGb.out.1 HRE.out).mono ?_
        rintro E w' ⟨rfl, rfl⟩
        go_wp2_with fail
        go_roundw
        case rel => exact ⟨a1, 100, 0, xs, HOb.out, HGb.out, Lib.hid ⟨Nat.zero_le _, fun h => absurd h HRN.out, fun h => absurd h HRN.out, by rw [HV.out, blkM_bad _ _ _ _ _ _ HRN.out]⟩⟩
        case measure =>
          rw [curMeas_eq HGb.out.1, curMeas_eq HGo.out.1, if_neg HRN.out, if_pos rfl]
          omega
    · have HV := Lib.hid (show blkM sat B f deep may a e [] = ([], 0, a1, e1) from by rw [hst.out.2.2.2]; exact blkM_bad _ _ _ _ _ _ he)
      have he2 := Lib.hid (beq_eq_false_iff_ne.2 he)
      clear he
      go_wp2_with fail
      refine (rgood_any _ _ _ _ _ _ _ _ _ false HR1.out HGo.out.1 he2.out).mono ?_
      rintro E w' ⟨rfl, rfl⟩
      go_wp2_with fail
      go_ret2
      rw [HV.out]
      exact ⟨⟨none, 0, rfl, Nat.le_refl _, FC.nil⟩, HGo.out⟩
end Go.Proofs.YtofaiocffifhfaaGreat
end
section
namespace Go.Proofs.YtofaiocffifhfaaGreat
open Go.RowKit Go.Shelf YtofaiocffifhfaaGreatB Go.Proofs.YtofaiocffifhfaaGreatW.PrintWords
theorem Cur.anyq {W : World} {p q q' : Nat} {a : Nat} {e : Int} (h : Cur W p q [] a e) (hq : p ≠ q') : Cur W p q' [] a e := by
  obtain ⟨_, h1, A, c, h2, h3, h4⟩ := h
  exact ⟨hq, h1, A, c, h2, h3, fun h => absurd h (by simp)⟩
def exprM (sat : Bool) (B : List Int) (a : Nat) (e : Int) : List Ins × Nat × Int :=
  let r := blkM sat B (B.length + 1) 0 false a e []
  (if r.2.2.2 = 0 then r.1 else [], r.2.2.1, r.2.2.2)
def ExprPost (W : World) (p q : Nat) (B : List Int) (r : List Ins × Nat × Int) (E : Ending) (w' : World) : Prop :=
  (∃ A c, E = .returned (.slice A r.1.length c) ∧ r.1.length ≤ c ∧ FC kI w' (fun k => W.heap.size ≤ k) A r.1) ∧ Goes W w' p q B r.2.1 r.2.2
set_option maxRecDepth 100000 in
set_option maxHeartbeats 1000000 in
theorem Expr_q (W : World) (p q : Nat) (sat : Bool) (B : List Int) (a : Nat) (e : Int) (hC : Cur W p q B a e) (hq : q ≠ W.heap.size) (hB : Byts B) :
    Calls Tryz.prog 123 #[.pointer (some ⟨p, 0, none⟩), .bool sat] W (ExprPost W p q B (exprM sat B a e)) := by
  have hplt := hC.lt
  have HBK := Lib.hid (block_any W.heap.size p q sat B (by omega) (by omega) hB (B.length + 1) 0 false (W.alloc (.cells #[.pointer (some ⟨p, 0, none⟩), .bool sat, .int .i64 0] 218)) a e (Blk.new W _ _) (hC.alloc _) (fun _ => by omega))
  have HV := Lib.hid (show exprM sat B a e = (let r := blkM sat B (B.length + 1) 0 false a e []; (if r.2.2.2 = 0 then r.1 else [], r.2.2.1, r.2.2.2)) from rfl)
  generalize blkM sat B (B.length + 1) 0 false a e [] = r at *
  obtain ⟨l, en, a1, e1⟩ := r
  simp only at HV
  have HR := Lib.hid (show Rp (W.alloc (.cells #[.pointer (some ⟨p, 0, none⟩), .bool sat, .int .i64 0] 218)) W.heap.size p sat 0 from Blk.new W _ _)
  clear hC hB
  go_enter Tryz.func123, Tryz.ntmps123
  go_wp2_with fail
  refine HBK.out.mono ?_
  rintro E W1 ⟨⟨A, c, rfl, hl, hF⟩, hG⟩
  have hG0 : Goes (W.alloc (.cells #[.pointer (some ⟨p, 0, none⟩), .bool sat, .int .i64 0] 218)) W1 p q B a1 e1 := hG
  have HR1 := Lib.hid (HR.out.goes (by omega) hG0)
  have HG1 := Lib.hid (Goes.of_alloc hG0)
  have HF := Lib.hid (hF.mono (ok' := fun k => W.heap.size ≤ k) (fun k hk => by simp at hk; omega))
  clear hG hG0 hF HR HBK
  by_cases he : e1 = 0
  · subst he
    go_wp2_with fail
    refine (rgood_any _ _ _ _ _ _ _ _ _ true HR1.out HG1.out.1 rfl).mono ?_
    rintro E w' ⟨rfl, rfl⟩
    go_wp2_with fail
    go_ret
    rw [HV.out, if_pos trivial]
    exact ⟨⟨A, c, rfl, hl, HF.out⟩, HG1.out⟩
  · have he2 := Lib.hid (beq_eq_false_iff_ne.2 he)
    rw [if_neg he] at HV
    clear he
    go_wp2_with fail
    refine (rgood_any _ _ _ _ _ _ _ _ _ false HR1.out HG1.out.1 he2.out).mono ?_
    rintro E w' ⟨rfl, rfl⟩
    go_wp2_with fail
    go_ret
    rw [HV.out]
    exact ⟨⟨none, 0, rfl, Nat.le_refl _, FC.nil⟩, HG1.out⟩
theorem Expr_any (W : World) (p q : Nat) (sat : Bool) (B : List Int) (a : Nat) (e : Int) (hC : Cur W p q B a e) (hB : Byts B) :
    Calls Tryz.prog 123 #[.pointer (some ⟨p, 0, none⟩), .bool sat] W (ExprPost W p q B (exprM sat B a e)) := by
  rcases hC.qlt with h | h
  · subst h
    have hplt := hC.lt
    refine (Expr_q W p (W.heap.size + 1) sat [] a e (hC.anyq (by omega)) (by omega) hB).mono ?_
    rintro E w' ⟨h1, h2, h3⟩
    exact ⟨h1, h2.anyq hC.1, h3⟩
  · exact Expr_q W p q sat B a e hC (by omega) hB
set_option maxRecDepth 100000 in
theorem Expr_nil (W : World) (sat : Bool) :
    Calls Tryz.prog 123 #[.pointer none, .bool sat] W fun E w' => E = .returned (.slice none 0 0) ∧ W = w' := by
  go_enter Tryz.func123, Tryz.ntmps123
  go_wp2_with fail
  go_ret
  exact ⟨rfl, rfl⟩
end Go.Proofs.YtofaiocffifhfaaGreat
end
section
namespace Go.Proofs.YtofaiocffifhfaaGreat
open Go.RowKit Go.Shelf YtofaiocffifhfaaGreatB Go.Proofs.YtofaiocffifhfaaGreatW.PrintWords
/-- The reference's reader of code. -/
def Rq (W : World) (R p : Nat) (sat : Bool) : Prop := Blk W R #[.pointer (some ⟨p, 0, none⟩), .bool sat] 186
theorem Rq.cells {W : World} {R p : Nat} {sat : Bool} (h : Rq W R p sat) : W.cell? ⟨R, 0, none⟩ = some (.pointer (some ⟨p, 0, none⟩)) ∧ W.cell? ⟨R, 1, none⟩ = some (.bool sat) ∧ R < W.heap.size :=
  ⟨by rw [Blk.cell h]; rfl, by rw [Blk.cell h]; rfl, Blk.lt h⟩
theorem Rq.goes {W W' : World} {R p q : Nat} {sat : Bool} {B : List Int} {a : Nat} {e : Int} (h : Rq W R p sat) (hR : R ≠ p) (hG : GoesR W W' p q B a e) : Rq W' R p sat := Blk.grown h hG.2 (by simpa using hR)
def nextV (B : List Int) (a : Nat) (e : Int) : Int := if (peekM B a e).2 = 0 then (peekM B a e).1 else -1
set_option maxRecDepth 100000 in
set_option maxHeartbeats 1000000 in
theorem rnext_any (W : World) (R p q : Nat) (sat : Bool) (B : List Int) (a : Nat) (e : Int) (hR : Rq W R p sat) (hC : Rdr W p q B a e) (hB : Byts B) :
    Calls Tryz.prog 117 #[.pointer (some ⟨R, 0, none⟩)] W fun E w' => E = .returned (.int .i64 (nextV B a e)) ∧ GoesR W w' p q B a (peekM B a e).2 := by
  have hl := hB.1
  have HC := Lib.hid hC
  obtain ⟨A, c, c0, c1, c2, f0, f1, f2, hle, hq, hlt, ha⟩ := hC.cells
  obtain ⟨s0, s1, slt⟩ := hR.cells
  by_cases he : e = 0
  · subst he
    rcases Nat.lt_or_ge a B.length with hlt2 | hge
    · obtain ⟨o, x, rfl, hx, hc⟩ := hq.at_ a hlt2
      have hxb := hB.get hx.out
      have HV := Lib.hid (show nextV B a 0 = x ∧ (peekM B a 0).2 = 0 from by simp [nextV, peekM, hx.out])
      have hlt3 : decide ((B.length : Int) ≤ (a : Int)) = false := decide_eq_false (by omega)
      obtain ⟨hx0, hx1⟩ := hxb
      clear hC hB hq hx hR
      go_enter Tryz.func117, Tryz.ntmps117
      go_wp2_with fail
      go_quiet (fail)
      go_wp2_with fail
      go_quiet (fail)
      go_wp2_with fail
      go_ret
      rw [HV.out.1, HV.out.2]
      exact ⟨rfl, GoesR.trans (GoesR.drewN HC.out _) (GoesR.drewN (GoesR.drewN HC.out _).1 _)⟩
    · obtain rfl : a = B.length := by omega
      have HV := Lib.hid (show nextV B B.length 0 = -1 ∧ (peekM B B.length 0).2 = 100 from by simp [nextV, peekM])
      have HF := Lib.hid (fun X h => rFail_any X p q B B.length 0 100 h)
      rw [show failE 0 100 = 100 from rfl] at HF
      have hlt3 : decide ((B.length : Int) ≤ (B.length : Int)) = true := decide_eq_true (Int.le_refl _)
      clear hC hB hq hR
      go_enter Tryz.func117, Tryz.ntmps117
      go_wp2_with fail
      go_quiet (fail)
      go_wp2_with fail
      refine (HF.out _ (GoesR.drewN HC.out _).1).mono ?_
      rintro E W2 ⟨rfl, hG⟩
      have HG := Lib.hid (GoesR.trans (GoesR.drewN HC.out _) hG)
      clear hG
      go_wp2_with fail
      go_ret
      rw [HV.out.1, HV.out.2]
      exact ⟨rfl, HG.out⟩
  · have he2 : (e != 0) = true := by simp; exact he
    have HV := Lib.hid (show nextV B a e = -1 ∧ (peekM B a e).2 = e from by simp [nextV, peekM, he])
    clear hC hB hq he hR
    go_enter Tryz.func117, Tryz.ntmps117
    go_wp2_with fail
    go_ret
    rw [HV.out.1, HV.out.2]
    exact ⟨rfl, GoesR.same HC.out⟩
set_option maxRecDepth 100000 in
set_option maxHeartbeats 1000000 in
theorem rzero_any (W : World) (R p q : Nat) (sat : Bool) (B : List Int) (a : Nat) (e : Int) (hR : Rq W R p sat) (hRp : R ≠ p) (hC : Rdr W p q B a e) (hB : Byts B) :
    Calls Tryz.prog 128 #[.pointer (some ⟨R, 0, none⟩)] W fun E w' => E = .returned (.tuple #[]) ∧ GoesR W w' p q B (zeroM B a e).1 (zeroM B a e).2 := by
  have HC := Lib.hid hC
  obtain ⟨A, c, c0, c1, c2, f0, f1, f2, hle, hq, hlt, ha⟩ := hC.cells
  obtain ⟨s0, s1, slt⟩ := hR.cells
  have H := Lib.hid (rByte_any W p q B a e hC hB)
  have HR := Lib.hid hR
  by_cases he : e = 0
  · subst he
    by_cases hx : ∃ x, B[a]? = some x ∧ ¬ x = 0
    · obtain ⟨x, hx, hx0⟩ := hx
      have HV := Lib.hid (show zeroM B a 0 = (a + 1, 107) from by simp [zeroM, hx, hx0])
      rw [show rdByte B a 0 = (x, a + 1, 0) from by simp [rdByte, hx]] at H
      have hxb : (x != 0) = true := by simp; exact hx0
      clear hC hB hR hx hx0 hq
      go_enter Tryz.func128, Tryz.ntmps128
      go_wp2_with fail
      refine H.out.mono ?_
      rintro E W1 ⟨rfl, hG⟩
      have HG := Lib.hid (show GoesR W W1 p q B (a + 1) 0 from hG)
      have HR1 := Lib.hid (HR.out.goes hRp HG.out)
      clear hG s0 s1 slt
      obtain ⟨s0, s1, slt⟩ := HR1.out.cells
      go_wp2_with fail
      refine (rFail_any W1 p q B (a + 1) 0 107 HG.out.1).mono ?_
      rintro E W2 ⟨rfl, hG⟩
      have HG2 := Lib.hid (HG.out.trans hG)
      clear hG
      go_wp2_with fail
      go_end0
      rw [HV.out]
      exact ⟨rfl, HG2.out⟩
    · have HV := Lib.hid (show (rdByte B a 0).1 = 0 ∧ zeroM B a 0 = (rdByte B a 0).2 from by
        unfold rdByte zeroM
        simp only [if_true]
        cases hb : B[a]? with
        | none => exact ⟨rfl, rfl⟩
        | some x =>
          have h0 : x = 0 := Classical.byContradiction fun h => hx ⟨x, hb, h⟩
          subst h0
          exact ⟨rfl, rfl⟩)
      generalize rdByte B a 0 = t at *
      obtain ⟨v, a', e'⟩ := t
      obtain ⟨h1, h2⟩ := HV.out
      simp only at h1
      subst h1
      have H2 := Lib.hid h2
      clear hC hB hR hx h2 HV hq
      go_enter Tryz.func128, Tryz.ntmps128
      go_wp2_with fail
      refine H.out.mono ?_
      rintro E W1 ⟨rfl, hG⟩
      have HG := Lib.hid (show GoesR W W1 p q B a' e' from hG)
      clear hG
      go_wp2_with fail
      go_end0
      rw [H2.out]
      exact ⟨rfl, HG.out⟩
  · have he2 : (e == 0) = false := by simpa using he
    have HV := Lib.hid (show zeroM B a e = (a, e) from by simp [zeroM, he])
    clear hC hB hR he hq H
    go_enter Tryz.func128, Tryz.ntmps128
    go_wp2_with fail
    go_end0
    rw [HV.out]
    exact ⟨rfl, GoesR.same HC.out⟩
end Go.Proofs.YtofaiocffifhfaaGreat
end
section
namespace Go.Proofs.YtofaiocffifhfaaGreat
open Go.RowKit Go.Shelf YtofaiocffifhfaaGreatB Go.Proofs.YtofaiocffifhfaaGreatW.PrintWords
def ropV (o : Int × Nat × Int) : Int := if o.2.2 = 0 then o.1 else -1
def ROpPost (W : World) (p q : Nat) (B : List Int) (o : Int × Nat × Int) (E : Ending) (w' : World) : Prop := E = .returned (.int .i64 (ropV o)) ∧ GoesR W w' p q B o.2.1 o.2.2
set_option maxRecDepth 100000 in
set_option maxHeartbeats 2000000 in
theorem rop_second (W : World) (R p q : Nat) (B : List Int) (a : Nat) (hR : Rq W R p true) (hRp : R ≠ p) (hC : Rdr W p q B a 0) (hB : Byts B) (hx : B[a]? = some 252) :
    Calls Tryz.prog 125 #[.pointer (some ⟨R, 0, none⟩)] W (ROpPost W p q B (secondM B (a + 1) 0)) := by
  have HN := Lib.hid (rnext_any W R p q true B a 0 hR hC hB)
  rw [show nextV B a 0 = 252 from by simp [nextV, peekM, hx], show (peekM B a 0).2 = 0 from by simp [peekM, hx]] at HN
  have HBy := Lib.hid (fun X h => rByte_any X p q B a 0 h hB)
  rw [show rdByte B a 0 = (252, a + 1, 0) from by simp [rdByte, hx]] at HBy
  have HU := Lib.hid (fun X h => rdUint_any X p q B (a + 1) 32 0 h hB (by omega) (by omega))
  have hb := u32_bound B (a + 1) 0 hB
  have HV := Lib.hid (show secondM B (a + 1) 0 = (64512 + (rdOf (uintM B (a + 1) 32) (a + 1) 0).1, (rdOf (uintM B (a + 1) 32) (a + 1) 0).2.1, if (rdOf (uintM B (a + 1) 32) (a + 1) 0).1 > 7 then failE (rdOf (uintM B (a + 1) 32) (a + 1) 0).2.2 108 else (rdOf (uintM B (a + 1) 32) (a + 1) 0).2.2) from rfl)
  have hb : 0 ≤ (rdOf (uintM B (a + 1) 32) (a + 1) 0).1 ∧ (rdOf (uintM B (a + 1) 32) (a + 1) 0).1 ≤ 4294967295 := hb
  generalize rdOf (uintM B (a + 1) 32) (a + 1) 0 = t at *
  obtain ⟨n, a1, e1⟩ := t
  obtain ⟨hb0, hb1⟩ := hb
  simp only at hb0 hb1 HV
  have HR := Lib.hid hR
  clear hR hC hB hx
  have HF := Lib.hid (fun X h => rFail_any X p q B a1 e1 108 h)
  by_cases h7 : n > 7
  · have h7d : decide ((7 : Int) < n) = true := decide_eq_true h7
    rw [if_pos h7] at HV
    have hfe : ¬ failE e1 108 = 0 := by
      unfold failE
      by_cases h : e1 = 0
      · rw [if_pos h]; decide
      · rw [if_neg h]; exact h
    generalize failE e1 108 = e2 at *
    have he2 : (e2 != 0) = true := by simpa using hfe
    have HP := Lib.hid (show ropV (64512 + n, a1, e2) = -1 from if_neg hfe)
    clear hfe h7
    go_enter Tryz.func125, Tryz.ntmps125
    go_wp2_with fail
    refine HN.out.mono ?_
    rintro E W1 ⟨rfl, hG⟩
    have HG1 := Lib.hid hG
    have HR1 := Lib.hid (HR.out.goes hRp hG)
    clear hG HR
    obtain ⟨s0, s1, slt⟩ := HR1.out.cells
    go_wp2_with fail
    refine (HBy.out _ HG1.out.1).mono ?_
    rintro E W2 ⟨rfl, hG⟩
    have hG : GoesR W1 W2 p q B (a + 1) 0 := hG
    have HG2 := Lib.hid (HG1.out.trans hG)
    have HR2 := Lib.hid (HR1.out.goes hRp hG)
    clear hG HR1 HG1 s0 s1 slt
    obtain ⟨s0, s1, slt⟩ := HR2.out.cells
    go_wp2_with fail
    refine (HU.out _ HG2.out.1).mono ?_
    rintro E W3 ⟨rfl, hG⟩
    have hG : GoesR W2 W3 p q B a1 e1 := hG
    have HG3 := Lib.hid (HG2.out.trans hG)
    have HR3 := Lib.hid (HR2.out.goes hRp hG)
    clear hG HR2 HG2 s0 s1 slt
    obtain ⟨s0, s1, slt⟩ := HR3.out.cells
    go_wp2_with fail
    refine (HF.out _ HG3.out.1).mono ?_
    rintro E W4 ⟨rfl, hG⟩
    have hG : GoesR W3 W4 p q B a1 e2 := hG
    have HG4 := Lib.hid (HG3.out.trans hG)
    have HR4 := Lib.hid (HR3.out.goes hRp hG)
    clear hG HR3 HG3 s0 s1 slt
    obtain ⟨s0, s1, slt⟩ := HR4.out.cells
    obtain ⟨A, c, c0, c1, c2, f0, f1, f2, hle, hq, hlt, ha⟩ := HG4.out.1.cells
    clear hq
    go_wp2_with fail
    go_ret
    rw [HV.out]
    exact ⟨by rw [HP.out]; rfl, HG4.out⟩
  · have h7d : decide ((7 : Int) < n) = false := decide_eq_false h7
    rw [if_neg h7] at HV
    have hn7 : n ≤ 7 := by omega
    clear h7 HF
    by_cases hfe : e1 = 0
    · subst hfe
      have HP := Lib.hid (show ropV (64512 + n, a1, 0) = 64512 + n from if_pos rfl)
      go_enter Tryz.func125, Tryz.ntmps125
      go_wp2_with fail
      refine HN.out.mono ?_
      rintro E W1 ⟨rfl, hG⟩
      have HG1 := Lib.hid hG
      have HR1 := Lib.hid (HR.out.goes hRp hG)
      clear hG HR
      obtain ⟨s0, s1, slt⟩ := HR1.out.cells
      go_wp2_with fail
      refine (HBy.out _ HG1.out.1).mono ?_
      rintro E W2 ⟨rfl, hG⟩
      have hG : GoesR W1 W2 p q B (a + 1) 0 := hG
      have HG2 := Lib.hid (HG1.out.trans hG)
      have HR2 := Lib.hid (HR1.out.goes hRp hG)
      clear hG HR1 HG1 s0 s1 slt
      obtain ⟨s0, s1, slt⟩ := HR2.out.cells
      go_wp2_with fail
      refine (HU.out _ HG2.out.1).mono ?_
      rintro E W3 ⟨rfl, hG⟩
      have hG : GoesR W2 W3 p q B a1 0 := hG
      have HG3 := Lib.hid (HG2.out.trans hG)
      have HR3 := Lib.hid (HR2.out.goes hRp hG)
      clear hG HR2 HG2 s0 s1 slt
      obtain ⟨s0, s1, slt⟩ := HR3.out.cells
      obtain ⟨A, c, c0, c1, c2, f0, f1, f2, hle, hq, hlt, ha⟩ := HG3.out.1.cells
      clear hq
      go_wp2_with fail
      go_ret
      rw [HV.out]
      refine ⟨?_, HG3.out⟩
      rw [HP.out]
      simp [IntKind.wrap_i64]
    · have he2 : (e1 != 0) = true := by simpa using hfe
      have HP := Lib.hid (show ropV (64512 + n, a1, e1) = -1 from if_neg hfe)
      clear hfe
      go_enter Tryz.func125, Tryz.ntmps125
      go_wp2_with fail
      refine HN.out.mono ?_
      rintro E W1 ⟨rfl, hG⟩
      have HG1 := Lib.hid hG
      have HR1 := Lib.hid (HR.out.goes hRp hG)
      clear hG HR
      obtain ⟨s0, s1, slt⟩ := HR1.out.cells
      go_wp2_with fail
      refine (HBy.out _ HG1.out.1).mono ?_
      rintro E W2 ⟨rfl, hG⟩
      have hG : GoesR W1 W2 p q B (a + 1) 0 := hG
      have HG2 := Lib.hid (HG1.out.trans hG)
      have HR2 := Lib.hid (HR1.out.goes hRp hG)
      clear hG HR1 HG1 s0 s1 slt
      obtain ⟨s0, s1, slt⟩ := HR2.out.cells
      go_wp2_with fail
      refine (HU.out _ HG2.out.1).mono ?_
      rintro E W3 ⟨rfl, hG⟩
      have hG : GoesR W2 W3 p q B a1 e1 := hG
      have HG3 := Lib.hid (HG2.out.trans hG)
      have HR3 := Lib.hid (HR2.out.goes hRp hG)
      clear hG HR2 HG2 s0 s1 slt
      obtain ⟨s0, s1, slt⟩ := HR3.out.cells
      obtain ⟨A, c, c0, c1, c2, f0, f1, f2, hle, hq, hlt, ha⟩ := HG3.out.1.cells
      clear hq
      go_wp2_with fail
      go_ret
      rw [HV.out]
      exact ⟨by rw [HP.out]; rfl, HG3.out⟩
end Go.Proofs.YtofaiocffifhfaaGreat
end
section
namespace Go.Proofs.YtofaiocffifhfaaGreat
open Go.RowKit Go.Shelf YtofaiocffifhfaaGreatB Go.Proofs.YtofaiocffifhfaaGreatW.PrintWords
set_option maxRecDepth 100000 in
set_option maxHeartbeats 1000000 in
theorem rop_bad (W : World) (R p q : Nat) (sat : Bool) (B : List Int) (a : Nat) (e : Int) (hR : Rq W R p sat) (hC : Rdr W p q B a e) (hB : Byts B) (hx : ¬ (peekM B a e).2 = 0) :
    Calls Tryz.prog 125 #[.pointer (some ⟨R, 0, none⟩)] W (ROpPost W p q B (0, a, (peekM B a e).2)) := by
  have HN := Lib.hid (rnext_any W R p q sat B a e hR hC hB)
  rw [show nextV B a e = -1 from if_neg hx] at HN
  have HP := Lib.hid (show ropV (0, a, (peekM B a e).2) = -1 from if_neg hx)
  generalize (peekM B a e).2 = pe at *
  clear hR hC hB hx
  go_enter Tryz.func125, Tryz.ntmps125
  go_wp2_with fail
  refine HN.out.mono ?_
  rintro E W1 ⟨rfl, hG⟩
  have HG1 := Lib.hid hG
  clear hG
  go_wp2_with fail
  go_ret
  exact ⟨by rw [HP.out]; rfl, HG1.out⟩
theorem imm_nonneg (b : Int) : 0 ≤ (immM b).1 ∧ (immM b).1 ≤ 12 := by
  unfold immM
  by_cases c0 : b = 0 ∨ b = 1 ∨ b = 15 ∨ b = 26 ∨ b = 27
  · rw [if_pos c0]; decide
  rw [if_neg c0]
  by_cases c1 : b = 2 ∨ b = 3 ∨ b = 4
  · rw [if_pos c1]; decide
  rw [if_neg c1]
  by_cases c2 : b = 5 ∨ b = 11
  · rw [if_pos c2]; decide
  rw [if_neg c2]
  by_cases c3 : b = 12 ∨ b = 13
  · rw [if_pos c3]; decide
  rw [if_neg c3]
  by_cases c4 : b = 14
  · rw [if_pos c4]; decide
  rw [if_neg c4]
  by_cases c5 : b = 16 ∨ b = 32 ∨ b = 33 ∨ b = 34 ∨ b = 35 ∨ b = 36
  · rw [if_pos c5]; decide
  rw [if_neg c5]
  by_cases c6 : b = 17
  · rw [if_pos c6]; decide
  rw [if_neg c6]
  by_cases c7 : b = 63 ∨ b = 64
  · rw [if_pos c7]; decide
  rw [if_neg c7]
  by_cases c8 : b = 65
  · rw [if_pos c8]; decide
  rw [if_neg c8]
  by_cases c9 : b = 66
  · rw [if_pos c9]; decide
  rw [if_neg c9]
  by_cases c10 : b = 67
  · rw [if_pos c10]; decide
  rw [if_neg c10]
  by_cases c11 : b = 68
  · rw [if_pos c11]; decide
  rw [if_neg c11]
  by_cases c12 : 40 ≤ b ∧ b ≤ 62
  · rw [if_pos c12]; decide
  rw [if_neg c12]
  exact ⟨Int.le_refl _, by simp⟩
theorem rImm_sign (b : Int) : (rImmV b < 0) ↔ (immM b).2 = false := by
  have h0 := imm_nonneg b
  unfold rImmV
  cases h : (immM b).2 with
  | true => simp; omega
  | false => simp
set_option maxRecDepth 100000 in
set_option maxHeartbeats 2000000 in
theorem rop_one (W : World) (R p q : Nat) (sat : Bool) (B : List Int) (a : Nat) (b : Int) (hR : Rq W R p sat) (hRp : R ≠ p) (hC : Rdr W p q B a 0) (hB : Byts B) (hx : B[a]? = some b) (hs : ¬ (b = 252 ∧ sat = true)) (v : Int) (hv : rImmV b = v) (hv0 : ¬ v < 0) (h5 : ¬ b = 5) (h11 : ¬ b = 11) :
    Calls Tryz.prog 125 #[.pointer (some ⟨R, 0, none⟩)] W (ROpPost W p q B (b, a + 1, 0)) := by
  have hbb := hB.get hx
  have HN := Lib.hid (rnext_any W R p q sat B a 0 hR hC hB)
  rw [show nextV B a 0 = b from by simp [nextV, peekM, hx], show (peekM B a 0).2 = 0 from by simp [peekM, hx]] at HN
  have HBy := Lib.hid (fun X h => rByte_any X p q B a 0 h hB)
  rw [show rdByte B a 0 = (b, a + 1, 0) from by simp [rdByte, hx]] at HBy
  have HI := Lib.hid (fun X => rImm_any X b hbb.1 (by omega))
  rw [hv] at HI
  have HR := Lib.hid hR
  have HP := Lib.hid (show ropV (b, a + 1, 0) = b from if_pos rfl)
  have b5 : (b == 5) = false := beq_eq_false_iff_ne.2 h5
  have b11 : (b == 11) = false := beq_eq_false_iff_ne.2 h11
  have bv : decide (v < 0) = false := decide_eq_false hv0
  have bb : decide (b < 0) = false := decide_eq_false (by omega)
  have hm : ((b == 252) = false) ∨ ((b == 252) = true ∧ sat = false) := by
    by_cases h : b = 252
    · right
      refine ⟨beq_iff_eq.2 h, ?_⟩
      cases sat with
      | true => exact absurd ⟨h, rfl⟩ hs
      | false => rfl
    · exact .inl (beq_eq_false_iff_ne.2 h)
  obtain ⟨hb0, hb1⟩ := hbb
  clear hR hC hB hx hs hv hv0 h5 h11
  go_enter Tryz.func125, Tryz.ntmps125
  go_wp2_with fail
  refine HN.out.mono ?_
  rintro E W1 ⟨rfl, hG⟩
  have HG1 := Lib.hid hG
  have HR1 := Lib.hid (HR.out.goes hRp hG)
  clear hG HR HN
  obtain ⟨s0, s1, slt⟩ := HR1.out.cells
  rcases hm with hm | ⟨hm, rfl⟩
  all_goals
    go_wp2_with fail
    refine (HI.out _).mono ?_
    rintro E W2 ⟨rfl, hB2⟩
    have hg2 : GoesR W1 W2 p q B a 0 := ⟨HG1.out.1.below hB2, grown_below hB2 _⟩
    have HG2 := Lib.hid (HG1.out.trans hg2)
    have HR2 := Lib.hid (HR1.out.goes hRp hg2)
    clear hg2 hB2 HR1 HG1 s0 s1 slt
    obtain ⟨s0, s1, slt⟩ := HR2.out.cells
    go_wp2_with fail
    refine (HBy.out _ HG2.out.1).mono ?_
    rintro E W3 ⟨rfl, hG⟩
    have hG : GoesR W2 W3 p q B (a + 1) 0 := hG
    have HG3 := Lib.hid (HG2.out.trans hG)
    clear hG HG2 s0 s1 slt
    go_wp2_with fail
    go_ret
    exact ⟨by rw [HP.out]; rfl, HG3.out⟩
set_option maxRecDepth 100000 in
set_option maxHeartbeats 2000000 in
theorem rop_not (W : World) (R p q : Nat) (sat : Bool) (B : List Int) (a : Nat) (b : Int) (hR : Rq W R p sat) (hRp : R ≠ p) (hC : Rdr W p q B a 0) (hB : Byts B) (hx : B[a]? = some b) (hs : ¬ (b = 252 ∧ sat = true)) (v : Int) (hv : rImmV b = v) (hv0 : v < 0 ∨ b = 5) :
    Calls Tryz.prog 125 #[.pointer (some ⟨R, 0, none⟩)] W (ROpPost W p q B (0, a, 108)) := by
  have hbb := hB.get hx
  have HN := Lib.hid (rnext_any W R p q sat B a 0 hR hC hB)
  rw [show nextV B a 0 = b from by simp [nextV, peekM, hx], show (peekM B a 0).2 = 0 from by simp [peekM, hx]] at HN
  have HI := Lib.hid (fun X => rImm_any X b hbb.1 (by omega))
  rw [hv] at HI
  have HR := Lib.hid hR
  have HF := Lib.hid (fun X h => rFail_any X p q B a 0 108 h)
  rw [show failE 0 108 = 108 from rfl] at HF
  have HP := Lib.hid (show ropV (0, a, 108) = -1 from rfl)
  have bb : decide (b < 0) = false := decide_eq_false (by omega)
  have hm : ((b == 252) = false) ∨ ((b == 252) = true ∧ sat = false) := by
    by_cases h : b = 252
    · right
      refine ⟨beq_iff_eq.2 h, ?_⟩
      cases sat with
      | true => exact absurd ⟨h, rfl⟩ hs
      | false => rfl
    · exact .inl (beq_eq_false_iff_ne.2 h)
  have hw : decide (v < 0) = true ∨ (decide (v < 0) = false ∧ (b == 5) = true) := by
    by_cases h : v < 0
    · exact .inl (decide_eq_true h)
    · exact .inr ⟨decide_eq_false h, beq_iff_eq.2 (hv0.resolve_left h)⟩
  obtain ⟨hb0, hb1⟩ := hbb
  clear hR hC hB hx hs hv hv0
  go_enter Tryz.func125, Tryz.ntmps125
  go_wp2_with fail
  refine HN.out.mono ?_
  rintro E W1 ⟨rfl, hG⟩
  have HG1 := Lib.hid hG
  have HR1 := Lib.hid (HR.out.goes hRp hG)
  clear hG HR HN
  obtain ⟨s0, s1, slt⟩ := HR1.out.cells
  rcases hm with hm | ⟨hm, rfl⟩
  all_goals
    go_wp2_with fail
    refine (HI.out _).mono ?_
    rintro E W2 ⟨rfl, hB2⟩
    have hg2 : GoesR W1 W2 p q B a 0 := ⟨HG1.out.1.below hB2, grown_below hB2 _⟩
    have HG2 := Lib.hid (HG1.out.trans hg2)
    have HR2 := Lib.hid (HR1.out.goes hRp hg2)
    clear hg2 hB2 HR1 HG1 s0 s1 slt
    obtain ⟨s0, s1, slt⟩ := HR2.out.cells
    rcases hw with hw | ⟨hw, hw5⟩
    all_goals
      go_wp2_with fail
      refine (HF.out _ HG2.out.1).mono ?_
      rintro E W3 ⟨rfl, hG⟩
      have HG3 := Lib.hid (HG2.out.trans hG)
      clear hG HG2 s0 s1 slt
      go_wp2_with fail
      go_ret
      exact ⟨by rw [HP.out]; rfl, HG3.out⟩
theorem rop_any (W : World) (R p q : Nat) (sat : Bool) (B : List Int) (a : Nat) (e : Int) (hR : Rq W R p sat) (hRp : R ≠ p) (hC : Rdr W p q B a e) (hB : Byts B) (h5 : ∀ b, peekM B a e = (b, 0) → ¬ b = 5 ∧ ¬ b = 11) :
    Calls Tryz.prog 125 #[.pointer (some ⟨R, 0, none⟩)] W (ROpPost W p q B (opM sat B a e)) := by
  by_cases hp : (peekM B a e).2 = 0
  · obtain ⟨b, hx⟩ : ∃ b, peekM B a e = (b, 0) := ⟨(peekM B a e).1, by rw [← hp]⟩
    obtain ⟨rfl, hxx⟩ := peek_good hx
    have hn := h5 b hx
    by_cases hs : b = 252 ∧ sat = true
    · obtain ⟨rfl, rfl⟩ := hs
      rw [show opM true B a 0 = secondM B (a + 1) 0 from by unfold opM; rw [hx]; rfl]
      exact rop_second W R p q B a hR hRp hC hB hxx
    · by_cases hi : (immM b).2 = true
      · rw [show opM sat B a 0 = (b, a + 1, 0) from by unfold opM; rw [hx]; simp only [if_neg hs, if_pos hi, if_true]]
        exact rop_one W R p q sat B a b hR hRp hC hB hxx hs _ rfl (fun h => by have := (rImm_sign b).1 h; rw [this] at hi; cases hi) hn.1 hn.2
      · rw [show opM sat B a 0 = (0, a, 108) from by unfold opM; rw [hx]; simp only [if_neg hs, if_neg hi, if_true]]
        exact rop_not W R p q sat B a b hR hRp hC hB hxx hs _ rfl (.inl ((rImm_sign b).2 (by simpa using hi)))
  · rw [show opM sat B a e = (0, a, (peekM B a e).2) from by unfold opM; rw [if_neg hp]]
    exact rop_bad W R p q sat B a e hR hC hB hp
end Go.Proofs.YtofaiocffifhfaaGreat
end
section
namespace Go.Proofs.YtofaiocffifhfaaGreat
open Go.RowKit Go.Shelf YtofaiocffifhfaaGreatB Go.Proofs.YtofaiocffifhfaaGreatW.PrintWords
def RInsPost (W : World) (p q : Nat) (B : List Int) (r : Ins × Nat × Int) (E : Ending) (w' : World) : Prop :=
  ∃ x' : Ins, ∃ AL AT AE cL cT cE, E = .returned (.agg (insC x'.op x'.ty x'.a x'.b x'.bits (.slice AL x'.list.length cL) (.slice AT x'.th.length cT) (.slice AE x'.el.length cE) x'.has)) ∧
    FK kR w' (fun k => W.heap.size ≤ k) x' (insC x'.op x'.ty x'.a x'.b x'.bits (.slice AL x'.list.length cL) (.slice AT x'.th.length cT) (.slice AE x'.el.length cE) x'.has).toList ∧ (r.2.2 = 0 → x' = r.1) ∧ GoesR W w' p q B r.2.1 r.2.2
theorem rU32_any (W : World) (p q : Nat) (B : List Int) (a : Nat) (e : Int) (hC : Rdr W p q B a e) (hB : Byts B) :
    Calls Tryz.prog 38 #[.pointer (some ⟨p, 0, none⟩), .int .i64 32] W fun E w' => E = .returned (.int .u64 (rdOf (u32M B a) a e).1) ∧ GoesR W w' p q B (rdOf (u32M B a) a e).2.1 (rdOf (u32M B a) a e).2.2 :=
  rdUint_any W p q B a 32 e hC hB (by omega) (by omega)
theorem lab_goesR {W W2 w1 : World} {p q : Nat} {B : List Int} {a a0 : Nat} {e e0 : Int} {row : Option Nat} (hC : Rdr W p q B a0 e0) (h : GoesR W W2 p q B a e) (hg : W2.grownBy w1 row) (hr : ∀ k, row = some k → W.heap.size ≤ k) : GoesR W w1 p q B a e := by
  have hplt := hC.lt
  refine ⟨?_, h.2.os ▸ hg.os, h.2.tape ▸ hg.tape, h.2.output ▸ hg.output, Nat.le_trans h.2.size hg.size, fun k hk hp => ?_⟩
  · rcases Nat.eq_zero_or_pos B.length with hz | hz
    · obtain ⟨g0, g1, A, c, g2, g3, g4⟩ := h.1
      exact ⟨g0, g1, A, c, g2, g3.grown hg (fun e => by have := hr p e.symm; omega), fun hh => absurd hh (by omega)⟩
    · obtain ⟨_, _, A, c, _, _, h4⟩ := hC
      obtain ⟨o, _, hcell⟩ := h4 hz
      have hq := World.block_lt_of_cell? _ _ (hcell 0 _ (List.getElem?_eq_getElem hz))
      exact h.1.grown hg (fun e => by have := hr p e.symm; omega) (fun e => by have := hr q e.symm; simp only at hq; omega)
  · have hk2 : k < W2.heap.size := Nat.lt_of_lt_of_le hk h.2.size
    exact (hg.block k hk2 (fun e => by have := hr k e.symm; omega)).trans (h.2.block k hk hp)
theorem GoesR.setNew {W V : World} {p q : Nat} {B : List Int} {a a0 : Nat} {e e0 : Int} (hC : Rdr W p q B a0 e0) (h : GoesR W V p q B a e) (X : Nat) (hX : W.heap.size ≤ X) (j : Nat) (v : Value) : GoesR W (V.setCell ⟨X, j, none⟩ v) p q B a e :=
  lab_goesR hC h (gset V X j v) (fun k e => by cases e; exact hX)
theorem put9_goesR {W V : World} {p q : Nat} {B : List Int} {a a0 : Nat} {e e0 : Int} (hC : Rdr W p q B a0 e0) (h : GoesR W V p q B a e) (Z : Nat) (hZ : W.heap.size ≤ Z) (n0 n1 n2 n3 n4 n5 n6 n7 n8 : Value) : GoesR W (put9 V Z n0 n1 n2 n3 n4 n5 n6 n7 n8) p q B a e :=
  ((((((((h.setNew hC Z hZ 0 n0).setNew hC Z hZ 1 n1).setNew hC Z hZ 2 n2).setNew hC Z hZ 3 n3).setNew hC Z hZ 4 n4).setNew hC Z hZ 5 n5).setNew hC Z hZ 6 n6).setNew hC Z hZ 7 n7).setNew hC Z hZ 8 n8
theorem fk_flatR {W : World} {ok : Nat → Prop} {op ty a b bits : Int} (h1 : 0 ≤ op ∧ op ≤ 5000000000) (h2 : 0 ≤ ty ∧ ty ≤ 255) (h3 : 0 ≤ a ∧ a ≤ 4294967295) (h4 : 0 ≤ b ∧ b ≤ 4294967295) (h5 : 0 ≤ bits ∧ bits < 18446744073709551616) :
    FK kR W ok (.mk op ty a b bits [] [] [] false) (insC op ty a b bits (.slice none 0 0) (.slice none 0 0) (.slice none 0 0) false).toList :=
  ins_mkF (x := .mk op ty a b bits [] [] [] false) (nest_wf h1.1 h1.2) (show (Lit.int .u8 ty).wf = true from by simp [Lit.wf, IntKind.min, IntKind.max, IntKind.signed, IntKind.bits]; omega) (show (Lit.int .u32 a).wf = true from by simp [Lit.wf, IntKind.min, IntKind.max, IntKind.signed, IntKind.bits]; omega) (show (Lit.int .u32 b).wf = true from by simp [Lit.wf, IntKind.min, IntKind.max, IntKind.signed, IntKind.bits]; omega) (show (Lit.int .u64 bits).wf = true from by simp [Lit.wf, IntKind.min, IntKind.max, IntKind.signed, IntKind.bits]; omega) FC.nil FC.nil FC.nil (Nat.le_refl _) (Nat.le_refl _) (Nat.le_refl _)
theorem insC_cellsT {t : TypeId} {W : World} {X : Nat} {op ty a b bits : Int} {vL vT vE : Value} {has : Bool} (h : Blk W X (insC op ty a b bits vL vT vE has) t) :
    W.cell? ⟨X, 0, none⟩ = some (.int .i64 op) ∧ W.cell? ⟨X, 1, none⟩ = some (.int .u8 ty) ∧ W.cell? ⟨X, 2, none⟩ = some (.int .u32 a) ∧ W.cell? ⟨X, 3, none⟩ = some (.int .u32 b) ∧ W.cell? ⟨X, 4, none⟩ = some (.int .u64 bits) ∧ W.cell? ⟨X, 5, none⟩ = some vL ∧ W.cell? ⟨X, 6, none⟩ = some vT ∧ W.cell? ⟨X, 7, none⟩ = some vE ∧ W.cell? ⟨X, 8, none⟩ = some (.bool has) :=
  ⟨by rw [h.cell]; rfl, by rw [h.cell]; rfl, by rw [h.cell]; rfl, by rw [h.cell]; rfl, by rw [h.cell]; rfl, by rw [h.cell]; rfl, by rw [h.cell]; rfl, by rw [h.cell]; rfl, by rw [h.cell]; rfl⟩
end Go.Proofs.YtofaiocffifhfaaGreat
end
