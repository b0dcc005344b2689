/- Lemmas towards this claim's statement: what the functions named here come to, each under the conditions that it states itself. -/
import Derived.Test.YtofaiocffifhfaaGreatMC5
section
namespace Go.Proofs.YtofaiocffifhfaaGreat
open Go.RowKit Go.Shelf YtofaiocffifhfaaGreatB Go.Proofs.YtofaiocffifhfaaGreatW.PrintWords
theorem infoI : (Tryz.prog.info? 153).map (fun i => (i.zero, i.size, i.bytes)) = some (some (.agg #[.int .i64 0, .int .u8 0, .int .u32 0, .int .u32 0, .int .u64 0, .slice none 0 0, .slice none 0 0, .slice none 0 0, .bool false]), 9, 112) := by kernel_rfl
/-- What is left of the input: none, once the cursor has failed. -/
def curMeas (W : World) (p len : Nat) : Nat := match W.cell? ⟨p, 2, none⟩, W.cell? ⟨p, 1, none⟩ with
  | some (.int _ e), some (.int _ n) => if e = 0 then len + 1 - n.toNat else 0
  | _, _ => 0
theorem curMeas_eq {W : World} {p q : Nat} {B : List Int} {a : Nat} {e : Int} (h : Cur W p q B a e) : curMeas W p B.length = if e = 0 then B.length + 1 - a else 0 := by
  obtain ⟨A, c, c0, c1, c2, _⟩ := h.cells
  unfold curMeas
  rw [c2, c1]
  simp only [Int.toNat_natCast]
theorem Own.goes {α : Type} {d : Kd α} {t : TypeId} {W W1 : World} {base : Nat} {ok : Nat → Prop} {v : Value} {xs : List α} {p q : Nat} {B : List Int} {a : Nat} {e : Int} (h : Own d t W base ok v xs) (hG : Goes W W1 p q B a e) (hp : p < base) (hok : ∀ k, ok k → base ≤ k) : Own d t W1 base ok v xs :=
  h.grown hG.2 (by
    cases hv : v.ownBlock with
    | none => exact .inl rfl
    | some k => right; intro e; injection e with e; have := (h.block hv).1; omega) (fun k hk e => by injection e with e; have := hok k hk; omega)
theorem Goes.alloc {W W1 : World} {p q : Nat} {B : List Int} {a : Nat} {e : Int} (h : Goes W W1 p q B a e) (o : Obj) : Goes W (W1.alloc o) p q B a e := ⟨h.1.alloc o, h.2.trans (World.grownBy_alloc W1 o _)⟩
def bkOf (sat : Bool) (B : List Int) (f deep : Nat) (m : Bool) (a : Nat) (e : Int) : List Ins × Int × Nat × Int := blkM sat B f deep m a e []
theorem blkM_bad {sat : Bool} {B : List Int} (f deep : Nat) (may : Bool) (a : Nat) (e : Int) (acc : List Ins) (he : ¬ e = 0) : blkM sat B f deep may a e acc = ([], 0, a, e) := by
  cases f with
  | zero => rfl
  | succ f => rw [blkM, if_neg he]
theorem blkM_next {sat : Bool} {B : List Int} {f deep : Nat} {may : Bool} {a : Nat} {b : Int} {acc : List Ins} (hx : B[a]? = some b) (h1 : ¬ b = 11) (h2 : ¬ b = 5) :
    blkM sat B (f + 1) deep may a 0 acc = (let r := insM (bkOf sat B f (deep + 1)) sat B deep a 0; if r.2.2 = 0 then blkM sat B f deep may r.2.1 0 (acc ++ [r.1]) else ([], 0, r.2.1, r.2.2)) := by
  rw [blkM, if_pos rfl, hx]
  simp only [if_neg h1, if_neg h2]
  rfl
set_option maxRecDepth 100000 in
set_option maxHeartbeats 8000000 in
theorem block_any (R p q : Nat) (sat : Bool) (B : List Int) (hRp : R ≠ p) (hRq : R ≠ q) (hB : Byts B) : ∀ (f deep : Nat) (may : Bool) (W : World) (a : Nat) (e : Int), Rp W R p sat deep → Cur W p q B a e → (e = 0 → B.length < a + f) →
    Calls Tryz.prog 133 #[.pointer (some ⟨R, 0, none⟩), .bool may] W (BlkPost W p q B (blkM sat B f deep may a e [])) := by
  intro f
  induction f using Nat.strongRecOn with
  | ind f ih =>
  intro deep may W a e hR hC hfu
  have IH := Lib.hid ih
  have HR := Lib.hid hR
  have HB := Lib.hid hB
  have HW := Lib.hid hC
  have hplt := hC.lt
  have hRlt := hR.lt
  have HFU := Lib.hid hfu
  clear ih hR hB hC hfu
  go_enter Tryz.func133, Tryz.ntmps133
  go_wp2_with fail
  go_loopw [4] (fun v wr => ∃ (a1 : Nat) (e1 : Int) (f1 : Nat) (xs : List Ins), Own kI 153 wr W.heap.size (fun k => W.heap.size ≤ k) v xs ∧ Goes W wr p q B a1 e1 ∧ Hid (f1 ≤ f ∧ (e1 = 0 → xs.length ≤ a1) ∧ (e1 = 0 → B.length < a1 + f1) ∧ blkM sat B f deep may a e [] = blkM sat B f1 deep may a1 e1 xs)) (fun _ wr => curMeas wr p B.length)
  case atStart => exact ⟨a, e, f, [], Own.nil, Goes.same HW.out, Lib.hid ⟨Nat.le_refl _, fun _ => Nat.zero_le _, HFU.out, rfl⟩⟩
  case round =>
    obtain ⟨a1, e1, f1, xs, hown, hGo, hst⟩ := hrel
    have hsz := hGo.2.size
    have HR1 := Lib.hid (HR.out.goes hRp hGo)
    obtain ⟨s0, s1, s2, sf, slt⟩ := HR1.out.cells
    have HGo := Lib.hid hGo
    have HO := Lib.hid hown
    clear hGo hown
    by_cases he : e1 = 0
    · subst he
      have hal := HGo.out.1.2.1
      have HGo := Lib.hid (show Goes W wr p q B a1 0 from HGo.out)
      have HPk := Lib.hid (peek_any wr R p q sat deep B a1 0 HR1.out hRp HGo.out.1 HB.out)
      obtain ⟨g, rfl⟩ : ∃ g, f1 = g + 1 := ⟨f1 - 1, by have := hst.out.2.2.1 rfl; omega⟩
      have hxl := hst.out.2.1 rfl
      have hff := hst.out.1
      have hfu := hst.out.2.2.1 rfl
      go_wp2_with fail
      refine (rgood_any _ _ _ _ _ _ _ _ _ true HR1.out HGo.out.1 rfl).mono ?_
      rintro E w' ⟨rfl, rfl⟩
      by_cases hbx : ∃ b, B[a1]? = some b
      · obtain ⟨b, hx⟩ := hbx
        have hbb := HB.out.get hx
        rw [show peekM B a1 0 = (b, 0) from by rw [peekM, if_pos rfl, hx]] at HPk
        have hx := Lib.hid hx
        go_wp2_with fail
        refine HPk.out.mono ?_
        rintro E W2 ⟨rfl, hG⟩
        have hG0 : Goes wr W2 p q B a1 0 := hG
        have HR2 := Lib.hid (HR1.out.goes hRp hG0)
        have HG2 := Lib.hid (HGo.out.trans hG0)
        have HO2 := Lib.hid (Own.goes HO.out hG0 hplt (fun k hk => hk))
        clear hG hG0 HPk s0 s1 s2 sf slt
        obtain ⟨s0, s1, s2, sf, slt⟩ := HR2.out.cells
        by_cases h11 : b = 11
        · subst h11
          have HBy := Lib.hid (fun X h => Byte_any X p q B a1 0 h HB.out)
          rw [show rdByte B a1 0 = (11, a1 + 1, 0) from by rw [rdByte, if_pos rfl, hx.out]] at HBy
          have HV := Lib.hid (show blkM sat B f deep may a e [] = (xs, 11, a1 + 1, 0) from by rw [hst.out.2.2.2, blkM, if_pos rfl, hx.out]; rfl)
          go_wp2_with fail
          refine (rgood_any _ _ _ _ _ _ _ _ _ true HR2.out HG2.out.1 rfl).mono ?_
          rintro E w' ⟨rfl, rfl⟩
          go_wp2_with fail
          refine (HBy.out _ HG2.out.1).mono ?_
          rintro E W3 ⟨rfl, hG⟩
          have hG0 : Goes W2 W3 p q B (a1 + 1) 0 := hG
          have HG3 := Lib.hid (HG2.out.trans hG0)
          have HO3 := Lib.hid (Own.goes HO2.out hG0 hplt (fun k hk => hk))
          clear hG hG0 HBy s0 s1 s2 sf slt HR2 HG2 HO2
          go_wp2_with fail
          obtain ⟨A, c, hu, hle, hF⟩ := HO3.out.reads
          subst hu
          go_ret2
          rw [HV.out]
          exact ⟨⟨A, c, rfl, hle, hF.mono (fun k hk => hk.elim id id)⟩, HG3.out⟩

        · by_cases h5 : b = 5
          · subst h5
            clear h11
            cases may with
            | true =>
              have HBy := Lib.hid (fun X h => Byte_any X p q B a1 0 h HB.out)
              rw [show rdByte B a1 0 = (5, a1 + 1, 0) from by rw [rdByte, if_pos rfl, hx.out]] at HBy
              have HV := Lib.hid (show blkM sat B f deep true a e [] = (xs, 5, a1 + 1, 0) from by rw [hst.out.2.2.2, blkM, if_pos rfl, hx.out]; rfl)
              go_wp2_with fail
              refine (HBy.out _ HG2.out.1).mono ?_
              rintro E W3 ⟨rfl, hG⟩
              have hG0 : Goes W2 W3 p q B (a1 + 1) 0 := hG
              have HG3 := Lib.hid (HG2.out.trans hG0)
              have HO3 := Lib.hid (Own.goes HO2.out hG0 hplt (fun k hk => hk))
              clear hG hG0 HBy s0 s1 s2 sf slt HR2 HG2 HO2
              go_wp2_with fail
              obtain ⟨A, c, hu, hle, hF⟩ := HO3.out.reads
              subst hu
              go_ret2
              rw [HV.out]
              exact ⟨⟨A, c, rfl, hle, hF.mono (fun k hk => hk.elim id id)⟩, HG3.out⟩

            | false =>
              have HV := Lib.hid (show blkM sat B f deep false a e [] = ([], 0, a1, 108) from by rw [hst.out.2.2.2, blkM, if_pos rfl, hx.out]; rfl)
              go_wp2_with fail
              refine (Fail_any _ p q B a1 0 108 HG2.out.1 rfl).mono ?_
              rintro E W3 ⟨rfl, hG⟩
              have hG0 : Goes W2 W3 p q B a1 108 := hG
              have HR4 := Lib.hid (HR2.out.goes hRp hG0)
              have HG4 := Lib.hid (HG2.out.trans hG0)
              have HO4 := Lib.hid (Own.goes HO2.out hG0 hplt (fun k hk => hk))
              clear hG hG0 s0 s1 s2 sf slt HR2 HG2 HO2
              have HR2 := HR4
              have HG2 := HG4
              have HO2 := HO4
              obtain ⟨s0, s1, s2, sf, slt⟩ := HR2.out.cells
              clear HR4 HG4 HO4
              have HI := Lib.hid (instr_bad W3 R p q sat deep B a1 a1 108 0 108 0 108 0 0 true true HR2.out hRp HG2.out.1 HB.out rfl (by omega) rfl rfl rfl rfl (by omega) rfl (leafI 0))
              go_wp2_with fail
              refine HI.out.mono ?_
              rintro E W3 ⟨x', AL, AT, AE, cL, cT, cE, rfl, hF, hxr, hG⟩
              have hG : Goes _ W3 p q B a1 108 := hG
              have HR3 := Lib.hid (HR2.out.goes hRp hG)
              have HG3 := Lib.hid (HG2.out.trans hG)
              have HO3 := Lib.hid (Own.goes HO2.out hG hplt (fun k hk => hk))
              have hbx := Blk.new W3 (#[.int .i64 x'.op, .int .u8 x'.ty, .int .u32 x'.a, .int .u32 x'.b, .int .u64 x'.bits, .slice AL x'.list.length cL, .slice AT x'.th.length cT, .slice AE x'.el.length cE, .bool x'.has]) 153
              have HRb := Lib.hid (show Rp (W3.alloc (.cells (#[.int .i64 x'.op, .int .u8 x'.ty, .int .u32 x'.a, .int .u32 x'.b, .int .u64 x'.bits, .slice AL x'.list.length cL, .slice AT x'.th.length cT, .slice AE x'.el.length cE, .bool x'.has]) 153)) R p sat deep from Blk.alloc HR3.out _)
              have HGb := Lib.hid (HG3.out.alloc (.cells (#[.int .i64 x'.op, .int .u8 x'.ty, .int .u32 x'.a, .int .u32 x'.b, .int .u64 x'.bits, .slice AL x'.list.length cL, .slice AT x'.th.length cT, .slice AE x'.el.length cE, .bool x'.has]) 153))
              have HOb := Lib.hid (Own.below HO3.out ((Below.refl W3.heap.size W3).alloc (Nat.le_refl _) (.cells (#[.int .i64 x'.op, .int .u8 x'.ty, .int .u32 x'.a, .int .u32 x'.b, .int .u64 x'.bits, .slice AL x'.list.length cL, .slice AT x'.th.length cT, .slice AE x'.el.length cE, .bool x'.has]) 153)))
              have HFb := Lib.hid (Ft.below hF ((Below.refl W3.heap.size W3).alloc (Nat.le_refl _) (.cells (#[.int .i64 x'.op, .int .u8 x'.ty, .int .u32 x'.a, .int .u32 x'.b, .int .u64 x'.bits, .slice AL x'.list.length cL, .slice AT x'.th.length cT, .slice AE x'.el.length cE, .bool x'.has]) 153)))
              clear hF hG HR3 HG3 HO3 s0 s1 s2 sf slt HR2 HG2
              simp only [insC]
              clear HI hxr
              have HRE := Lib.hid (show ((108 : Int) == 0) = false from rfl)
              have HRN := Lib.hid (show ¬ (108 : Int) = 0 from by decide)
              go_wp2_with fail
              refine (rgood_any _ _ _ _ _ _ _ _ _ false HRb.out HGb.out.1 HRE.out).mono ?_
              rintro E w' ⟨rfl, rfl⟩
              go_wp2_with fail
              go_roundw
              case rel => exact ⟨a1, 108, 0, xs, HOb.out, HGb.out, Lib.hid ⟨Nat.zero_le _, fun h => absurd h HRN.out, fun h => absurd h HRN.out, by rw [HV.out, blkM_bad _ _ _ _ _ _ HRN.out]⟩⟩
              case measure =>
                rw [curMeas_eq HGb.out.1, curMeas_eq HGo.out.1, if_neg HRN.out, if_pos rfl]
                omega
          · have h11b : (b == 11) = false := beq_eq_false_iff_ne.2 h11
            have h5b : (b == 5) = false := beq_eq_false_iff_ne.2 h5
            have HVn := Lib.hid (show blkM sat B f deep may a e [] = (let r := insM (bkOf sat B g (deep + 1)) sat B deep a1 0; if r.2.2 = 0 then blkM sat B g deep may r.2.1 0 (xs ++ [r.1]) else ([], 0, r.2.1, r.2.2)) from by rw [hst.out.2.2.2]; exact blkM_next hx.out h11 h5)
            have HI := Lib.hid (instr_any (bkOf sat B g (deep + 1)) W2 R p q sat deep B a1 0 HR2.out hRp hRq HG2.out.1 HB.out (fun W' m a' e' hh hr hc => IH.out g (by omega) (deep + 1) m W' a' e' hr hc (fun he => by omega)) (fun m a e h => blk_ge HB.out g (deep + 1) m a e [] h))
            have HGE := Lib.hid (fun h => ins_ge (bk := bkOf sat B g (deep + 1)) (sat := sat) (B := B) (deep := deep) (a := a1) (e := 0) HB.out (fun m a e h => blk_ge HB.out g (deep + 1) m a e [] h) h)
            generalize insM (bkOf sat B g (deep + 1)) sat B deep a1 0 = r at *
            obtain ⟨rx, ra, re⟩ := r
            simp only at HVn HGE
            clear h11 h5
            go_wp2_with fail
            refine HI.out.mono ?_
            rintro E W3 ⟨x', AL, AT, AE, cL, cT, cE, rfl, hF, hxr, hG⟩
            have hG : Goes W2 W3 p q B ra re := hG
            have hxr : re = 0 → x' = rx := hxr
            have HW2s := Lib.hid HG2.out.2.size
            have HR3 := Lib.hid (HR2.out.goes hRp hG)
            have HG3 := Lib.hid (HG2.out.trans hG)
            have HO3 := Lib.hid (Own.goes HO2.out hG hplt (fun k hk => hk))
            have hbx := Blk.new W3 (#[.int .i64 x'.op, .int .u8 x'.ty, .int .u32 x'.a, .int .u32 x'.b, .int .u64 x'.bits, .slice AL x'.list.length cL, .slice AT x'.th.length cT, .slice AE x'.el.length cE, .bool x'.has]) 153
            have HRb := Lib.hid (show Rp (W3.alloc (.cells (#[.int .i64 x'.op, .int .u8 x'.ty, .int .u32 x'.a, .int .u32 x'.b, .int .u64 x'.bits, .slice AL x'.list.length cL, .slice AT x'.th.length cT, .slice AE x'.el.length cE, .bool x'.has]) 153)) R p sat deep from Blk.alloc HR3.out _)
            have HGb := Lib.hid (HG3.out.alloc (.cells (#[.int .i64 x'.op, .int .u8 x'.ty, .int .u32 x'.a, .int .u32 x'.b, .int .u64 x'.bits, .slice AL x'.list.length cL, .slice AT x'.th.length cT, .slice AE x'.el.length cE, .bool x'.has]) 153))
            have HOb := Lib.hid (Own.below HO3.out ((Below.refl W3.heap.size W3).alloc (Nat.le_refl _) (.cells (#[.int .i64 x'.op, .int .u8 x'.ty, .int .u32 x'.a, .int .u32 x'.b, .int .u64 x'.bits, .slice AL x'.list.length cL, .slice AT x'.th.length cT, .slice AE x'.el.length cE, .bool x'.has]) 153)))
            have HFb := Lib.hid (Ft.below hF ((Below.refl W3.heap.size W3).alloc (Nat.le_refl _) (.cells (#[.int .i64 x'.op, .int .u8 x'.ty, .int .u32 x'.a, .int .u32 x'.b, .int .u64 x'.bits, .slice AL x'.list.length cL, .slice AT x'.th.length cT, .slice AE x'.el.length cE, .bool x'.has]) 153)))
            clear hF hG HR3 HG3 HO3 s0 s1 s2 sf slt HR2 HG2
            simp only [insC]
            clear HI
            by_cases hre : re = 0
            · subst hre
              obtain rfl := hxr rfl
              have hra := HGE.out rfl
              have HV := Lib.hid (show blkM sat B f deep may a e [] = blkM sat B g deep may ra 0 (xs ++ [x']) from by rw [HVn.out]; exact if_pos rfl)
              have hral := HGb.out.1.2.1
              have hBl := HB.out.1
              obtain ⟨e0, e1, e2, e3, e4, e5, e6, e7, e8⟩ := insC_cells hbx
              have hgs := HGb.out.2.size
              have HFK := Lib.hid (show FK kI (W3.alloc (.cells (#[.int .i64 x'.op, .int .u8 x'.ty, .int .u32 x'.a, .int .u32 x'.b, .int .u64 x'.bits, .slice AL x'.list.length cL, .slice AT x'.th.length cT, .slice AE x'.el.length cE, .bool x'.has]) 153)) (fun k => (fun k => W.heap.size ≤ k) k ∧ some k ≠ u4.ownBlock) x' [.int .i64 x'.op, .int .u8 x'.ty, .int .u32 x'.a, .int .u32 x'.b, .int .u64 x'.bits, .slice AL x'.list.length cL, .slice AT x'.th.length cT, .slice AE x'.el.length cE, .bool x'.has] from HFb.out.mono (fun k hk => ⟨Nat.le_trans HW2s.out hk, fun e => by have := (HO2.out.block e.symm).2; omega⟩))
              clear hbx
              go_wp2_with fail
              refine (rgood_any _ _ _ _ _ _ _ _ _ true HRb.out HGb.out.1 rfl).mono ?_
              rintro E w' ⟨rfl, rfl⟩
              go_wp2_with (at_builtin; go_loud (refine Own.append (d := kI) W.heap.size rfl (.tmp 42) (.tmp 44) 73 153 _ 112 rfl Tryz.underlying73 infoI rfl (by decide) (by decide) u4 xs x' _ (fun k => W.heap.size ≤ k) rfl (by rw [World.size_alloc]; rfl) HFK.out HOb.out hgs (by omega) ?_; intro v1 w1 hown1 hg1 hat1))
              have HO4 := Lib.hid hown1
              have HG4 := Lib.hid (show Goes W w1 p q B ra 0 from lab_goes HW.out HGb.out hg1 (fun k hk => (HOb.out.block hk).1))
              clear hown1 hg1 hat1
              go_wp2_with fail
              go_roundw
              case rel => exact ⟨ra, 0, g, xs ++ [x'], HO4.out, HG4.out, Lib.hid ⟨by omega, fun _ => by rw [List.length_append]; simp; omega, fun _ => by omega, HV.out⟩⟩
              case measure =>
                rw [curMeas_eq HG4.out.1, curMeas_eq HGo.out.1, if_pos rfl, if_pos rfl]
                omega
            · have HV := Lib.hid (show blkM sat B f deep may a e [] = ([], 0, ra, re) from by rw [HVn.out]; exact if_neg hre)
              have HRE := Lib.hid (beq_eq_false_iff_ne.2 hre)
              have HRN := Lib.hid hre
              clear hre hxr
              go_wp2_with fail
              refine (rgood_any _ _ _ _ _ _ _ _ _ false HRb.out HGb.out.1 HRE.out).mono ?_
              rintro E w' ⟨rfl, rfl⟩
              go_wp2_with fail
              go_roundw
              case rel => exact ⟨ra, re, 0, xs, HOb.out, HGb.out, Lib.hid ⟨Nat.zero_le _, fun h => absurd h HRN.out, fun h => absurd h HRN.out, by rw [HV.out, blkM_bad _ _ _ _ _ _ HRN.out]⟩⟩
              case measure =>
                rw [curMeas_eq HGb.out.1, curMeas_eq HGo.out.1, if_neg HRN.out, if_pos rfl]
                omega
      · have hx : B[a1]? = none := by
          cases h : B[a1]? with
          | none => rfl
          | some b => exact absurd ⟨b, h⟩ hbx
        clear hbx
        rw [show peekM B a1 0 = (0, 100) from by rw [peekM, if_pos rfl, hx]] at HPk
        have HV := Lib.hid (show blkM sat B f deep may a e [] = ([], 0, a1, 100) from by rw [hst.out.2.2.2, blkM, if_pos rfl, hx])
        clear hx
        go_wp2_with fail
        refine HPk.out.mono ?_
        rintro E W2 ⟨rfl, hG⟩
        have hG0 : Goes wr W2 p q B a1 100 := hG
        have HR2 := Lib.hid (HR1.out.goes hRp hG0)
        have HG2 := Lib.hid (HGo.out.trans hG0)
        have HO2 := Lib.hid (Own.goes HO.out hG0 hplt (fun k hk => hk))
        clear hG hG0 HPk s0 s1 s2 sf slt
        obtain ⟨s0, s1, s2, sf, slt⟩ := HR2.out.cells
        have HI := Lib.hid (instr_bad W2 R p q sat deep B a1 a1 100 0 100 0 100 0 0 true true HR2.out hRp HG2.out.1 HB.out rfl (by omega) rfl rfl rfl rfl (by omega) rfl (leafI 0))
        go_wp2_with fail
        refine HI.out.mono ?_
        rintro E W3 ⟨x', AL, AT, AE, cL, cT, cE, rfl, hF, hxr, hG⟩
        have hG : Goes W2 W3 p q B a1 100 := hG
        have HR3 := Lib.hid (HR2.out.goes hRp hG)
        have HG3 := Lib.hid (HG2.out.trans hG)
        have HO3 := Lib.hid (Own.goes HO2.out hG hplt (fun k hk => hk))
        have hbx := Blk.new W3 (#[.int .i64 x'.op, .int .u8 x'.ty, .int .u32 x'.a, .int .u32 x'.b, .int .u64 x'.bits, .slice AL x'.list.length cL, .slice AT x'.th.length cT, .slice AE x'.el.length cE, .bool x'.has]) 153
        have HRb := Lib.hid (show Rp (W3.alloc (.cells (#[.int .i64 x'.op, .int .u8 x'.ty, .int .u32 x'.a, .int .u32 x'.b, .int .u64 x'.bits, .slice AL x'.list.length cL, .slice AT x'.th.length cT, .slice AE x'.el.length cE, .bool x'.has]) 153)) R p sat deep from Blk.alloc HR3.out _)
        have HGb := Lib.hid (HG3.out.alloc (.cells (#[.int .i64 x'.op, .int .u8 x'.ty, .int .u32 x'.a, .int .u32 x'.b, .int .u64 x'.bits, .slice AL x'.list.length cL, .slice AT x'.th.length cT, .slice AE x'.el.length cE, .bool x'.has]) 153))
        have HOb := Lib.hid (Own.below HO3.out ((Below.refl W3.heap.size W3).alloc (Nat.le_refl _) (.cells (#[.int .i64 x'.op, .int .u8 x'.ty, .int .u32 x'.a, .int .u32 x'.b, .int .u64 x'.bits, .slice AL x'.list.length cL, .slice AT x'.th.length cT, .slice AE x'.el.length cE, .bool x'.has]) 153)))
        have HFb := Lib.hid (Ft.below hF ((Below.refl W3.heap.size W3).alloc (Nat.le_refl _) (.cells (#[.int .i64 x'.op, .int .u8 x'.ty, .int .u32 x'.a, .int .u32 x'.b, .int .u64 x'.bits, .slice AL x'.list.length cL, .slice AT x'.th.length cT, .slice AE x'.el.length cE, .bool x'.has]) 153)))
        clear hF hG HR3 HG3 HO3 s0 s1 s2 sf slt HR2 HG2
        simp only [insC]
        clear HI hxr
        have HRE := Lib.hid (show ((100 : Int) == 0) = false from rfl)
        have HRN := Lib.hid (show ¬ (100 : Int) = 0 from by decide)
        go_wp2_with fail
        refine (rgood_any _ _ _ _ _ _ _ _ _ false HRb.out HGb.out.1 HRE.out).mono ?_
        rintro E w' ⟨rfl, rfl⟩
        go_wp2_with fail
        go_roundw
        case rel => exact ⟨a1, 100, 0, xs, HOb.out, HGb.out, Lib.hid ⟨Nat.zero_le _, fun h => absurd h HRN.out, fun h => absurd h HRN.out, by rw [HV.out, blkM_bad _ _ _ _ _ _ HRN.out]⟩⟩
        case measure =>
          rw [curMeas_eq HGb.out.1, curMeas_eq HGo.out.1, if_neg HRN.out, if_pos rfl]
          omega
    · have HV := Lib.hid (show blkM sat B f deep may a e [] = ([], 0, a1, e1) from by rw [hst.out.2.2.2]; exact blkM_bad _ _ _ _ _ _ he)
      have he2 := Lib.hid (beq_eq_false_iff_ne.2 he)
      clear he
      go_wp2_with fail
      refine (rgood_any _ _ _ _ _ _ _ _ _ false HR1.out HGo.out.1 he2.out).mono ?_
      rintro E w' ⟨rfl, rfl⟩
      go_wp2_with fail
      go_ret2
      rw [HV.out]
      exact ⟨⟨none, 0, rfl, Nat.le_refl _, FC.nil⟩, HGo.out⟩
end Go.Proofs.YtofaiocffifhfaaGreat
end
section
namespace Go.Proofs.YtofaiocffifhfaaGreat
open Go.RowKit Go.Shelf YtofaiocffifhfaaGreatB Go.Proofs.YtofaiocffifhfaaGreatW.PrintWords
theorem Cur.anyq {W : World} {p q q' : Nat} {a : Nat} {e : Int} (h : Cur W p q [] a e) (hq : p ≠ q') : Cur W p q' [] a e := by
  obtain ⟨_, h1, A, c, h2, h3, h4⟩ := h
  exact ⟨hq, h1, A, c, h2, h3, fun h => absurd h (by simp)⟩
def exprM (sat : Bool) (B : List Int) (a : Nat) (e : Int) : List Ins × Nat × Int :=
  let r := blkM sat B (B.length + 1) 0 false a e []
  (if r.2.2.2 = 0 then r.1 else [], r.2.2.1, r.2.2.2)
def ExprPost (W : World) (p q : Nat) (B : List Int) (r : List Ins × Nat × Int) (E : Ending) (w' : World) : Prop :=
  (∃ A c, E = .returned (.slice A r.1.length c) ∧ r.1.length ≤ c ∧ FC kI w' (fun k => W.heap.size ≤ k) A r.1) ∧ Goes W w' p q B r.2.1 r.2.2
set_option maxRecDepth 100000 in
set_option maxHeartbeats 1000000 in
theorem Expr_q (W : World) (p q : Nat) (sat : Bool) (B : List Int) (a : Nat) (e : Int) (hC : Cur W p q B a e) (hq : q ≠ W.heap.size) (hB : Byts B) :
    Calls Tryz.prog 123 #[.pointer (some ⟨p, 0, none⟩), .bool sat] W (ExprPost W p q B (exprM sat B a e)) := by
  have hplt := hC.lt
  have HBK := Lib.hid (block_any W.heap.size p q sat B (by omega) (by omega) hB (B.length + 1) 0 false (W.alloc (.cells #[.pointer (some ⟨p, 0, none⟩), .bool sat, .int .i64 0] 218)) a e (Blk.new W _ _) (hC.alloc _) (fun _ => by omega))
  have HV := Lib.hid (show exprM sat B a e = (let r := blkM sat B (B.length + 1) 0 false a e []; (if r.2.2.2 = 0 then r.1 else [], r.2.2.1, r.2.2.2)) from rfl)
  generalize blkM sat B (B.length + 1) 0 false a e [] = r at *
  obtain ⟨l, en, a1, e1⟩ := r
  simp only at HV
  have HR := Lib.hid (show Rp (W.alloc (.cells #[.pointer (some ⟨p, 0, none⟩), .bool sat, .int .i64 0] 218)) W.heap.size p sat 0 from Blk.new W _ _)
  clear hC hB
  go_enter Tryz.func123, Tryz.ntmps123
  go_wp2_with fail
  refine HBK.out.mono ?_
  rintro E W1 ⟨⟨A, c, rfl, hl, hF⟩, hG⟩
  have hG0 : Goes (W.alloc (.cells #[.pointer (some ⟨p, 0, none⟩), .bool sat, .int .i64 0] 218)) W1 p q B a1 e1 := hG
  have HR1 := Lib.hid (HR.out.goes (by omega) hG0)
  have HG1 := Lib.hid (Goes.of_alloc hG0)
  have HF := Lib.hid (hF.mono (ok' := fun k => W.heap.size ≤ k) (fun k hk => by simp at hk; omega))
  clear hG hG0 hF HR HBK
  by_cases he : e1 = 0
  · subst he
    go_wp2_with fail
    refine (rgood_any _ _ _ _ _ _ _ _ _ true HR1.out HG1.out.1 rfl).mono ?_
    rintro E w' ⟨rfl, rfl⟩
    go_wp2_with fail
    go_ret
    rw [HV.out, if_pos trivial]
    exact ⟨⟨A, c, rfl, hl, HF.out⟩, HG1.out⟩
  · have he2 := Lib.hid (beq_eq_false_iff_ne.2 he)
    rw [if_neg he] at HV
    clear he
    go_wp2_with fail
    refine (rgood_any _ _ _ _ _ _ _ _ _ false HR1.out HG1.out.1 he2.out).mono ?_
    rintro E w' ⟨rfl, rfl⟩
    go_wp2_with fail
    go_ret
    rw [HV.out]
    exact ⟨⟨none, 0, rfl, Nat.le_refl _, FC.nil⟩, HG1.out⟩
theorem Expr_any (W : World) (p q : Nat) (sat : Bool) (B : List Int) (a : Nat) (e : Int) (hC : Cur W p q B a e) (hB : Byts B) :
    Calls Tryz.prog 123 #[.pointer (some ⟨p, 0, none⟩), .bool sat] W (ExprPost W p q B (exprM sat B a e)) := by
  rcases hC.qlt with h | h
  · subst h
    have hplt := hC.lt
    refine (Expr_q W p (W.heap.size + 1) sat [] a e (hC.anyq (by omega)) (by omega) hB).mono ?_
    rintro E w' ⟨h1, h2, h3⟩
    exact ⟨h1, h2.anyq hC.1, h3⟩
  · exact Expr_q W p q sat B a e hC (by omega) hB
set_option maxRecDepth 100000 in
theorem Expr_nil (W : World) (sat : Bool) :
    Calls Tryz.prog 123 #[.pointer none, .bool sat] W fun E w' => E = .returned (.slice none 0 0) ∧ W = w' := by
  go_enter Tryz.func123, Tryz.ntmps123
  go_wp2_with fail
  go_ret
  exact ⟨rfl, rfl⟩
end Go.Proofs.YtofaiocffifhfaaGreat
end
section
namespace Go.Proofs.YtofaiocffifhfaaGreat
open Go.RowKit Go.Shelf YtofaiocffifhfaaGreatB Go.Proofs.YtofaiocffifhfaaGreatW.PrintWords
theorem infoB8 : (Tryz.prog.info? 5).map (fun i => (i.zero, i.size, i.bytes)) = some (some (.int .u8 0), 1, 1) := by kernel_rfl
theorem rdI_byQ {w : World} {A : Option Addr} {B : List Int} (h : RdI w .u8 A B) (p : Nat) (hp : w.heap.size ≤ p) : ∃ q, p ≠ q ∧ ByQ w q A B := by
  rcases Nat.eq_zero_or_pos B.length with hz | hz
  · exact ⟨p + 1, by omega, fun hh => by omega⟩
  · obtain ⟨b, o, rfl, hc⟩ := h.2 hz
    have hlt := World.block_lt_of_cell? _ _ (hc 0 _ (List.getElem?_eq_getElem hz))
    exact ⟨b, by simp only at hlt; omega, fun _ => ⟨o, rfl, hc⟩⟩
def NewPost (W : World) (B : List Int) (E : Ending) (w' : World) : Prop :=
  ∃ p q, W.heap.size ≤ p ∧ E = .returned (.pointer (some ⟨p, 0, none⟩)) ∧ Cur w' p q B 0 0 ∧ Below W.heap.size W w'
set_option maxRecDepth 100000 in
set_option maxHeartbeats 1000000 in
theorem New_any (W : World) (A : Option Addr) (c : Nat) (B : List Int) (hR : RdI W .u8 A B) (hB : Byts B) :
    Calls Tryz.prog 12 #[.slice A B.length c] W (NewPost W B) := by
  have HR := Lib.hid hR
  have hl := hB.1
  clear hR hB
  go_enter Tryz.func12, Tryz.ntmps12
  go_wp2_with (at_builtin; refine wpList_append_src W.heap.size rfl (.const (.slice none 0 0)) (.tmp 3) 22 5 (.int .u8 0) 1 1 rfl Tryz.underlying22 infoB8 rfl (by decide) (by decide) (.slice none 0 0) 0 [] (nums .u8 B) A B.length c rfl rfl (own_nil _ _ _ _) (by simp [nums]) HR.out.src (nums_one _ _) (Nat.le_refl _) (by omega) ?_; intro v1 w1 hown1 hg1 hat1; rw [Nat.zero_add, List.nil_append] at hown1; obtain ⟨A1, c1, rfl, hl1, hR1⟩ := own_rdI hown1 (by omega))
  have hle : B.length ≤ c1 := by
    rcases hown1.2 with ⟨e, _⟩ | ⟨g, cap, cur, e, _, _, hc, _⟩
    · injection e with _ e1 e2; omega
    · injection e with _ e1 e2; omega
  obtain ⟨q, hq, hby⟩ := rdI_byQ hR1 w1.heap.size (Nat.le_refl _)
  have hB1 : Below W.heap.size W w1 := (Below.refl W.heap.size W).grown hg1 (Nat.le_refl _) (fun k hk => by cases hk)
  go_ret
  exact ⟨w1.heap.size, q, hB1.size, rfl, ⟨hq, Nat.zero_le _, A1, c1, hle, Blk.new w1 _ _, hby.grown (World.grownBy_alloc w1 _ none) (by simp)⟩, hB1.alloc hB1.size _⟩
end Go.Proofs.YtofaiocffifhfaaGreat
end
section
namespace Go.Proofs.YtofaiocffifhfaaGreatB
open Go.RowKit Go.Proofs.YtofaiocffifhfaaGreatW.PrintWords
/-- Groups, written out. -/
def expand (l : List (Int × Int)) : List Int := l.flatMap (fun x => List.replicate x.1.toNat x.2)
theorem expand_snoc (l : List (Int × Int)) (x : Int × Int) : expand (l ++ [x]) = expand l ++ List.replicate x.1.toNat x.2 := by simp [expand]
theorem expand_len (l : List (Int × Int)) (h : ∀ x ∈ l, 0 ≤ x.1) : ((expand l).length : Int) = (l.map (·.1)).sum := by
  induction l with
  | nil => simp [expand]
  | cons x l ih =>
    have h0 := h x (by simp)
    have := ih (fun y hy => h y (by simp [hy]))
    simp only [expand, List.flatMap_cons, List.length_append, List.length_replicate, List.map_cons, List.sum_cons] at *
    omega
end Go.Proofs.YtofaiocffifhfaaGreatB
namespace Go.Proofs.YtofaiocffifhfaaGreat
open Go.RowKit Go.Shelf YtofaiocffifhfaaGreatB Go.Proofs.YtofaiocffifhfaaGreatW.PrintWords
def locM (B : List Int) (a : Nat) (e : Int) : List Int × Nat × Int :=
  let g := grpsM B (rdOf (countM B a) a e).1.toNat (rdOf (countM B a) a e).2.1 (rdOf (countM B a) a e).2.2
  if g.2.2 = 0 then (if 4294967295 < sumG g.1 then ([], g.2.1, 110) else if 1024 < sumG g.1 then ([], g.2.1, 3) else (expand g.1, g.2.1, 0)) else ([], g.2.1, g.2.2)
theorem rdOf_val {B : List Int} {a : Nat} {e : Int} (hB : Byts B) : 0 ≤ (rdOf (valM B a) a e).1 ∧ (rdOf (valM B a) a e).1 ≤ 255 := by
  unfold rdOf
  by_cases h : e = 0
  · rw [if_pos h]
    show 0 ≤ numV _ ∧ numV _ ≤ 255
    unfold valM amongM
    cases hb : B[a]? with
    | none => simp [numV]
    | some y =>
      have := hB.get hb
      dsimp only
      split
      · simp only [numV]; omega
      · simp [numV]
  · rw [if_neg h]; simp
theorem grpsM_all {B : List Int} (hB : Byts B) : ∀ (k a : Nat) (e : Int), ∀ x ∈ (grpsM B k a e).1, (0 ≤ x.1 ∧ x.1 ≤ 4294967295) ∧ 0 ≤ x.2 ∧ x.2 ≤ 255
  | 0, a, e, x, hx => by simp [grpsM] at hx
  | k + 1, a, e, x, hx => by
    rw [grpsM] at hx
    split at hx
    · rcases List.mem_cons.1 hx with rfl | hx
      · exact ⟨rdOf_u32 hB, rdOf_val hB⟩
      · exact grpsM_all hB k _ _ x hx
    · simp at hx
def LocPost (W : World) (p q : Nat) (B : List Int) (r : List Int × Nat × Int) (E : Ending) (W' : World) : Prop :=
  (∃ v, E = .returned v ∧ Own (rng .u8) 5 W' W.heap.size (fun _ => False) v r.1) ∧ Goes W W' p q B r.2.1 r.2.2
end Go.Proofs.YtofaiocffifhfaaGreat
end
section
namespace Go.Proofs.YtofaiocffifhfaaGreat
open Go.RowKit Go.Shelf YtofaiocffifhfaaGreatB Go.Proofs.YtofaiocffifhfaaGreatW.PrintWords
theorem expand_bd : ∀ l : List (Int × Int), (∀ x ∈ l, x.1 ≤ 4294967295) → (expand l).length ≤ 4294967295 * l.length
  | [], _ => by simp [expand]
  | x :: l, h => by
    have h0 := h x (by simp)
    have := expand_bd l (fun y hy => h y (by simp [hy]))
    simp only [expand, List.flatMap_cons, List.length_append, List.length_replicate, List.length_cons] at *
    omega
theorem Own_lower {α : Type} {d : Kd α} {e base base' : Nat} {W : World} {ok : Nat → Prop} {v : Value} {xs : List α} (h : Own d e W base ok v xs) (hb : base' ≤ base) : Own d e W base' ok v xs := by
  obtain ⟨inner, ⟨h1, h2⟩, hr⟩ := h
  refine ⟨inner, ⟨h1, ?_⟩, hr⟩
  rcases h2 with h2 | ⟨g, cap, cur, rfl, hg, r⟩
  · exact .inl h2
  · exact .inr ⟨g, cap, cur, rfl, by omega, r⟩
theorem grpsM_len (B : List Int) : ∀ (k a : Nat) (e : Int), (grpsM B k a e).1.length ≤ k
  | 0, _, _ => Nat.le_refl _
  | k + 1, a, e => by
    rw [grpsM]
    split
    · have := grpsM_len B k (grpM B a).2.1 (grpM B a).2.2
      simp only [List.length_cons]
      omega
    · simp
theorem g2_out {W X : World} {p : Nat} {o1 o2 : Obj} (h : G2 ((W.alloc o1).alloc o2) X p (W.heap.size + 1)) : W.grownBy X (some p) := by
  have hs := h.size
  rw [World.size_alloc, World.size_alloc] at hs
  exact ⟨h.os, h.tape, h.output, by omega, fun k hk hkp => (h.block k (by rw [World.size_alloc, World.size_alloc]; omega) (fun e => hkp (by rw [e])) (by omega)).trans ((Below.heap_alloc _ _ _ (by rw [World.size_alloc]; omega)).trans (Below.heap_alloc _ _ _ hk))⟩
set_option maxRecDepth 100000 in
set_option maxHeartbeats 1000000 in
theorem Locals_q (W : World) (p q : Nat) (B : List Int) (a : Nat) (e : Int) (hC : Cur W p q B a e) (hB : Byts B) (hq : W.heap.size + 1 ≠ q) :
    Calls Tryz.prog 13 #[.pointer (some ⟨p, 0, none⟩)] W (LocPost W p q B (locM B a e)) := by
  have hpl := hC.lt
  have hb1 := (Blk.new W #[.pointer (some ⟨p, 0, none⟩), .bool false] 67).alloc (.cells #[.int .u64 0] 125)
  have hb2 := Blk.new (W.alloc (.cells #[.pointer (some ⟨p, 0, none⟩), .bool false] 67)) #[.int .u64 0] 125
  rw [World.size_alloc] at hb2
  have HL := Lib.hid (listG_any _ p q W.heap.size (W.heap.size + 1) B a e false ((hC.alloc (.cells #[.pointer (some ⟨p, 0, none⟩), .bool false] 67)).alloc (.cells #[.int .u64 0] 125)) hB hb1 hb2 (by omega) (by omega) (by omega) hq)
  have hall := grpsM_all hB (rdOf (countM B a) a e).1.toNat (rdOf (countM B a) a e).2.1 (rdOf (countM B a) a e).2.2
  have hgl := grpsM_len B (rdOf (countM B a) a e).1.toNat (rdOf (countM B a) a e).2.1 (rdOf (countM B a) a e).2.2
  have hcr := countM_rd (a := a) (e := e) hB
  have hgl4 := Nat.le_trans hgl (show (rdOf (countM B a) a e).1.toNat ≤ 4096 by omega)
  clear hgl hcr
  have hlm : locM B a e = (let g := grpsM B (rdOf (countM B a) a e).1.toNat (rdOf (countM B a) a e).2.1 (rdOf (countM B a) a e).2.2; if g.2.2 = 0 then (if 4294967295 < sumG g.1 then ([], g.2.1, 110) else if 1024 < sumG g.1 then ([], g.2.1, 3) else (expand g.1, g.2.1, 0)) else ([], g.2.1, g.2.2)) := rfl
  obtain ⟨R, hR⟩ : ∃ R, R = locM B a e := ⟨_, rfl⟩
  rw [← hR]
  rw [hlm] at hR
  clear hlm
  generalize grpsM B (rdOf (countM B a) a e).1.toNat (rdOf (countM B a) a e).2.1 (rdOf (countM B a) a e).2.2 = g at *
  obtain ⟨gs, a3, e3⟩ := g
  dsimp only at hall hR hgl4
  have HRR := Lib.hid hR
  have HALL := Lib.hid hall
  clear hall hR hb1 hb2 hC hB
  go_enter Tryz.func13, Tryz.ntmps13
  go_wp2_with fail
  refine HL.out.mono ?_
  rintro E W1 ⟨v, rfl, hO, hC1, hbp, hbs, hg⟩
  have hsz := hg.size
  rw [World.size_alloc, World.size_alloc] at hsz
  obtain ⟨AG, cG, rfl, hcl, hFG⟩ := hO.reads
  have HFG := Lib.hid hFG
  have HC1 := Lib.hid hC1
  have HG := Lib.hid hg
  have b0 : W1.cell? ⟨W.heap.size, 0, none⟩ = some (.pointer (some ⟨p, 0, none⟩)) := hbp.cell 0
  have b1 : W1.cell? ⟨W.heap.size, 1, none⟩ = some (.bool false) := hbp.cell 1
  have s0 : W1.cell? ⟨W.heap.size + 1, 0, none⟩ = some (.int .u64 (sumG gs)) := hbs.cell 0
  have z1 : W.heap.size < W1.heap.size := by omega
  have z2 : W.heap.size + 1 < W1.heap.size := by omega
  clear hO hC1 hbp hbs hg hFG HL
  by_cases he : e3 = 0
  · subst he
    have HPG := Lib.hid (pgood_any W1 p q B a3 0 false true HC1.out rfl)
    go_wp2_with fail
    refine HPG.out.mono ?_
    rintro E w' ⟨rfl, rfl⟩
    have HG1 := Lib.hid (HG.out.alloc (.cells #[.pointer (some ⟨p, 0, none⟩), .bool false] 67))
    have HC2 := Lib.hid (HC1.out.alloc (.cells #[.pointer (some ⟨p, 0, none⟩), .bool false] 67))
    by_cases hs1 : 4294967295 < sumG gs
    · have HV := Lib.hid (show R = ([], a3, 110) from by have := HRR.out; simpa [hs1] using this)
      go_wp2_with fail
      refine (Fail_any _ p q B a3 0 110 HC2.out rfl).mono ?_
      rintro E w2 ⟨rfl, hG2⟩
      have HG2 := Lib.hid hG2
      clear hG2
      go_wp2_with fail
      go_ret
      rw [HV.out]
      exact ⟨⟨_, rfl, Own.nil⟩, HG2.out.1, (g2_out HG1.out).trans HG2.out.2⟩
    · by_cases hs2 : 1024 < sumG gs
      · have HV := Lib.hid (show R = ([], a3, 3) from by have := HRR.out; simpa [hs1, hs2] using this)
        go_wp2_with fail
        refine (Fail_any _ p q B a3 0 3 HC2.out rfl).mono ?_
        rintro E w2 ⟨rfl, hG2⟩
        have HG2 := Lib.hid hG2
        clear hG2
        go_wp2_with fail
        go_ret
        rw [HV.out]
        exact ⟨⟨_, rfl, Own.nil⟩, HG2.out.1, (g2_out HG1.out).trans HG2.out.2⟩
      · have HV := Lib.hid (show R = (expand gs, a3, 0) from by have := HRR.out; simpa [hs1, hs2] using this)
        obtain ⟨W3, hW3⟩ : ∃ W3, W1.alloc (.cells #[.pointer (some ⟨p, 0, none⟩), .bool false] 67) = W3 := ⟨_, rfl⟩
        have hz3 : W.heap.size + 2 ≤ W3.heap.size := by rw [← hW3, World.size_alloc]; omega
        have HF3 := Lib.hid (show FC kG W3 (fun k => k < W3.heap.size) AG gs from hW3 ▸ FC.of_old (Kd.C_below HFG.out.now ((Below.refl _ _).alloc (Nat.le_refl _) _)))
        rw [hW3] at HG1 HC2
        have s3 : W3.cell? ⟨W.heap.size + 1, 0, none⟩ = some (.int .u64 (sumG gs)) := by rw [← hW3]; exact pw_cell_below ((Below.refl _ _).alloc (Nat.le_refl _) _) s0
        have z3 : W.heap.size + 1 < W3.heap.size := by omega
        rw [hW3]
        clear hW3 HFG HC1 HG b0 b1 s0 hsz
        go_wp2_with fail
        go_loopw [6, 32] (fun v6 i wr => ∃ j : Nat, j ≤ gs.length ∧ i = .int .i64 j ∧ Hid (Own (rng .u8) 5 wr W3.heap.size (fun _ => False) v6 (expand (gs.take j))) ∧ Hid (Below W3.heap.size W3 wr)) (fun _ i _ => gs.length - (intOf i).toNat)
        case atStart => exact ⟨0, Nat.zero_le _, rfl, by show Own _ _ _ _ _ _ (expand []); exact Own.nil, Below.refl _ _⟩
        case round =>
          obtain ⟨wo, rfl⟩ : ∃ wo : World, wo = wr := ⟨_, rfl⟩
          obtain ⟨j, hj, rfl, HO, HBw⟩ := hrel
          by_cases hlt : j < gs.length
          · have hlt2 : (j : Int) < (gs.length : Int) := by omega
            obtain ⟨b, o, x, cs, rfl, hx, hk, hc⟩ := FC.at_ (Ft.below HF3.out HBw.out) (by decide) j hlt
            have hks : cs = [.int .u32 x.1, .int .u8 x.2] := hk.now
            subst hks
            have hz : kG.sz = 2 := rfl
            have d0 := hc 0 _ rfl
            have d1 := hc 1 _ rfl
            simp only [hz, Nat.add_zero] at d0 d1
            have hbl := World.block_lt_of_cell? _ _ d0
            have hxa := HALL.out x (List.mem_of_getElem? hx.out)
            have HX := Lib.hid hx.out
            obtain ⟨n, ty⟩ := x
            simp only at d0 d1 hxa
            obtain ⟨m, rfl⟩ := Int.eq_ofNat_of_zero_le hxa.1.1
            have hm1 : (m : Int) ≤ 4294967295 := hxa.1.2
            have HTY := Lib.hid hxa.2
            have HBx := Lib.hid (Blk.new wo #[.int .u32 m, .int .u8 ty] 129)
            have HO1 := Lib.hid (HO.out.below ((Below.refl _ _).alloc (Nat.le_refl _) (.cells #[.int .u32 m, .int .u8 ty] 129)))
            have HB1 := Lib.hid (HBw.out.alloc HBw.out.size (.cells #[.int .u32 m, .int .u8 ty] 129))
            have hwz := HBw.out.size
            clear hk hc hx hz hxa
            go_wp2_with fail
            go_loopw [6, 38] (fun v6 i wr => ∃ k : Nat, k ≤ m ∧ i = .int .u32 k ∧ Hid (Own (rng .u8) 5 wr W3.heap.size (fun _ => False) v6 (expand (gs.take j) ++ List.replicate k ty)) ∧ Hid (Below W3.heap.size W3 wr) ∧ Hid (Blk wr wo.heap.size #[.int .u32 m, .int .u8 ty] 129)) (fun _ i _ => m - (intOf i).toNat)
            case atStart => exact ⟨0, Nat.zero_le _, rfl, by rw [List.replicate_zero, List.append_nil]; exact HO1.out, HB1, HBx⟩
            case round =>
              obtain ⟨k, hk, rfl, HOk, HBk, HXk⟩ := hrel
              have x0 : wr.cell? ⟨wo.heap.size, 0, none⟩ = some (.int .u32 m) := HXk.out.cell 0
              have x1 : wr.cell? ⟨wo.heap.size, 1, none⟩ = some (.int .u8 ty) := HXk.out.cell 1
              have hxl := HXk.out.lt
              by_cases hlk : k < m
              · have hlk2 : (k : Int) < (m : Int) := by omega
                have HFk : FK (rng .u8) wr (fun q => False ∧ some q ≠ u6.ownBlock) ty [.int .u8 ty] := fun _ _ => ⟨rfl, by have := HTY.out; simp [Lit.wf, IntKind.min, IntKind.max, IntKind.signed, IntKind.bits]; omega⟩
                have hgs : W3.heap.size ≤ wr.heap.size := HBk.out.size
                have hbd := expand_bd (gs.take j) (fun y hy => (HALL.out y (List.mem_of_mem_take hy)).1.2)
                rw [List.length_take] at hbd
                have hnX : some wo.heap.size ≠ u6.ownBlock := fun e => by
                  obtain ⟨_, ho, _⟩ := HOk.out
                  obtain ⟨cs, hcs⟩ := own_typed ho _ e.symm
                  rw [HXk.out] at hcs
                  simp at hcs
                have hown : ∀ q, u6.ownBlock = some q → W3.heap.size ≤ q := fun q hq => (Own.block HOk.out hq).1
                have hbd2 : (expand (gs.take j) ++ List.replicate k ty).length + 1 ≤ 140737488355328 := by
                  rw [List.length_append, List.length_replicate]
                  have : min j gs.length ≤ 4096 := by omega
                  have : 4294967295 * min j gs.length ≤ 4294967295 * 4096 := Nat.mul_le_mul_left _ this
                  omega
                clear hbd
                go_wp2_with (at_builtin; refine Own.append (d := rng .u8) W3.heap.size rfl (.tmp 40) (.tmp 43) 22 5 _ 1 rfl Tryz.underlying22 infoB8 rfl (by decide) (by decide) u6 _ ty _ (fun _ => False) rfl rfl HFk HOk.out hgs (by omega) ?_; intro v1 w1 hown1 hg1 hat1)
                have HO3 := Lib.hid hown1
                have HG3 := Lib.hid hg1
                clear hown1 hg1 hat1 HFk
                go_wp2_with fail
                go_roundw
                case rel =>
                  refine ⟨k + 1, by omega, by go_num, ?_, HBk.out.grown HG3.out hgs hown, HXk.out.grown HG3.out hnX⟩
                  rw [List.replicate_succ', ← List.append_assoc]
                  exact HO3.out
                case measure => simp [intOf]; omega
              · obtain rfl : k = m := by omega
                go_wp2_with fail
                go_roundw
                case rel =>
                  refine ⟨j + 1, by omega, by go_num, ?_, HBk⟩
                  rw [List.take_add_one, HX.out]
                  show Own _ _ _ _ _ _ (expand (gs.take j ++ [((k : Int), ty)]))
                  rw [expand_snoc]
                  exact HOk.out
                case measure => simp [intOf]; omega
          · obtain rfl : j = gs.length := by omega
            go_wp2_with fail
            go_ret
            rw [HV.out]
            rw [List.take_length] at HO
            exact ⟨⟨_, rfl, Own_lower HO.out (by omega)⟩, HC2.out.below HBw.out, (g2_out HG1.out).trans (grown_below HBw.out (some p))⟩
  · have he2 : (e3 == 0) = false := beq_eq_false_iff_ne.2 he
    have HPG := Lib.hid (pgood_any W1 p q B a3 e3 false false HC1.out he2)
    have HV := Lib.hid (HRR.out.trans (if_neg he))
    clear he he2
    go_wp2_with fail
    refine HPG.out.mono ?_
    rintro E w' ⟨rfl, rfl⟩
    go_wp2_with fail
    go_ret
    rw [HV.out]
    refine ⟨⟨_, rfl, Own.nil⟩, HC1.out.alloc _, ?_⟩
    exact g2_out (HG.out.alloc _)
end Go.Proofs.YtofaiocffifhfaaGreat
end
section
namespace Go.Proofs.YtofaiocffifhfaaGreatB
open Go.RowKit Go.Proofs.YtofaiocffifhfaaGreatW.PrintWords
section
variable {α : Type} {d : Kd α} {W : World} {ok : Nat → Prop} {A : Option Addr} {xs : List α}
/-- A row that is read, its cells one behind the other. -/
theorem FC.inner (h : FC d W ok A xs) (h1 : 0 < d.sz) :
    ∃ inner, Reps (fun x c => FK d W ok x c) d.sz xs inner ∧ (0 < xs.length → ∃ ad, A = some ad ∧ ∀ j u, inner[j]? = some u → W.cell? (ad.add j) = some u) := by
  rcases Nat.eq_zero_or_pos xs.length with hz | hz
  · obtain rfl : xs = [] := List.eq_nil_of_length_eq_zero hz
    exact ⟨[], Reps.none _ _, fun h => absurd h (by simp)⟩
  · obtain ⟨b0, o0, _, _, rfl, _⟩ := FC.at_ h h1 0 hz
    have key : ∀ m, m ≤ xs.length → ∃ inner, Reps (fun x c => FK d W ok x c) d.sz (xs.take m) inner ∧ ∀ j u, inner[j]? = some u → W.cell? ⟨b0, o0 + j, none⟩ = some u := by
      intro m
      induction m with
      | zero => exact fun _ => ⟨[], Reps.none _ _, fun j u hu => by simp at hu⟩
      | succ m ih =>
        intro hm
        obtain ⟨inner, hr, hc⟩ := ih (by omega)
        obtain ⟨b, o, x, cs, e, hx, hk, hcc⟩ := FC.at_ h h1 m (by omega)
        injection e with e
        injection e with e1 e2
        subst e1 e2
        refine ⟨inner ++ cs, ?_, fun j u hu => ?_⟩
        · rw [List.take_add_one, hx.out]
          exact hr.snoc hk (d.K_len hk.now)
        · have hil : inner.length = m * d.sz := by rw [hr.1, List.length_take, Nat.min_eq_left (by omega)]
          rcases Nat.lt_or_ge j inner.length with hj | hj
          · rw [List.getElem?_append_left hj] at hu
            exact hc j u hu
          · rw [List.getElem?_append_right hj] at hu
            have := hcc (j - inner.length) u hu
            rwa [show o0 + m * d.sz + (j - inner.length) = o0 + j from by omega] at this
    obtain ⟨inner, hr, hc⟩ := key xs.length (Nat.le_refl _)
    rw [List.take_length] at hr
    exact ⟨inner, hr, fun _ => ⟨_, rfl, fun j u hu => by rw [show (⟨b0, o0, none⟩ : Addr).add j = ⟨b0, o0 + j, none⟩ from by unfold Addr.add; split <;> simp_all]; exact hc j u hu⟩⟩
end
section
variable {α : Type} {d : Kd α} {P : Program} {ops : Array Oper} {rest : List Oper} {o : Oper} {a : Act} {Q : Exit → Act → World → Prop} {W : World}
/-- append(v, ys...): v a row of one's own, ys whatever is read. -/
theorem Own.run_append_row (base : Nat) (t e ty : TypeId) (z : Value) (bytes : Nat)
    (ht : P.underlying t = some (.slice e)) (hinfo : (P.info? e).map (fun i => (i.zero, i.size, i.bytes)) = some (some z, d.sz, bytes)) (hz : z.cells.size = d.sz) (hs0 : 0 < d.sz) (hb0 : 0 < bytes)
    (v : Value) (xs ys : List α) (A : Option Addr) (c : Nat) (ok : Nat → Prop) (HY : FC d W (fun k => ok k ∧ some k ≠ v.ownBlock) A ys)
    (HO : Own d e W base ok v xs) (hbase : base ≤ W.heap.size) (hl : (xs.length + ys.length) * bytes ≤ 140737488355328) :
    ∃ v1 w1, (Builtin.append_ #[t, t] ty #[v, .slice A ys.length c]).run P W = .ok v1 w1 ∧ Own d e w1 base ok v1 (xs ++ ys) ∧ W.grownBy w1 v.ownBlock ∧ (v1.ownBlock = v.ownBlock ∨ v1.ownBlock = some W.heap.size) := by
  obtain ⟨inner, hown, hr⟩ := HO
  obtain ⟨news, hn, hsrc⟩ := HY.inner hs0
  obtain ⟨v1, w1, hrun, hown1, hg, hat⟩ := run_append_src (P := P) base t e ty z d.sz bytes ht hinfo hz hs0 hb0 v xs.length inner news A ys.length c hown hn.1 hsrc (fun u hu => by
    obtain ⟨j, hj, rfl⟩ := List.getElem_of_mem hu
    have hjl : j / d.sz < ys.length := by rw [hn.1] at hj; exact Nat.div_lt_of_lt_mul (by rw [Nat.mul_comm]; exact hj)
    have hk := hn.2 (j / d.sz) _ (List.getElem?_eq_getElem hjl)
    refine d.K_one hk.now _ (List.mem_of_getElem? (i := j % d.sz) ?_)
    rw [List.getElem?_take, if_pos (Nat.mod_lt _ hs0), List.getElem?_drop, show j / d.sz * d.sz + j % d.sz = j from by rw [Nat.mul_comm]; exact Nat.div_add_mod j d.sz, List.getElem?_eq_getElem hj]) hbase hl
  refine ⟨v1, w1, hrun, ⟨inner ++ news, by rw [List.length_append]; exact hown1, ?_⟩, hg, hat⟩
  have hnew : ∀ k, k < W.heap.size → some k ≠ v.ownBlock → some k ≠ v1.ownBlock := by
    intro k hk hne
    rcases hat with hat | hat
    · rw [hat]; exact hne
    · rw [hat]
      intro e
      injection e with e
      omega
  have hmove : ∀ p c, FK d W (fun k => ok k ∧ some k ≠ v.ownBlock) p c → FK d w1 (fun k => ok k ∧ some k ≠ v1.ownBlock) p c := fun p c hp =>
    Ft.grown (Ft.bound hp (fun k hk hlt => (⟨⟨hk.1, hnew k hlt hk.2⟩, hk.2⟩ : (ok k ∧ some k ≠ v1.ownBlock) ∧ some k ≠ v.ownBlock))) hg (fun k hk => hk.2) |>.mono (fun k hk => hk.1)
  exact Kd.reps_append (hr.imp_ hmove) (hn.imp_ hmove)
theorem Own.append_row (base : Nat) (hgd : o.guard = none) (s x : Operand) (t e : TypeId) (z : Value) (bytes : Nat)
    (ho : o.op = .call { callee := .builtin .append, args := #[s, x], argTypes := #[t, t] })
    (ht : P.underlying t = some (.slice e)) (hinfo : (P.info? e).map (fun i => (i.zero, i.size, i.bytes)) = some (some z, d.sz, bytes)) (hz : z.cells.size = d.sz) (hs0 : 0 < d.sz) (hb0 : 0 < bytes)
    (v : Value) (xs ys : List α) (A : Option Addr) (c : Nat) (ok : Nat → Prop) (hs : a.eval s = v) (hx : a.eval x = .slice A ys.length c) (HY : FC d W (fun k => ok k ∧ some k ≠ v.ownBlock) A ys)
    (HO : Own d e W base ok v xs) (hbase : base ≤ W.heap.size) (hl : (xs.length + ys.length) * bytes ≤ 140737488355328)
    (h : ∀ v1 w1, Own d e w1 base ok v1 (xs ++ ys) → W.grownBy w1 v.ownBlock → (v1.ownBlock = v.ownBlock ∨ v1.ownBlock = some W.heap.size) → wpList P ops Q rest (a.put o.dst v1) w1) :
    wpList P ops Q (o :: rest) a W := by
  obtain ⟨v1, w1, hr, h2, h3, h5⟩ := Own.run_append_row (P := P) base t e o.type z bytes ht hinfo hz hs0 hb0 v xs ys A c ok HY HO hbase hl
  refine wpList_plain hgd fun K hK => ?_
  unfold Oper.wp execOp
  simp only [ho, resolve, invoke, builtin, Sem.run_bind, Sem.run_pure, Result.andThen_ok, List.map_toArray, List.map_cons, List.map_nil, hs, hx, hr]
  exact hK _ _ (h v1 w1 h2 h3 h5)
end
end Go.Proofs.YtofaiocffifhfaaGreatB
end
section
namespace Go.Proofs.YtofaiocffifhfaaGreat
open Go.RowKit Go.Shelf YtofaiocffifhfaaGreatB Go.Proofs.YtofaiocffifhfaaGreatW.PrintWords
def takeM (B : List Int) (a n : Nat) : Except Int (List Int × Nat) := if a + n ≤ B.length then .ok ((B.drop a).take n, a + n) else .error 100
theorem byQ_FC {W : World} {q : Nat} {A : Option Addr} {L : List Int} (h : ByQ W q A L) (hL : ∀ x ∈ L, 0 ≤ x ∧ x ≤ 255) (hl : L.length ≤ 1048576) : FC (rng .u8) W (fun k => k = q) A L := fun W' hW => by
  refine ⟨rfl, by first | omega | (simp only [maxLen]; omega), fun hp => ?_⟩
  obtain ⟨o, rfl, hc⟩ := h hp
  refine ⟨⟨q, o, none⟩, rfl, fun i x hi => ⟨[.int .u8 x], rfl, ⟨rfl, ?_⟩, fun j u hu => ?_⟩⟩
  · have := hL x (List.mem_of_getElem? hi)
    simp [Lit.wf, IntKind.min, IntKind.max, IntKind.signed, IntKind.bits]
    omega
  · have hj : j = 0 := by
      have := (List.getElem?_eq_some_iff.1 hu).1
      simpa using this
    subst hj
    simp only [List.getElem?_cons_zero, Option.some.injEq] at hu
    subst hu
    have hcell := hc i x hi
    have hlt := World.block_lt_of_cell? _ _ hcell
    have hb := hW.block q rfl hlt
    have : W'.cell? ⟨q, o + i, none⟩ = W.cell? ⟨q, o + i, none⟩ := by simp [World.cell?, hb]
    rw [show (⟨q, o, none⟩ : Addr).add (i * (rng .u8).sz + 0) = ⟨q, o + i, none⟩ from by unfold Addr.add; split <;> simp_all [rng]]
    rw [this, hcell]
def Take1Post (W : World) (p q : Nat) (B : List Int) (a n : Nat) (E : Ending) (w' : World) : Prop :=
  ∃ v, E = .returned v ∧ Own (rng .u8) 5 w' W.heap.size (fun _ => False) v (match takeM B a n with | .ok (l, _) => l | .error _ => []) ∧
    Goes W w' p q B (match takeM B a n with | .ok (_, nx) => nx | .error _ => a) (match takeM B a n with | .ok _ => 0 | .error e => e)
theorem own_any {k : IntKind} {e : Nat} {W : World} {base : Nat} {ok ok' : Nat → Prop} {v : Value} {xs : List Int} (h : Own (rng k) e W base ok v xs) : Own (rng k) e W base ok' v xs := by
  obtain ⟨inner, ho, hr⟩ := h
  exact ⟨inner, ho, hr.imp_ (fun _ _ hp _ _ => hp.now)⟩
set_option maxRecDepth 100000 in
theorem Take1_any (W : World) (p q r s : Nat) (B : List Int) (a n : Nat) (hC : Cur W p q B a 0) (hB : Byts B) (hn : n ≤ 4294967295) (hr : W.cell? ⟨r, 0, none⟩ = some (.pointer (some ⟨p, 0, none⟩))) (hs : W.cell? ⟨s, 0, none⟩ = some (.int .u32 n)) :
    Calls Tryz.prog 102 #[.pointer (some ⟨r, 0, none⟩), .pointer (some ⟨s, 0, none⟩)] W (Take1Post W p q B a n) := by
  by_cases h : a + n ≤ B.length
  · have hT : takeM B a n = .ok ((B.drop a).take n, a + n) := if_pos h
    have hP : ∀ E w', (∃ v, E = .returned v ∧ Own (rng .u8) 5 w' W.heap.size (fun _ => False) v ((B.drop a).take n) ∧ Goes W w' p q B (a + n) 0) → Take1Post W p q B a n E w' := fun E w' h => by unfold Take1Post; rw [hT]; exact h
    have h0 := take_yes W p q B a n hC hB h
    have hpl := hC.lt
    have hbl := hB.1
    have hl : ∀ x ∈ (B.drop a).take n, 0 ≤ x ∧ x ≤ 255 := fun x hx => hB.2 x (List.mem_of_mem_drop (List.mem_of_mem_take hx))
    have hql : 0 < B.length → q < W.heap.size := fun hl => hC.qlt' hl
    have hll : ((B.drop a).take n).length = n := by rw [List.length_take, List.length_drop]; omega
    generalize (B.drop a).take n = L at *
    subst hll
    have hnb : L.length ≤ 1048576 := by omega
    have H := Lib.hid h0
    have HP := Lib.hid hP
    have HL := Lib.hid hl
    have HQ := Lib.hid hql
    have hBl : a + L.length ≤ B.length := h
    clear hT hC hB h0 hP hl h hql
    go_enter Tryz.func102, Tryz.ntmps102
    go_wp2_with fail
    refine H.out.mono ?_
    rintro E W2 ⟨⟨A', c', rfl, hQ⟩, hG⟩
    have HF : FC (rng .u8) W2 (fun k => k = q ∧ some k ≠ (Value.slice none 0 0).ownBlock) A' L := Ft.mono (byQ_FC hQ HL.out hnb) (fun k hk => ⟨hk, by simp [Value.ownBlock]⟩)
    have HG := Lib.hid hG
    have hgs := hG.2.size
    clear hQ hG
    go_wp2_with (at_builtin; refine Own.append_row (d := rng .u8) W.heap.size rfl (.const (.slice none 0 0)) (.tmp 6) 22 5 (.int .u8 0) 1 rfl Tryz.underlying22 infoB8 rfl (by decide) (by decide) (.slice none 0 0) [] L A' c' (fun k => k = q) rfl rfl HF Own.nil hgs (by simp only [List.length_nil]; omega) ?_; intro v1 w1 hown1 hg1 hat1; rw [List.nil_append] at hown1)
    have HO := Lib.hid hown1
    have HG1 := Lib.hid hg1
    clear hown1 hg1 hat1 HF
    go_wp2_with fail
    go_ret
    have hg : W2.grownBy w1 none := HG1.out
    exact HP.out _ _ ⟨v1, rfl, own_any HO.out, HG.out.1.grown' hg (by simp) (by simp), HG.out.2.trans ⟨hg.os, hg.tape, hg.output, hg.size, fun k hk _ => hg.block k hk (by simp)⟩⟩
  · have hT : takeM B a n = .error 100 := if_neg h
    have HP := Lib.hid (show ∀ E w', (∃ v, E = .returned v ∧ Own (rng .u8) 5 w' W.heap.size (fun _ => False) v [] ∧ Goes W w' p q B a 100) → Take1Post W p q B a n E w' from fun E w' h => by unfold Take1Post; rw [hT]; exact h)
    have H := Lib.hid (take_no W p q B a n hC hB (by omega) (by omega))
    have hpl := hC.lt
    clear hT hC hB
    go_enter Tryz.func102, Tryz.ntmps102
    go_wp2_with fail
    refine H.out.mono ?_
    rintro E W2 ⟨rfl, hG⟩
    have HG := Lib.hid hG
    clear hG
    go_wp2_with fail
    go_ret
    exact HP.out _ _ ⟨_, rfl, Own.nil, HG.out⟩
end Go.Proofs.YtofaiocffifhfaaGreat
end
section
namespace Go.Proofs.YtofaiocffifhfaaGreat
open Go.RowKit Go.Shelf YtofaiocffifhfaaGreatB Go.Proofs.YtofaiocffifhfaaGreatW.PrintWords
/-- A list that is read: what, where, the failure. -/
def rdL {α : Type} (r : Except Int (List α × Nat)) (a : Nat) (e : Int) : List α × Nat × Int := if e = 0 then (match r with | .ok (l, nx) => (l, nx, 0) | .error e' => ([], a, e')) else ([], a, e)
def TakePost (W : World) (p q : Nat) (B : List Int) (r : List Int × Nat × Int) (E : Ending) (w' : World) : Prop :=
  (∃ v, E = .returned v ∧ Own (rng .u8) 5 w' W.heap.size (fun _ => False) v r.1) ∧ Goes W w' p q B r.2.1 r.2.2
theorem ent_Take1 : Enters Tryz.prog 102 := enters_of Tryz.func102 (by kernel_rfl) rfl
set_option maxRecDepth 100000 in
theorem Take_any (W : World) (p q : Nat) (B : List Int) (a n : Nat) (e : Int) (hC : Cur W p q B a e) (hB : Byts B) (hn : n ≤ 4294967295) :
    Calls Tryz.prog 71 #[.pointer (some ⟨p, 0, none⟩), .int .u32 n] W (TakePost W p q B (rdL (takeM B a n) a e)) := by
  have hC2 := (hC.alloc (.cells #[.pointer (some ⟨p, 0, none⟩)] 53)).alloc (.cells #[.int .u32 n] 30)
  have hb1 := (Blk.new W #[.pointer (some ⟨p, 0, none⟩)] 53).alloc (.cells #[.int .u32 n] 30)
  have hb2 := Blk.new (W.alloc (.cells #[.pointer (some ⟨p, 0, none⟩)] 53)) #[.int .u32 n] 30
  rw [World.size_alloc] at hb2
  have HP := Lib.hid (fun (E : Ending) (w' : World) (h : (∃ v, E = .returned v ∧ Own (rng .u8) 5 w' W.heap.size (fun _ => False) v (rdL (takeM B a n) a e).1) ∧ Goes W w' p q B (rdL (takeM B a n) a e).2.1 (rdL (takeM B a n) a e).2.2) => (h : TakePost W p q B (rdL (takeM B a n) a e) E w'))
  by_cases he : e = 0
  · subst he
    have H := reads_v_bytes _ p q B a (match takeM B a n with | .ok (_, nx) => nx | .error _ => a) _ ent_Take1 #[.pointer (some ⟨W.heap.size, 0, none⟩), .pointer (some ⟨W.heap.size + 1, 0, none⟩)]
      (fun v w' => Own (rng .u8) 5 w' W.heap.size (fun _ => False) v (match takeM B a n with | .ok (l, _) => l | .error _ => [])) (match takeM B a n with | .ok _ => 0 | .error e => e) hC2
      ((Take1_any _ p q W.heap.size (W.heap.size + 1) B a n hC2 hB hn (hb1.cell 0) (hb2.cell 0)).mono fun E w' ⟨v, h1, h2, h3⟩ => ⟨v, h1, Own_lower h2 (by simp; omega), h3⟩)
    have hT : takeM B a n = (if a + n ≤ B.length then .ok ((B.drop a).take n, a + n) else .error 100) := rfl
    have HH := Lib.hid (show ∀ E w', RvPost (.slice none 0 0) ((W.alloc (.cells #[.pointer (some ⟨p, 0, none⟩)] 53)).alloc (.cells #[.int .u32 n] 30)) p q B a (match takeM B a n with | .ok (_, nx) => nx | .error _ => a) (match takeM B a n with | .ok _ => 0 | .error e => e) (fun v w' => Own (rng .u8) 5 w' W.heap.size (fun _ => False) v (match takeM B a n with | .ok (l, _) => l | .error _ => [])) E w' → ∃ v, E = .returned v ∧ TakePost W p q B (rdL (takeM B a n) a 0) (.returned v) w' from by
      rintro E w' ⟨⟨v, rfl, h1, h2⟩, h3⟩
      refine ⟨v, rfl, HP.out _ _ ⟨⟨v, rfl, ?_⟩, ?_⟩⟩
      · unfold rdL
        rw [if_pos rfl]
        by_cases hc : a + n ≤ B.length
        · rw [if_pos hc] at hT
          rw [hT] at h1 ⊢
          exact h1 rfl
        · rw [if_neg hc] at hT
          rw [hT] at h2 ⊢
          rw [h2 (by decide)]
          exact Own.nil
      · unfold rdL
        rw [if_pos rfl]
        have h4 := (h3.of_alloc).of_alloc
        by_cases hc : a + n ≤ B.length
        · rw [if_pos hc] at hT
          rw [hT] at h4 ⊢
          exact h4
        · rw [if_neg hc] at hT
          rw [hT] at h4 ⊢
          exact h4)
    have H0 := Lib.hid H
    clear H hC hC2 hB hb1 hb2 HP hT
    go_enter Tryz.func71, Tryz.ntmps71
    go_wp2_with fail
    refine H0.out.mono ?_
    rintro E W1 h
    obtain ⟨v, rfl, h2⟩ := HH.out _ _ h
    have HP := Lib.hid h2
    clear h h2 HH H0
    go_wp2_with fail
    go_ret
    exact HP.out
  · have H := Lib.hid (reads_bad_bytes _ p q B a e (.func (.func 102) #[] #[.pointer (some ⟨W.heap.size, 0, none⟩), .pointer (some ⟨W.heap.size + 1, 0, none⟩)]) hC2 (beq_eq_false_iff_ne.2 he))
    have HV := Lib.hid (show rdL (takeM B a n) a e = ([], a, e) from by simp [rdL, he])
    have HG := Lib.hid (Goes.of_alloc (Goes.of_alloc (Goes.same hC2)))
    clear hC hC2 hB he hb1 hb2 HP
    go_enter Tryz.func71, Tryz.ntmps71
    go_wp2_with fail
    refine H.out.mono ?_
    rintro E W1 ⟨rfl, rfl⟩
    go_wp2_with fail
    go_ret
    rw [HV.out]
    exact ⟨⟨_, rfl, Own.nil⟩, HG.out⟩
end Go.Proofs.YtofaiocffifhfaaGreat
end
section
namespace Go.Proofs.YtofaiocffifhfaaGreat
open Go.RowKit Go.Shelf YtofaiocffifhfaaGreatB Go.Proofs.YtofaiocffifhfaaGreatW.PrintWords
def tysM (B : List Int) : Nat → Nat → Int → List Int × Nat × Int
  | 0, a, e => ([], a, e)
  | k + 1, a, e => if e = 0 then ((rdOf (valM B a) a 0).1 :: (tysM B k (rdOf (valM B a) a 0).2.1 (rdOf (valM B a) a 0).2.2).1, (tysM B k (rdOf (valM B a) a 0).2.1 (rdOf (valM B a) a 0).2.2).2) else ([], a, e)
theorem tysM_bad (B : List Int) (k a : Nat) (e : Int) (h : (e == 0) = false) : tysM B k a e = ([], a, e) := by
  cases k with
  | zero => rfl
  | succ k => rw [tysM, if_neg (by simpa using h)]
/-- Between two rounds. -/
structure LT (W : World) (p q : Nat) (B : List Int) (target : List Int × Nat × Int) (c j : Nat) (v : Value) (done : List Int) (a : Nat) (e : Int) (X : World) : Prop where
  own : Own (rng .u8) 5 X W.heap.size (fun _ => False) v done
  cur : Cur X p q B a e
  g : W.grownBy X (some p)
  t : (done ++ (tysM B (c - j) a e).1, (tysM B (c - j) a e).2) = target
  len : done.length ≤ j
theorem grown_jj {W W1 W2 : World} {row row1 : Option Nat} (h : W.grownBy W1 row) (h1 : W1.grownBy W2 row1) (hr : ∀ k, row1 = some k → row = some k ∨ W.heap.size ≤ k) : W.grownBy W2 row := by
  refine ⟨h1.os.trans h.os, h1.tape.trans h.tape, h1.output.trans h.output, Nat.le_trans h.size h1.size, fun k hk hne => ?_⟩
  refine (h1.block k (Nat.lt_of_lt_of_le hk h.size) (fun e => ?_)).trans (h.block k hk hne)
  rcases hr k e.symm with h | h
  · exact hne h.symm
  · omega
def tysOf (B : List Int) (a : Nat) (e : Int) : List Int × Nat × Int := tysM B (rdOf (countM B a) a e).1.toNat (rdOf (countM B a) a e).2.1 (rdOf (countM B a) a e).2.2
set_option maxRecDepth 100000 in
set_option maxHeartbeats 1000000 in
theorem listT_any (W : World) (p q : Nat) (B : List Int) (a : Nat) (e : Int) (hC : Cur W p q B a e) (hB : Byts B) :
    Calls Tryz.prog 108 #[.pointer (some ⟨p, 0, none⟩), .func (.func 35) #[.pointer (some ⟨p, 0, none⟩)] #[]] W (TakePost W p q B (tysOf B a e)) := by
  have hc := countM_rd (a := a) (e := e) hB
  have hin : ∀ args w, Sem.run Tryz.prog (callFunc 35 args) w = .ok (.enter 35 args) w := enters_of Tryz.func35 (by kernel_rfl) rfl
  have hpl := hC.lt
  have HQ := Lib.hid (fun hl => hC.qlt' hl : 0 < B.length → q < W.heap.size)
  have H0 := Lib.hid (Count_any _ p q B a e hC hB)
  have hdef : tysOf B a e = tysM B (rdOf (countM B a) a e).1.toNat (rdOf (countM B a) a e).2.1 (rdOf (countM B a) a e).2.2 := rfl
  rw [hdef]
  clear hdef
  generalize rdOf (countM B a) a e = r at *
  obtain ⟨n, a0, e0⟩ := r
  dsimp only at hc
  obtain ⟨c, rfl⟩ := Int.eq_ofNat_of_zero_le hc.1
  rw [Int.toNat_natCast]
  obtain ⟨tg, htg⟩ : ∃ tg, tysM B c a0 e0 = tg := ⟨_, rfl⟩
  have HTG := Lib.hid htg
  rw [htg]
  have hc2 : (c : Int) ≤ 4096 := hc.2
  have HB := Lib.hid hB
  clear hC hB hc htg
  go_enter Tryz.func108, Tryz.ntmps108
  go_wp2_with fail
  refine H0.out.mono ?_
  rintro E W1 ⟨rfl, hG1⟩
  have HL := Lib.hid (⟨Own.nil, hG1.1, hG1.2, by rw [Nat.sub_zero, HTG.out]; rfl, Nat.le_refl _⟩ : LT W p q B tg c 0 (.slice none 0 0) [] a0 e0 W1)
  clear hG1 H0
  go_wp2_with fail
  go_loopw [5, 7] (fun v i wr => ∃ (j : Nat) (done : List Int) (a : Nat) (e : Int), j ≤ c ∧ i = .int .i64 j ∧ Hid (LT W p q B tg c j v done a e wr)) (fun _ i _ => c - (intOf i).toNat)
  case atStart => exact ⟨0, [], a0, e0, Nat.zero_le _, rfl, HL⟩
  case round =>
    obtain ⟨j, done, a', e', hj, rfl, HLj⟩ := hrel
    clear HL
    by_cases hlt : j < c
    · have hlt2 : (j : Int) < (c : Int) := by omega
      by_cases he : e' = 0
      · subst he
        have HPG := Lib.hid (good_any wr p q B a' 0 true HLj.out.cur rfl)
        have HV := Lib.hid (Value_any wr p q B a' 0 HLj.out.cur HB.out)
        have hv := rdOf_val (a := a') (e := 0) HB.out
        have ht0 := HLj.out.t
        rw [show c - j = (c - (j + 1)) + 1 from by omega, tysM, if_pos rfl] at ht0
        generalize rdOf (valM B a') a' 0 = r at *
        obtain ⟨ty, a1, e1⟩ := r
        dsimp only at hv
        have HT0 := Lib.hid ht0
        have hX := HLj.out.g.size
        have hdl := HLj.out.len
        clear ht0
        go_wp2_with (go_at_call 96; refine HPG.out.mono ?_; rintro E wg ⟨rfl, rfl⟩)
        refine HV.out.mono ?_
        rintro E W2 ⟨rfl, hG2⟩
        have hz2 := hG2.2.size
        have hne : ∀ k, u5.ownBlock = some k → W.heap.size ≤ k := fun k hk => (Own.block HLj.out.own hk).1
        have np : u5.ownBlock ≠ some p := fun e => by have := hne _ e; omega
        have HO2 := Lib.hid (HLj.out.own.grown hG2.2 (.inr np) (fun k hk => hk.elim))
        have HG2 := Lib.hid (HLj.out.g.trans hG2.2)
        have HC2 := Lib.hid hG2.1
        have HF : FK (rng .u8) W2 (fun k => False ∧ some k ≠ u5.ownBlock) ty [.int .u8 ty] := fun _ _ => ⟨rfl, by simp [Lit.wf, IntKind.min, IntKind.max, IntKind.signed, IntKind.bits]; omega⟩
        have hgs : W.heap.size ≤ W2.heap.size := by omega
        clear hG2 HV HPG
        go_wp2_with (at_builtin; refine Own.append (d := rng .u8) W.heap.size rfl (.tmp 21) (.tmp 24) 22 5 _ 1 rfl Tryz.underlying22 infoB8 rfl (by decide) (by decide) u5 done ty _ (fun _ => False) rfl rfl HF HO2.out hgs (by omega) ?_; intro v1 w1 hown1 hg1 hat1)
        have HO3 := Lib.hid hown1
        have HG3 := Lib.hid hg1
        clear hown1 hg1 hat1 HF HO2
        go_wp2_with fail
        go_roundw
        case rel =>
          refine ⟨j + 1, done ++ [ty], a1, e1, by omega, by go_num, ⟨HO3.out, HC2.out.grown' HG3.out (fun e => np e.symm) (fun hl e => by have := hne _ e.symm; have := HQ.out hl; omega), grown_jj HG2.out HG3.out (fun k hk => .inr (hne k hk)), ?_, by simp; omega⟩⟩
          rw [← HT0.out, List.append_assoc]
          rfl
        case measure => simp [intOf]; omega
      · have he2 : (e' == 0) = false := beq_eq_false_iff_ne.2 he
        have HPG := Lib.hid (good_any wr p q B a' e' false HLj.out.cur he2)
        have ht := HLj.out.t
        rw [tysM_bad _ _ _ _ he2, List.append_nil] at ht
        have HT := Lib.hid ht
        clear ht he he2
        go_wp2_with (go_at_call 96; refine HPG.out.mono ?_; rintro E wg ⟨rfl, rfl⟩)
        go_ret
        rw [← HT.out]
        exact ⟨⟨_, rfl, HLj.out.own⟩, HLj.out.cur, HLj.out.g⟩
    · obtain rfl : j = c := by omega
      have ht := HLj.out.t
      rw [Nat.sub_self, tysM, List.append_nil] at ht
      have HT := Lib.hid ht
      clear ht
      go_wp2_with fail
      go_ret
      rw [← HT.out]
      exact ⟨⟨_, rfl, HLj.out.own⟩, HLj.out.cur, HLj.out.g⟩
end Go.Proofs.YtofaiocffifhfaaGreat
end
section
namespace Go.Proofs.YtofaiocffifhfaaGreat
open Go.RowKit Go.Shelf YtofaiocffifhfaaGreatB Go.Proofs.YtofaiocffifhfaaGreatW.PrintWords
def fun1M (B : List Int) (a : Nat) : (List Int × List Int) × Nat × Int :=
  let r := rdOf (amongM B a [96] 107) a 0
  let t := tysOf B r.2.1 r.2.2
  let s := tysOf B t.2.1 t.2.2
  ((t.1, s.1), s.2)
def Fun1Post (W : World) (p q : Nat) (B : List Int) (r : (List Int × List Int) × Nat × Int) (E : Ending) (w' : World) : Prop :=
  (∃ v1 v2, E = .returned (.agg #[v1, v2]) ∧ Own (rng .u8) 5 w' W.heap.size (fun _ => False) v1 r.1.1 ∧ Own (rng .u8) 5 w' W.heap.size (fun _ => False) v2 r.1.2) ∧ Goes W w' p q B r.2.1 r.2.2
set_option maxRecDepth 100000 in
set_option maxHeartbeats 1000000 in
theorem Func1_any (W : World) (p q r : Nat) (B : List Int) (a : Nat) (hC : Cur W p q B a 0) (hB : Byts B) (hr : Blk W r #[.pointer (some ⟨p, 0, none⟩)] 53) (hrp : r ≠ p) :
    Calls Tryz.prog 107 #[.pointer (some ⟨r, 0, none⟩)] W (Fun1Post W p q B (fun1M B a)) := by
  have hpl := hC.lt
  have HQ := Lib.hid (fun hl => hC.qlt' hl : 0 < B.length → q < W.heap.size)
  have hrl := hr.lt
  have hF : fun1M B a = (((tysOf B (rdOf (amongM B a [96] 107) a 0).2.1 (rdOf (amongM B a [96] 107) a 0).2.2).1, (tysOf B (tysOf B (rdOf (amongM B a [96] 107) a 0).2.1 (rdOf (amongM B a [96] 107) a 0).2.2).2.1 (tysOf B (rdOf (amongM B a [96] 107) a 0).2.1 (rdOf (amongM B a [96] 107) a 0).2.2).2.2).1), (tysOf B (tysOf B (rdOf (amongM B a [96] 107) a 0).2.1 (rdOf (amongM B a [96] 107) a 0).2.2).2.1 (tysOf B (rdOf (amongM B a [96] 107) a 0).2.1 (rdOf (amongM B a [96] 107) a 0).2.2).2.2).2) := rfl
  have hC1 := hC.alloc (.cells #[.slice none 0 0, .slice none 0 0] 98)
  have HA := Lib.hid (among_any _ p q (W.heap.size + 1) B a 0 107 (some ⟨W.heap.size + 1, 0, none⟩) 1 [96] (hC1.alloc (.cells (([96] : List Int).map (Value.int .u8)).toArray 5)) hB rfl (by omega) (by have := lit_ByQ (W.alloc (.cells #[.slice none 0 0, .slice none 0 0] 98)) [96] 5; rw [World.size_alloc] at this; exact this) (by decide))
  have HLT := Lib.hid (fun X a e (h : Cur X p q B a e) => listT_any X p q B a e h hB)
  generalize rdOf (amongM B a [96] 107) a 0 = r0 at *
  obtain ⟨x0, a1, e1⟩ := r0
  dsimp only at hF
  obtain ⟨R1, hR1⟩ : ∃ R1, R1 = tysOf B a1 e1 := ⟨_, rfl⟩
  rw [← hR1] at hF
  obtain ⟨ps, a2, e2⟩ := R1
  dsimp only at hF
  obtain ⟨R2, hR2⟩ : ∃ R2, R2 = tysOf B a2 e2 := ⟨_, rfl⟩
  rw [← hR2] at hF
  obtain ⟨rs, a3, e3⟩ := R2
  dsimp only at hF
  rw [hF]
  have HT1 := Lib.hid (fun X h => by have := HLT.out X a1 e1 h; rw [← hR1] at this; exact this : ∀ X, Cur X p q B a1 e1 → Calls Tryz.prog 108 #[.pointer (some ⟨p, 0, none⟩), .func (.func 35) #[.pointer (some ⟨p, 0, none⟩)] #[]] X (TakePost X p q B (ps, a2, e2)))
  have HT2 := Lib.hid (fun X h => by have := HLT.out X a2 e2 h; rw [← hR2] at this; exact this : ∀ X, Cur X p q B a2 e2 → Calls Tryz.prog 108 #[.pointer (some ⟨p, 0, none⟩), .func (.func 35) #[.pointer (some ⟨p, 0, none⟩)] #[]] X (TakePost X p q B (rs, a3, e3)))
  have c0 : W.cell? ⟨r, 0, none⟩ = some (.pointer (some ⟨p, 0, none⟩)) := hr.cell 0
  have HR0 := Lib.hid ((hr.alloc (.cells #[.slice none 0 0, .slice none 0 0] 98)).alloc (.cells #[.int .u8 96] 5))
  have HRP := Lib.hid hrp
  have HX0 := Lib.hid ((Blk.new W #[.slice none 0 0, .slice none 0 0] 98).alloc (.cells #[.int .u8 96] 5))
  clear hC hC1 hB hr hrp HLT hR1 hR2 hF
  go_enter Tryz.func107, Tryz.ntmps107
  go_wp2_with fail
  refine HA.out.mono ?_
  rintro E W1 ⟨rfl, hG1⟩
  have hz1 := hG1.2.size
  rw [World.size_alloc, World.size_alloc] at hz1
  have HR1 := Lib.hid (HR0.out.grown hG1.2 (fun e => HRP.out (by injection e)))
  have HX1 := Lib.hid (HX0.out.grown hG1.2 (fun e => by injection e with e; omega))
  have HG1 := Lib.hid ((World.grownBy_alloc W (.cells #[.slice none 0 0, .slice none 0 0] 98) (some p)).trans ((World.grownBy_alloc _ (.cells #[.int .u8 96] 5) (some p)).trans hG1.2))
  have HC1 := Lib.hid hG1.1
  have c1 : W1.cell? ⟨r, 0, none⟩ = some (.pointer (some ⟨p, 0, none⟩)) := HR1.out.cell 0
  have hrl1 := HR1.out.lt
  clear hG1 c0 HA
  go_wp2_with fail
  refine (HT1.out _ HC1.out).mono ?_
  rintro E W2 ⟨⟨v1, rfl, hO1⟩, hG2⟩
  have hz2 := hG2.2.size
  have HR2 := Lib.hid (HR1.out.grown hG2.2 (fun e => HRP.out (by injection e)))
  have HX2 := Lib.hid (HX1.out.grown hG2.2 (fun e => by injection e with e; omega))
  have HG2 := Lib.hid (HG1.out.trans hG2.2)
  have HC2 := Lib.hid hG2.1
  have HO1 := Lib.hid hO1
  have c2 : W2.cell? ⟨r, 0, none⟩ = some (.pointer (some ⟨p, 0, none⟩)) := HR2.out.cell 0
  have hrl2 := HR2.out.lt
  clear hG2 c1 hO1
  go_wp2_with fail
  refine (HT2.out _ HC2.out).mono ?_
  rintro E W3 ⟨⟨v2, rfl, hO2⟩, hG3⟩
  have hz3 := hG3.2.size
  have hx3 := HX2.out.grown hG3.2 (fun e => by injection e with e; omega)
  have HX3 := Lib.hid hx3
  have d0 : W3.cell? ⟨W.heap.size, 0, none⟩ = some (.slice none 0 0) := hx3.cell 0
  have d1 : W3.cell? ⟨W.heap.size, 1, none⟩ = some (.slice none 0 0) := hx3.cell 1
  have k0 := hx3.frozen 0
  have k1 := hx3.frozen 1
  have np1 : v1.ownBlock ≠ some p := fun e => by have := (Own.block HO1.out e).1; omega
  have HO3 := Lib.hid ((Own_lower HO1.out (show W.heap.size ≤ W1.heap.size by omega)).grown hG3.2 (.inr np1) (fun k hk => hk.elim))
  have HO4 := Lib.hid hO2
  have HG3 := Lib.hid (HG2.out.trans hG3.2)
  have HC3 := Lib.hid hG3.1
  obtain ⟨A1, k1', rfl, _, _⟩ := HO3.out.reads
  obtain ⟨A2, k2', rfl, _, _⟩ := HO4.out.reads
  clear hG3 c2 hO2 hx3
  go_wp2_with fail
  have nx1 : (Value.slice A1 ps.length k1').ownBlock ≠ some W.heap.size := fun e => by
    obtain ⟨_, ho, _⟩ := HO3.out
    obtain ⟨cs, hcs⟩ := own_typed ho _ e
    rw [HX3.out] at hcs
    simp at hcs
  have nx2 : (Value.slice A2 rs.length k2').ownBlock ≠ some W.heap.size := fun e => by
    obtain ⟨_, ho, _⟩ := HO4.out
    obtain ⟨cs, hcs⟩ := own_typed ho _ e
    rw [HX3.out] at hcs
    simp at hcs
  have hq1 : 0 < B.length → W.heap.size ≠ q := fun hl => by have := HQ.out hl; omega
  have HG5 := grown_jj (grown_jj HG3.out (gset W3 W.heap.size 0 (.slice A1 ps.length k1')) (fun k e => by injection e with e; omega)) (gset (W3.setCell ⟨W.heap.size, 0, none⟩ (.slice A1 ps.length k1')) W.heap.size 1 (.slice A2 rs.length k2')) (fun k e => by injection e with e; omega)
  exact bodyPost_ret (v := .agg #[.slice A1 ps.length k1', .slice A2 rs.length k2']) (by simp [results, Tryz.results107, go_sem, d0, d1]) rfl
    ⟨⟨_, _, rfl, (HO3.out.grown (gset _ _ _ _) (.inr nx1) (fun k hk => hk.elim)).grown (gset _ _ _ _) (.inr nx1) (fun k hk => hk.elim), (Own_lower HO4.out (by omega)).grown (gset _ _ _ _) (.inr nx2) (fun k hk => hk.elim) |>.grown (gset _ _ _ _) (.inr nx2) (fun k hk => hk.elim)⟩, (HC3.out.other _ _ _ (by omega) hq1).other _ _ _ (by omega) hq1, HG5⟩
end Go.Proofs.YtofaiocffifhfaaGreat
end
section
namespace Go.Proofs.YtofaiocffifhfaaGreat
open Go.RowKit Go.Shelf YtofaiocffifhfaaGreatB Go.Proofs.YtofaiocffifhfaaGreatW.PrintWords
def FunPost (W : World) (p q : Nat) (B : List Int) (r : (List Int × List Int) × Nat × Int) (E : Ending) (w' : World) : Prop := Fun1Post W p q B r E w'
set_option maxRecDepth 100000 in
theorem reads_bad_fty (W : World) (p q : Nat) (B : List Int) (a : Nat) (e : Int) (f : Value) (hC : Cur W p q B a e) (he : (e == 0) = false) :
    Calls Tryz.prog 106 #[.pointer (some ⟨p, 0, none⟩), f] W fun E w' => E = .returned (.agg #[.slice none 0 0, .slice none 0 0]) ∧ Below W.heap.size W w' := by
  have HC := Lib.hid (hC.alloc (.cells #[.slice none 0 0, .slice none 0 0] 98))
  have HE := Lib.hid he
  have hpl := hC.lt
  clear hC he
  go_enter Tryz.func106, Tryz.ntmps106
  go_wp2_with (go_at_call 96; refine (good_any _ _ _ _ _ _ false HC.out HE.out).mono ?_; rintro e w' ⟨rfl, rfl⟩)
  exact bodyPost_ret (v := .agg #[.slice none 0 0, .slice none 0 0]) (by simp [results, Tryz.results106, go_sem]) rfl ⟨rfl, (Below.refl _ _).alloc (Nat.le_refl _) _⟩
set_option maxRecDepth 100000 in
set_option maxHeartbeats 1000000 in
theorem reads_fty (W : World) (p q : Nat) (B : List Int) (a nx : Nat) (g : FuncId) (hent : Enters Tryz.prog g) (lb : Array Value) (ps rs : List Int) (e' : Int) (hC : Cur W p q B a 0)
    (hg : Calls Tryz.prog g lb (W.alloc (.cells #[.slice none 0 0, .slice none 0 0] 98)) (Fun1Post (W.alloc (.cells #[.slice none 0 0, .slice none 0 0] 98)) p q B ((ps, rs), nx, e'))) :
    Calls Tryz.prog 106 #[.pointer (some ⟨p, 0, none⟩), .func (.func g) #[] lb] W (Fun1Post W p q B (if e' = 0 then ((ps, rs), nx, 0) else (([], []), a, e'))) := by
  have hpl := hC.lt
  have HQ := Lib.hid (fun hl => hC.qlt' hl : 0 < B.length → q < W.heap.size)
  have HC := Lib.hid (hC.alloc (.cells #[.slice none 0 0, .slice none 0 0] 98))
  have HG := Lib.hid hg
  have HX := Lib.hid (Blk.new W #[.slice none 0 0, .slice none 0 0] 98)
  obtain ⟨A, c, c0, c1, c2, f0, f1, f2, hle, hq, hlt, ha⟩ := hC.cells
  have hin : ∀ args w, Sem.run Tryz.prog (callFunc g args) w = .ok (.enter g args) w := hent
  obtain ⟨R, hR⟩ : ∃ R, R = (if e' = 0 then ((ps, rs), nx, 0) else (([], []), a, e') : (List Int × List Int) × Nat × Int) := ⟨_, rfl⟩
  rw [← hR]
  have HRR := Lib.hid hR
  clear hC hg hq hent hR
  go_enter Tryz.func106, Tryz.ntmps106
  go_wp2_with fail
  refine (good_any _ _ _ _ _ _ true HC.out rfl).mono ?_
  rintro E w' ⟨rfl, rfl⟩
  go_wp2_with fail
  refine HG.out.mono ?_
  rintro E W2 ⟨⟨v1, v2, rfl, hO1, hO2⟩, hG2⟩
  have hz2 := hG2.2.size
  rw [World.size_alloc] at hz2
  have hx2 := HX.out.grown hG2.2 (fun e => by injection e with e; omega)
  have HX2 := Lib.hid hx2
  obtain ⟨A1, k1', rfl, _, _⟩ := hO1.reads
  obtain ⟨A2, k2', rfl, _, _⟩ := hO2.reads
  have HO1 := Lib.hid (Own_lower hO1 (show W.heap.size ≤ _ by simp))
  have HO2 := Lib.hid (Own_lower hO2 (show W.heap.size ≤ _ by simp))
  have d0 : W2.cell? ⟨W.heap.size, 0, none⟩ = some (.slice none 0 0) := hx2.cell 0
  have d1 : W2.cell? ⟨W.heap.size, 1, none⟩ = some (.slice none 0 0) := hx2.cell 1
  have j0 := hx2.frozen 0
  have j1 := hx2.frozen 1
  have hwl : W.heap.size < W2.heap.size := by omega
  obtain ⟨A', c', g0, g1, g2, k0, k1, k2, gle, gq, glt, ga⟩ := hG2.1.cells
  have HG2 := Lib.hid hG2
  have hpw : p < W2.heap.size := by omega
  have hpne : p ≠ W.heap.size := by omega
  clear hO1 hO2 hx2 hG2 HG HX gq
  have HGW := Lib.hid ((World.grownBy_alloc W (.cells #[.slice none 0 0, .slice none 0 0] 98) (some p)).trans HG2.out.2)
  have nx1 : (Value.slice A1 ps.length k1').ownBlock ≠ some W.heap.size := fun e => by
    obtain ⟨_, ho, _⟩ := HO1.out
    obtain ⟨cs, hcs⟩ := own_typed ho _ e
    rw [HX2.out] at hcs
    simp at hcs
  have nx2 : (Value.slice A2 rs.length k2').ownBlock ≠ some W.heap.size := fun e => by
    obtain ⟨_, ho, _⟩ := HO2.out
    obtain ⟨cs, hcs⟩ := own_typed ho _ e
    rw [HX2.out] at hcs
    simp at hcs
  have N1 := Lib.hid nx1
  have N2 := Lib.hid nx2
  have HQ1 := Lib.hid (fun hl => by have := HQ.out hl; omega : 0 < B.length → W.heap.size ≠ q)
  clear nx1 nx2
  by_cases he : e' = 0
  · subst he
    have HV := Lib.hid (HRR.out.trans (if_pos rfl))
    have H3 := Lib.hid (HG2.out.1.alloc (.cells #[.slice A1 ps.length k1', .slice A2 rs.length k2'] 98))
    go_wp2_with fail
    refine (good_any _ _ _ _ _ _ true H3.out rfl).mono ?_
    rintro E w' ⟨rfl, rfl⟩
    go_wp2_with fail
    have HG5 := grown_jj (grown_jj HGW.out (gset W2 W.heap.size 0 (.slice A1 ps.length k1')) (fun k e => by injection e with e; omega)) (gset (W2.setCell ⟨W.heap.size, 0, none⟩ (.slice A1 ps.length k1')) W.heap.size 1 (.slice A2 rs.length k2')) (fun k e => by injection e with e; omega)
    refine bodyPost_ret (v := .agg #[.slice A1 ps.length k1', .slice A2 rs.length k2']) (by simp [results, Tryz.results106, go_sem, d0, d1, hwl]) rfl ?_
    rw [HV.out]
    exact ⟨⟨_, _, rfl, ((HO1.out.grown (gset _ _ _ _) (.inr N1.out) (fun k hk => hk.elim)).grown (gset _ _ _ _) (.inr N1.out) (fun k hk => hk.elim)).below ((Below.refl _ _).alloc (Nat.le_refl _) _), ((HO2.out.grown (gset _ _ _ _) (.inr N2.out) (fun k hk => hk.elim)).grown (gset _ _ _ _) (.inr N2.out) (fun k hk => hk.elim)).below ((Below.refl _ _).alloc (Nat.le_refl _) _)⟩,
      ((HG2.out.1.other _ _ _ (by omega) HQ1.out).other _ _ _ (by omega) HQ1.out).alloc _, HG5.trans (World.grownBy_alloc _ _ _)⟩
  · have he2 : (e' == 0) = false := beq_eq_false_iff_ne.2 he
    have HV := Lib.hid (HRR.out.trans (if_neg he))
    have H3 := Lib.hid (HG2.out.1.alloc (.cells #[.slice A1 ps.length k1', .slice A2 rs.length k2'] 98))
    have HE2 := Lib.hid he2
    clear he he2
    go_wp2_with fail
    refine (good_any _ _ _ _ _ _ false H3.out HE2.out).mono ?_
    rintro E w' ⟨rfl, rfl⟩
    go_wp2_with fail
    have hpne' : W.heap.size ≠ p := fun e => hpne e.symm
    have HG4 := HGW.out.trans (gset W2 p 1 (.int .i64 a))
    have HG5 := grown_jj (grown_jj HG4 (gset _ W.heap.size 0 (.slice none 0 0)) (fun k e => by injection e with e; omega)) (gset _ W.heap.size 1 (.slice none 0 0)) (fun k e => by injection e with e; omega)
    refine bodyPost_ret (v := .agg #[.slice none 0 0, .slice none 0 0]) (by simp [results, Tryz.results106, go_sem, d0, d1, hwl, hpne, hpne']) rfl ?_
    rw [HV.out]
    exact ⟨⟨_, _, rfl, Own.nil, Own.nil⟩, (((HG2.out.1.setAt a ha).other _ _ _ hpne' HQ1.out).other _ _ _ hpne' HQ1.out).alloc _, HG5.trans (World.grownBy_alloc _ _ _)⟩
def funM (B : List Int) (a : Nat) (e : Int) : (List Int × List Int) × Nat × Int :=
  if e = 0 then (if (fun1M B a).2.2 = 0 then ((fun1M B a).1, (fun1M B a).2.1, 0) else (([], []), a, (fun1M B a).2.2)) else (([], []), a, e)
theorem ent_Func1 : Enters Tryz.prog 107 := enters_of Tryz.func107 (by kernel_rfl) rfl
set_option maxRecDepth 100000 in
theorem Func_any (W : World) (p q : Nat) (B : List Int) (a : Nat) (e : Int) (hC : Cur W p q B a e) (hB : Byts B) :
    Calls Tryz.prog 74 #[.pointer (some ⟨p, 0, none⟩)] W (Fun1Post W p q B (funM B a e)) := by
  have hpl := hC.lt
  have hC2 := (hC.alloc (.cells #[.pointer (some ⟨p, 0, none⟩)] 53)).alloc (.cells #[.slice none 0 0, .slice none 0 0] 98)
  have hb1 := (Blk.new W #[.pointer (some ⟨p, 0, none⟩)] 53).alloc (.cells #[.slice none 0 0, .slice none 0 0] 98)
  have hxx := Blk.new (W.alloc (.cells #[.pointer (some ⟨p, 0, none⟩)] 53)) #[.slice none 0 0, .slice none 0 0] 98
  rw [World.size_alloc] at hxx
  have HQ := Lib.hid (fun hl => hC.qlt' hl : 0 < B.length → q < W.heap.size)
  have HXX := Lib.hid hxx
  by_cases he : e = 0
  · subst he
    obtain ⟨r, hr⟩ : ∃ r, r = fun1M B a := ⟨_, rfl⟩
    have h1 := Func1_any _ p q W.heap.size B a (hC2.alloc (.cells #[.slice none 0 0, .slice none 0 0] 98)) hB (hb1.alloc _) (by omega)
    have hv : funM B a 0 = (if r.2.2 = 0 then (r.1, r.2.1, 0) else (([], []), a, r.2.2)) := by rw [hr]; rfl
    rw [← hr] at h1
    rw [hv]
    clear hv hr
    obtain ⟨⟨ps, rs⟩, nx, e'⟩ := r
    have H0 := Lib.hid (reads_fty _ p q B a nx 107 ent_Func1 #[.pointer (some ⟨W.heap.size, 0, none⟩)] ps rs e' hC2 h1)
    dsimp only
    obtain ⟨R, hR⟩ : ∃ R, R = (if e' = 0 then ((ps, rs), nx, 0) else (([], []), a, e') : (List Int × List Int) × Nat × Int) := ⟨_, rfl⟩
    rw [← hR] at H0 ⊢
    clear hC hC2 hB hb1 h1 hR hxx
    go_enter Tryz.func74, Tryz.ntmps74
    go_wp2_with fail
    refine H0.out.mono ?_
    rintro E W1 ⟨⟨v1, v2, rfl, hO1, hO2⟩, hG⟩
    have hz := hG.2.size
    rw [World.size_alloc, World.size_alloc] at hz
    have hx := HXX.out.grown hG.2 (fun e => by injection e with e; omega)
    have HX := Lib.hid hx
    obtain ⟨A1, k1, rfl, _, _⟩ := hO1.reads
    obtain ⟨A2, k2, rfl, _, _⟩ := hO2.reads
    have HO1 := Lib.hid (Own_lower hO1 (show W.heap.size ≤ _ by simp; omega))
    have HO2 := Lib.hid (Own_lower hO2 (show W.heap.size ≤ _ by simp; omega))
    have HG := Lib.hid hG
    have d0 : W1.cell? ⟨W.heap.size + 1, 0, none⟩ = some (.slice none 0 0) := hx.cell 0
    have d1 : W1.cell? ⟨W.heap.size + 1, 1, none⟩ = some (.slice none 0 0) := hx.cell 1
    have j0 := hx.frozen 0
    have j1 := hx.frozen 1
    have hwl : W.heap.size + 1 < W1.heap.size := by omega
    clear hO1 hO2 hG hx
    go_wp2_with fail
    have nx1 : (Value.slice A1 R.1.1.length k1).ownBlock ≠ some (W.heap.size + 1) := fun e => by
      obtain ⟨_, ho, _⟩ := HO1.out
      obtain ⟨cs, hcs⟩ := own_typed ho _ e
      rw [HX.out] at hcs
      simp at hcs
    have nx2 : (Value.slice A2 R.1.2.length k2).ownBlock ≠ some (W.heap.size + 1) := fun e => by
      obtain ⟨_, ho, _⟩ := HO2.out
      obtain ⟨cs, hcs⟩ := own_typed ho _ e
      rw [HX.out] at hcs
      simp at hcs
    have hq1 : 0 < B.length → W.heap.size + 1 ≠ q := fun hl => by have := HQ.out hl; omega
    have HG4 := (World.grownBy_alloc W (.cells #[.pointer (some ⟨p, 0, none⟩)] 53) (some p)).trans ((World.grownBy_alloc _ (.cells #[.slice none 0 0, .slice none 0 0] 98) (some p)).trans HG.out.2)
    have HG5 := grown_jj (grown_jj HG4 (gset _ (W.heap.size + 1) 0 (.slice A1 R.1.1.length k1)) (fun k e => by injection e with e; omega)) (gset _ (W.heap.size + 1) 1 (.slice A2 R.1.2.length k2)) (fun k e => by injection e with e; omega)
    exact bodyPost_ret (v := .agg #[.slice A1 R.1.1.length k1, .slice A2 R.1.2.length k2]) (by simp [results, Tryz.results74, go_sem, d0, d1]) rfl
      ⟨⟨_, _, rfl, (HO1.out.grown (gset _ _ _ _) (.inr nx1) (fun k hk => hk.elim)).grown (gset _ _ _ _) (.inr nx1) (fun k hk => hk.elim), (HO2.out.grown (gset _ _ _ _) (.inr nx2) (fun k hk => hk.elim)).grown (gset _ _ _ _) (.inr nx2) (fun k hk => hk.elim)⟩, (HG.out.1.other _ _ _ (by omega) hq1).other _ _ _ (by omega) hq1, HG5⟩
  · have hv : funM B a e = (([], []), a, e) := if_neg he
    rw [hv]
    have H := Lib.hid (reads_bad_fty _ p q B a e (.func (.func 107) #[] #[.pointer (some ⟨W.heap.size, 0, none⟩)]) hC2 (beq_eq_false_iff_ne.2 he))
    have HC := Lib.hid hC2
    clear hC hC2 hB hb1 hv he hxx
    go_enter Tryz.func74, Tryz.ntmps74
    go_wp2_with fail
    refine H.out.mono ?_
    rintro E W1 ⟨rfl, hB1⟩
    have hx := HXX.out.below hB1 HXX.out.lt
    have d0 : W1.cell? ⟨W.heap.size + 1, 0, none⟩ = some (.slice none 0 0) := hx.cell 0
    have d1 : W1.cell? ⟨W.heap.size + 1, 1, none⟩ = some (.slice none 0 0) := hx.cell 1
    have j0 := hx.frozen 0
    have j1 := hx.frozen 1
    have HC1 := Lib.hid (HC.out.below hB1)
    have HG4 := Lib.hid ((World.grownBy_alloc W (.cells #[.pointer (some ⟨p, 0, none⟩)] 53) (some p)).trans ((World.grownBy_alloc _ (.cells #[.slice none 0 0, .slice none 0 0] 98) (some p)).trans (grown_below hB1 (some p))))
    have hz := hB1.size
    rw [World.size_alloc, World.size_alloc] at hz
    clear hB1 hx
    go_wp2_with fail
    have hq1 : 0 < B.length → W.heap.size + 1 ≠ q := fun hl => by have := HQ.out hl; omega
    have HG5 := grown_jj (grown_jj HG4.out (gset _ (W.heap.size + 1) 0 (.slice none 0 0)) (fun k e => by injection e with e; omega)) (gset _ (W.heap.size + 1) 1 (.slice none 0 0)) (fun k e => by injection e with e; omega)
    exact bodyPost_ret (v := .agg #[.slice none 0 0, .slice none 0 0]) (by simp [results, Tryz.results74, go_sem, d0, d1]) rfl
      ⟨⟨_, _, rfl, Own.nil, Own.nil⟩, (HC1.out.other _ _ _ (by omega) hq1).other _ _ _ (by omega) hq1, HG5⟩
end Go.Proofs.YtofaiocffifhfaaGreat
end
section
namespace Go.Proofs.YtofaiocffifhfaaGreatB
open Go.RowKit Go.Proofs.YtofaiocffifhfaaGreatW.PrintWords
/-- A function's type: two rows of bytes. -/
def kFtT (t8 : Nat) : Kd (List Int × List Int) := Kd.iso (Kd.pair (Kd.slice t8 (rng .u8)) (Kd.pair (Kd.slice t8 (rng .u8)) knil)) (fun x => (x.1, x.2, ()))
theorem ft_FK {t8 : Nat} {W : World} {ok : Nat → Prop} {A1 A2 : Option Addr} {ps rs : List Int} {c1 c2 : Nat} (h1 : FC (rng .u8) W ok A1 ps) (h2 : FC (rng .u8) W ok A2 rs) (l1 : ps.length ≤ c1) (l2 : rs.length ≤ c2) :
    FK (kFtT t8) W ok (ps, rs) [.slice A1 ps.length c1, .slice A2 rs.length c2] := fun W' hW =>
  ⟨_, _, rfl, ⟨A1, c1, rfl, l1, h1 W' hW⟩, _, _, rfl, ⟨A2, c2, rfl, l2, h2 W' hW⟩, rfl⟩
end Go.Proofs.YtofaiocffifhfaaGreatB
namespace Go.Proofs.YtofaiocffifhfaaGreat
open Go.RowKit Go.Shelf YtofaiocffifhfaaGreatB Go.Proofs.YtofaiocffifhfaaGreatW.PrintWords
def kFt : Kd (List Int × List Int) := kFtT 5
theorem infoFt : (Tryz.prog.info? 98).map (fun i => (i.zero, i.size, i.bytes)) = some (some (.agg #[.slice none 0 0, .slice none 0 0]), 2, 48) := by kernel_rfl
def ftsM (B : List Int) : Nat → Nat → Int → List (List Int × List Int) × Nat × Int
  | 0, a, e => ([], a, e)
  | k + 1, a, e => if e = 0 then ((funM B a 0).1 :: (ftsM B k (funM B a 0).2.1 (funM B a 0).2.2).1, (ftsM B k (funM B a 0).2.1 (funM B a 0).2.2).2) else ([], a, e)
theorem ftsM_bad (B : List Int) (k a : Nat) (e : Int) (h : (e == 0) = false) : ftsM B k a e = ([], a, e) := by
  cases k with
  | zero => rfl
  | succ k => rw [ftsM, if_neg (by simpa using h)]
def ftsOf (B : List Int) (a : Nat) (e : Int) : List (List Int × List Int) × Nat × Int := ftsM B (rdOf (countM B a) a e).1.toNat (rdOf (countM B a) a e).2.1 (rdOf (countM B a) a e).2.2
structure LF (W : World) (p q : Nat) (B : List Int) (target : List (List Int × List Int) × Nat × Int) (c j : Nat) (v : Value) (done : List (List Int × List Int)) (a : Nat) (e : Int) (X : World) : Prop where
  own : Own kFt 98 X W.heap.size (fun k => W.heap.size ≤ k) v done
  cur : Cur X p q B a e
  g : W.grownBy X (some p)
  t : (done ++ (ftsM B (c - j) a e).1, (ftsM B (c - j) a e).2) = target
  len : done.length ≤ j
def ListFPost (W : World) (p q : Nat) (B : List Int) (r : List (List Int × List Int) × Nat × Int) (E : Ending) (w' : World) : Prop :=
  (∃ v, E = .returned v ∧ Own kFt 98 w' W.heap.size (fun k => W.heap.size ≤ k) v r.1) ∧ Goes W w' p q B r.2.1 r.2.2
set_option maxRecDepth 100000 in
set_option maxHeartbeats 1000000 in
theorem listF_any (W : World) (p q : Nat) (B : List Int) (a : Nat) (e : Int) (sat : Bool) (hC : Cur W p q B a e) (hB : Byts B) :
    Calls Tryz.prog 73 #[.agg #[.pointer (some ⟨p, 0, none⟩), .bool sat], .func (.func 74) #[.pointer (some ⟨p, 0, none⟩)] #[]] W (ListFPost W p q B (ftsOf B a e)) := by
  have hc := countM_rd (a := a) (e := e) hB
  have hin : ∀ args w, Sem.run Tryz.prog (callFunc 74 args) w = .ok (.enter 74 args) w := enters_of Tryz.func74 (by kernel_rfl) rfl
  have hpl := hC.lt
  have HQ := Lib.hid (fun hl => hC.qlt' hl : 0 < B.length → q < W.heap.size)
  have H0 := Lib.hid (Count_any _ p q B a e (hC.alloc (.cells #[.pointer (some ⟨p, 0, none⟩), .bool sat] 67)) hB)
  have hdef : ftsOf B a e = ftsM B (rdOf (countM B a) a e).1.toNat (rdOf (countM B a) a e).2.1 (rdOf (countM B a) a e).2.2 := rfl
  rw [hdef]
  clear hdef
  generalize rdOf (countM B a) a e = r at *
  obtain ⟨n, a0, e0⟩ := r
  dsimp only at hc
  obtain ⟨c, rfl⟩ := Int.eq_ofNat_of_zero_le hc.1
  rw [Int.toNat_natCast]
  obtain ⟨tg, htg⟩ : ∃ tg, ftsM B c a0 e0 = tg := ⟨_, rfl⟩
  have HTG := Lib.hid htg
  rw [htg]
  have hc2 : (c : Int) ≤ 4096 := hc.2
  have HB := Lib.hid hB
  have HX := Lib.hid (Blk.new W #[.pointer (some ⟨p, 0, none⟩), .bool sat] 67)
  clear hC hB hc htg
  go_enter Tryz.func73, Tryz.ntmps73
  go_wp2_with fail
  refine H0.out.mono ?_
  rintro E W1 ⟨rfl, hG1⟩
  have hz1 := hG1.2.size
  rw [World.size_alloc] at hz1
  have HX1 := Lib.hid (HX.out.grown hG1.2 (fun e => by injection e with e; omega))
  have HL := Lib.hid (⟨Own.nil, hG1.1, (World.grownBy_alloc W _ _).trans hG1.2, by rw [Nat.sub_zero, HTG.out]; rfl, Nat.le_refl _⟩ : LF W p q B tg c 0 (.slice none 0 0) [] a0 e0 W1)
  clear hG1 H0
  go_wp2_with fail
  go_loopw [5, 7] (fun v i wr => ∃ (j : Nat) (done : List (List Int × List Int)) (a : Nat) (e : Int), j ≤ c ∧ i = .int .i64 j ∧ Hid (LF W p q B tg c j v done a e wr) ∧ Hid (Blk wr W.heap.size #[.pointer (some ⟨p, 0, none⟩), .bool sat] 67)) (fun _ i _ => c - (intOf i).toNat)
  case atStart => exact ⟨0, [], a0, e0, Nat.zero_le _, rfl, HL, HX1⟩
  case round =>
    obtain ⟨j, done, a', e', hj, rfl, HLj, HXj⟩ := hrel
    clear HL HX1
    have b0 : wr.cell? ⟨W.heap.size, 0, none⟩ = some (.pointer (some ⟨p, 0, none⟩)) := HXj.out.cell 0
    have b1 : wr.cell? ⟨W.heap.size, 1, none⟩ = some (.bool sat) := HXj.out.cell 1
    have hwl := HXj.out.lt
    by_cases hlt : j < c
    · have hlt2 : (j : Int) < (c : Int) := by omega
      by_cases he : e' = 0
      · subst he
        have HPG := Lib.hid (pgood_any wr p q B a' 0 sat true HLj.out.cur rfl)
        have HV := Lib.hid (Func_any (wr.alloc (.cells #[.pointer (some ⟨p, 0, none⟩), .bool sat] 67)) p q B a' 0 (HLj.out.cur.alloc _) HB.out)
        have ht0 := HLj.out.t
        rw [show c - j = (c - (j + 1)) + 1 from by omega, ftsM, if_pos rfl] at ht0
        generalize funM B a' 0 = r at *
        obtain ⟨⟨ps, rs⟩, a1, e1⟩ := r
        have HT0 := Lib.hid ht0
        have hX := HLj.out.g.size
        have hdl := HLj.out.len
        clear ht0
        go_wp2_with fail
        refine HPG.out.mono ?_
        rintro E wg ⟨rfl, rfl⟩
        go_wp2_with fail
        refine HV.out.mono ?_
        rintro E W2 ⟨⟨v1, v2, rfl, hO1, hO2⟩, hG2⟩
        have hz2 := hG2.2.size
        rw [World.size_alloc] at hz2
        have hne : ∀ k, u5.ownBlock = some k → W.heap.size ≤ k ∧ k < wr.heap.size := fun k hk => Own.block HLj.out.own hk
        have np : u5.ownBlock ≠ some p := fun e => by have := hne _ e; omega
        have hOw := ((HLj.out.own.below ((Below.refl _ _).alloc (Nat.le_refl _) (.cells #[.pointer (some ⟨p, 0, none⟩), .bool sat] 67))).grown hG2.2 (.inr np) (fun k hk e => by injection e with e; omega))
        have HO2 := Lib.hid hOw
        have HG2 := Lib.hid (HLj.out.g.trans ((World.grownBy_alloc wr (.cells #[.pointer (some ⟨p, 0, none⟩), .bool sat] 67) (some p)).trans hG2.2))
        have HC2 := Lib.hid hG2.1
        have HX2 := Lib.hid ((HXj.out.alloc (.cells #[.pointer (some ⟨p, 0, none⟩), .bool sat] 67)).grown hG2.2 (fun e => by injection e with e; omega))
        obtain ⟨A1, c1, rfl, l1, F1⟩ := hO1.reads
        obtain ⟨A2, c2, rfl, l2, F2⟩ := hO2.reads
        have HF : FK kFt W2 (fun k => W.heap.size ≤ k ∧ some k ≠ u5.ownBlock) (ps, rs) [.slice A1 ps.length c1, .slice A2 rs.length c2] := ft_FK
          (Ft.mono F1 (fun k hk => by rw [World.size_alloc] at hk; have h : wr.heap.size + 1 ≤ k := hk.elim (fun h => h.elim) id; exact ⟨by omega, fun e => by have := (hne _ e.symm).2; omega⟩))
          (Ft.mono F2 (fun k hk => by rw [World.size_alloc] at hk; have h : wr.heap.size + 1 ≤ k := hk.elim (fun h => h.elim) id; exact ⟨by omega, fun e => by have := (hne _ e.symm).2; omega⟩)) l1 l2
        have hgs : W.heap.size ≤ W2.heap.size := by omega
        clear hG2 HV HPG hO1 hO2 F1 F2 b0 b1 hOw
        go_wp2_with (at_builtin; refine Own.append (d := kFt) W.heap.size rfl (.tmp 20) (.tmp 23) 24 98 _ 48 rfl Tryz.underlying24 infoFt rfl (by decide) (by decide) u5 done (ps, rs) _ (fun k => W.heap.size ≤ k) rfl rfl HF HO2.out hgs (by omega) ?_; intro v1 w1 hown1 hg1 hat1)
        have HO3 := Lib.hid hown1
        have HG3 := Lib.hid hg1
        have hnX : some W.heap.size ≠ u5.ownBlock := fun e => by
          obtain ⟨_, ho, _⟩ := HO2.out
          obtain ⟨cs, hcs⟩ := own_typed ho _ e.symm
          rw [HX2.out] at hcs
          simp at hcs
        clear hown1 hg1 hat1 HF HO2
        go_wp2_with fail
        go_roundw
        case rel =>
          refine ⟨j + 1, done ++ [(ps, rs)], a1, e1, by omega, by go_num, ⟨HO3.out, HC2.out.grown' HG3.out (fun e => np e.symm) (fun hl e => by have := (hne _ e.symm).1; have := HQ.out hl; omega), grown_jj HG2.out HG3.out (fun k hk => .inr (hne k hk).1), ?_, by simp; omega⟩, HX2.out.grown HG3.out hnX⟩
          rw [← HT0.out, List.append_assoc]
          rfl
        case measure => simp [intOf]; omega
      · have he2 : (e' == 0) = false := beq_eq_false_iff_ne.2 he
        have HPG := Lib.hid (pgood_any wr p q B a' e' sat false HLj.out.cur he2)
        have ht := HLj.out.t
        rw [ftsM_bad _ _ _ _ he2, List.append_nil] at ht
        have HT := Lib.hid ht
        clear ht he he2
        go_wp2_with fail
        refine HPG.out.mono ?_
        rintro E wg ⟨rfl, rfl⟩
        go_wp2_with fail
        go_ret
        rw [← HT.out]
        exact ⟨⟨_, rfl, HLj.out.own.below ((Below.refl _ _).alloc (Nat.le_refl _) _)⟩, HLj.out.cur.alloc _, HLj.out.g.trans (World.grownBy_alloc _ _ _)⟩
    · obtain rfl : j = c := by omega
      have ht := HLj.out.t
      rw [Nat.sub_self, ftsM, List.append_nil] at ht
      have HT := Lib.hid ht
      clear ht
      go_wp2_with fail
      go_ret
      rw [← HT.out]
      exact ⟨⟨_, rfl, HLj.out.own⟩, HLj.out.cur, HLj.out.g⟩
end Go.Proofs.YtofaiocffifhfaaGreat
end
section
namespace Go.Proofs.YtofaiocffifhfaaGreat
open Go.RowKit Go.Shelf YtofaiocffifhfaaGreatB Go.Proofs.YtofaiocffifhfaaGreatW.PrintWords
def Cont1Post (W : World) (p q m : Nat) (B : List Int) (mc : Array Value) (r : List (List Int × List Int) × Nat × Int) (E : Ending) (w' : World) : Prop :=
  E = .returned (.tuple #[]) ∧ (∃ v, Own kFt 98 w' W.heap.size (fun k => W.heap.size ≤ k) v r.1 ∧ Blk w' m (mc.setIfInBounds 0 v) 71) ∧ Cur w' p q B r.2.1 r.2.2 ∧ G2 W w' p m
set_option maxRecDepth 100000 in
set_option maxHeartbeats 1000000 in
theorem content1_any (W : World) (p q m : Nat) (B : List Int) (a : Nat) (e : Int) (sat : Bool) (mc : Array Value) (v0 : Value) (hC : Cur W p q B a e) (hB : Byts B) (hm : Blk W m mc 71) (hm0 : mc[0]? = some v0) (hmp : m ≠ p) (hmq : 0 < B.length → m ≠ q) :
    Calls Tryz.prog 44 #[.pointer (some ⟨m, 0, none⟩), .int .u8 1, .agg #[.pointer (some ⟨p, 0, none⟩), .bool sat]] W (Cont1Post W p q m B mc (ftsOf B a e)) := by
  have hpl := hC.lt
  have hml := hm.lt
  have H0 := Lib.hid (listF_any (W.alloc (.cells #[.pointer (some ⟨p, 0, none⟩), .bool sat] 67)) p q B a e sat (hC.alloc _) hB)
  have HM := Lib.hid (hm.alloc (.cells #[.pointer (some ⟨p, 0, none⟩), .bool sat] 67))
  have HM0 := Lib.hid hm0
  have HMP := Lib.hid hmp
  have HMQ := Lib.hid hmq
  generalize ftsOf B a e = r at *
  clear hC hB hm hm0 hmp hmq
  go_enter Tryz.func44, Tryz.ntmps44
  go_wp2_with fail
  refine H0.out.mono ?_
  rintro E W1 ⟨⟨v, rfl, hO⟩, hG⟩
  have hz := hG.2.size
  rw [World.size_alloc] at hz
  have hm1 := HM.out.grown hG.2 (fun e => HMP.out (by injection e))
  have HM1 := Lib.hid hm1
  have c0 : W1.cell? ⟨m, 0, none⟩ = some v0 := by rw [hm1.cell 0]; exact HM0.out
  have f0 := hm1.frozen 0
  have hml1 := hm1.lt
  obtain ⟨A1, k1, rfl, _, _⟩ := hO.reads
  have HO := Lib.hid (Own_lower hO (show W.heap.size ≤ _ by simp) |>.mono (ok' := fun k => W.heap.size ≤ k) (fun k hk => by rw [World.size_alloc] at hk; omega))
  have HG := Lib.hid hG
  clear hO hG hm1
  go_wp2_with fail
  have nm : (Value.slice A1 r.1.length k1).ownBlock ≠ some m := fun e => by
    have := (Own.block HO.out e).1
    omega
  go_end0
  refine ⟨rfl, ⟨_, HO.out.grown (gset _ _ _ _) (.inr nm) (fun k hk e => by injection e with e; omega), HM1.out.set 0 _⟩, HG.out.1.other _ _ _ HMP.out HMQ.out, ?_⟩
  exact (((G2.refl W p m).alloc _).grown HG.out.2 (fun r e => by injection e with e; omega)).set m 0 _ (by omega)
def Sec1Post (W : World) (p q m : Nat) (B : List Int) (mc : Array Value) (r : List (List Int × List Int) × Nat × Int) (E : Ending) (w' : World) : Prop := Cont1Post W p q m B mc r E w'
set_option maxRecDepth 100000 in
theorem sections1_any (W : World) (p q m bm bn : Nat) (B : List Int) (a : Nat) (e : Int) (sat : Bool) (mc : Array Value) (v0 : Value) (hC : Cur W p q B a e) (hB : Byts B) (hm : Blk W m mc 71) (hm0 : mc[0]? = some v0) (hmp : m ≠ p) (hmq : 0 < B.length → m ≠ q)
    (h1 : W.cell? ⟨bm, 0, none⟩ = some (.pointer (some ⟨m, 0, none⟩))) (h2 : W.cell? ⟨bn, 0, none⟩ = some (.int .u8 1)) :
    Calls Tryz.prog 43 #[.agg #[.pointer (some ⟨p, 0, none⟩), .bool sat], .pointer (some ⟨bm, 0, none⟩), .pointer (some ⟨bn, 0, none⟩)] W (Cont1Post W p q m B mc (ftsOf B a e)) := by
  have hpl := hC.lt
  have hl1 := World.block_lt_of_cell? _ _ h1
  have hl2 := World.block_lt_of_cell? _ _ h2
  have H0 := Lib.hid (content1_any (W.alloc (.cells #[.pointer (some ⟨p, 0, none⟩), .bool sat] 67)) p q m B a e sat mc v0 (hC.alloc _) hB (hm.alloc _) hm0 hmp hmq)
  generalize ftsOf B a e = r at *
  clear hC hB hm hm0 hmp hmq
  go_enter Tryz.func43, Tryz.ntmps43
  go_wp2_with fail
  refine H0.out.mono ?_
  rintro E W1 ⟨rfl, ⟨v, hO, hM⟩, hC1, hG⟩
  have HO := Lib.hid (Own_lower hO (show W.heap.size ≤ _ by simp) |>.mono (ok' := fun k => W.heap.size ≤ k) (fun k hk => by rw [World.size_alloc] at hk; omega))
  have HM := Lib.hid hM
  have HC := Lib.hid hC1
  have HG := Lib.hid hG
  clear hO hM hC1 hG H0
  go_wp2_with fail
  go_end0
  exact ⟨rfl, ⟨v, HO.out, HM.out⟩, HC.out, ((G2.refl W p m).alloc _).trans HG.out⟩
end Go.Proofs.YtofaiocffifhfaaGreat
end
section
namespace Go.Proofs.YtofaiocffifhfaaGreat
open Go.RowKit Go.Shelf YtofaiocffifhfaaGreatB Go.Proofs.YtofaiocffifhfaaGreatW.PrintWords
/-- A piece of so many bytes. -/
def pieceM (B : List Int) (a : Nat) (e : Int) : List Int × Nat × Int := rdL (takeM B (rdOf (u32M B a) a e).2.1 (rdOf (u32M B a) a e).1.toNat) (rdOf (u32M B a) a e).2.1 (rdOf (u32M B a) a e).2.2
theorem rdOf_u32' {B : List Int} {a : Nat} {e : Int} (hB : Byts B) : 0 ≤ (rdOf (u32M B a) a e).1 ∧ (rdOf (u32M B a) a e).1 ≤ 4294967295 := by
  by_cases h : e = 0
  · subst h; exact rdOf_u32 hB
  · rw [rdOf, if_neg h]; simp
set_option maxRecDepth 100000 in
set_option maxHeartbeats 1000000 in
theorem whole_bad (W : World) (p q : Nat) (B : List Int) (a : Nat) (e : Int) (sat : Bool) (f : Value) (hC : Cur W p q B a e) (hB : Byts B) (he : ((pieceM B a e).2.2 == 0) = false) :
    Calls Tryz.prog 42 #[.agg #[.pointer (some ⟨p, 0, none⟩), .bool sat], f] W fun E w' => E = .returned (.tuple #[]) ∧ Goes W w' p q B (pieceM B a e).2.1 (pieceM B a e).2.2 := by
  have hpl := hC.lt
  have hu := rdOf_u32' (a := a) (e := e) hB
  have hC1 := hC.alloc (.cells #[.pointer (some ⟨p, 0, none⟩), .bool sat] 67)
  have HU := Lib.hid (fun X (h : Cur X p q B a e) => U32_any X p q B a e h hB)
  have hpm : pieceM B a e = rdL (takeM B (rdOf (u32M B a) a e).2.1 (rdOf (u32M B a) a e).1.toNat) (rdOf (u32M B a) a e).2.1 (rdOf (u32M B a) a e).2.2 := rfl
  rw [hpm] at he ⊢
  clear hpm
  generalize rdOf (u32M B a) a e = r at *
  obtain ⟨n, a1, e1⟩ := r
  dsimp only at hu he ⊢
  obtain ⟨k, rfl⟩ := Int.eq_ofNat_of_zero_le hu.1
  rw [Int.toNat_natCast] at he ⊢
  have HT := Lib.hid (fun X (h : Cur X p q B a1 e1) => Take_any X p q B a1 k e1 h hB (by omega))
  generalize rdL (takeM B a1 k) a1 e1 = t at *
  obtain ⟨bs, a2, e2⟩ := t
  dsimp only at he ⊢
  have HE := Lib.hid he
  have HC := Lib.hid hC1
  have hx := Blk.new W #[.pointer (some ⟨p, 0, none⟩), .bool sat] 67
  obtain ⟨X, hX⟩ : ∃ X, W.alloc (.cells #[.pointer (some ⟨p, 0, none⟩), .bool sat] 67) = X := ⟨_, rfl⟩
  rw [hX] at hx HC
  have HX := Lib.hid hx
  have hsX : W.heap.size < X.heap.size := hx.lt
  have HXE := Lib.hid hX
  have HGX := Lib.hid (hX ▸ World.grownBy_alloc W (.cells #[.pointer (some ⟨p, 0, none⟩), .bool sat] 67) (some p))
  have c0 : X.cell? ⟨W.heap.size, 0, none⟩ = some (.pointer (some ⟨p, 0, none⟩)) := hx.cell 0
  have c1 : X.cell? ⟨W.heap.size, 1, none⟩ = some (.bool sat) := hx.cell 1
  have hpx : p < X.heap.size := by omega
  have HNP := Lib.hid (show some W.heap.size ≠ some p from fun e => by injection e with e; omega)
  have HD := Lib.hid (fun Y (h : Blk Y W.heap.size #[.pointer (some ⟨p, 0, none⟩), .bool sat] 67) => h.cell 0 : ∀ Y, Blk Y W.heap.size #[.pointer (some ⟨p, 0, none⟩), .bool sat] 67 → Y.cell? ⟨W.heap.size, 0, none⟩ = some (.pointer (some ⟨p, 0, none⟩)))
  have HXG := Lib.hid (fun Y (h : X.drew.grownBy Y (some p)) => Blk.grown (Blk.drew hx) h HNP.out)
  clear hC hC1 hB hu he hX hx
  go_enter Tryz.func42, Tryz.ntmps42
  go_wp2_with fail
  rw [HXE.out]
  go_region_held3 (fun w' => w'.cell? ⟨W.heap.size, 0, none⟩ = some (.pointer (some ⟨p, 0, none⟩)))
    (first
      | exact c0
      | exact d2
      | exact d1)
    (first
      | (go_at_call 71; refine (HT.out _ hG1.1).mono ?_; rintro E W2 ⟨⟨v, rfl, hO⟩, hG2⟩; have hB2 := Blk.grown hB1 hG2.2 HNP.out; have d2 := HD.out _ hB2)
      | (go_at_call 34; refine (HU.out _ (HC.out.below ((Below.refl _ _).drew))).mono ?_; rintro E W1 ⟨rfl, hG1⟩; have hB1 := HXG.out _ hG1.2; have d1 := HD.out _ hB1))
  have x1 : W2.cell? ⟨W.heap.size, 1, none⟩ = some (.bool sat) := hB2.cell 1
  have hwl := hB2.lt
  have HPG := Lib.hid (pgood_any W2 p q B a2 e2 sat false hG2.1 HE.out)
  have HG := Lib.hid ((HGX.out.trans (⟨hG1.2.os, hG1.2.tape, hG1.2.output, hG1.2.size, hG1.2.block⟩ : X.grownBy W1 (some p))).trans hG2.2)
  have HC2 := Lib.hid hG2.1
  have HG := Lib.hid (show W.grownBy W2 (some p) from HG.out)
  clear hG1 hB1 d1 hG2 hO hB2
  go_wp2_with fail
  refine HPG.out.mono ?_
  rintro E w' ⟨rfl, rfl⟩
  go_wp2_with fail
  exact bodyPost_ret (v := .tuple #[]) (by simp [results, Tryz.results42, go_sem]) rfl ⟨rfl, HC2.out.alloc _, HG.out.trans (World.grownBy_alloc _ _ _)⟩
end Go.Proofs.YtofaiocffifhfaaGreat
end
section
namespace Go.Proofs.YtofaiocffifhfaaGreat
open Go.RowKit Go.Shelf YtofaiocffifhfaaGreatB Go.Proofs.YtofaiocffifhfaaGreatW.PrintWords
/-- New: the bytes lie in memory that is new, too. -/
def NewOwn (W : World) (B : List Int) (E : Ending) (w' : World) : Prop :=
  ∃ p q, W.heap.size ≤ p ∧ (0 < B.length → W.heap.size ≤ q) ∧ E = .returned (.pointer (some ⟨p, 0, none⟩)) ∧ Cur w' p q B 0 0 ∧ Below W.heap.size W w'
set_option maxRecDepth 100000 in
set_option maxHeartbeats 1000000 in
theorem New_own (W : World) (A : Option Addr) (c : Nat) (B : List Int) (hR : RdI W .u8 A B) (hB : Byts B) :
    Calls Tryz.prog 12 #[.slice A B.length c] W (NewOwn W B) := by
  have HR := Lib.hid hR
  have hl := hB.1
  clear hR hB
  go_enter Tryz.func12, Tryz.ntmps12
  go_wp2_with (at_builtin; refine wpList_append_src W.heap.size rfl (.const (.slice none 0 0)) (.tmp 3) 22 5 (.int .u8 0) 1 1 rfl Tryz.underlying22 infoB8 rfl (by decide) (by decide) (.slice none 0 0) 0 [] (nums .u8 B) A B.length c rfl rfl (own_nil _ _ _ _) (by simp [nums]) HR.out.src (nums_one _ _) (Nat.le_refl _) (by omega) ?_; intro v1 w1 hown1 hg1 hat1; rw [Nat.zero_add, List.nil_append] at hown1; obtain ⟨A1, c1, rfl, hl1, hR1⟩ := own_rdI hown1 (by omega))
  have hle : B.length ≤ c1 := by
    rcases hown1.2 with ⟨e, _⟩ | ⟨g, cap, cur, e, _, _, hc, _⟩
    · injection e with _ e1 e2; omega
    · injection e with _ e1 e2; omega
  have hfr : ∀ b o, A1 = some ⟨b, o, none⟩ → W.heap.size ≤ b := by
    intro b o hA
    rcases hown1.2 with ⟨e, _⟩ | ⟨g, cap, cur, e, hf1, hf2, hc, hf3⟩
    · injection e with e0 _ _; rw [hA] at e0; cases e0
    · injection e with e0 _ _; rw [hA] at e0; injection e0 with e0; injection e0 with e0 _ _
      omega
  obtain ⟨q, hq, hby⟩ := rdI_byQ hR1 w1.heap.size (Nat.le_refl _)
  have hB1 : Below W.heap.size W w1 := (Below.refl W.heap.size W).grown hg1 (Nat.le_refl _) (fun k hk => by cases hk)
  go_ret
  exact ⟨w1.heap.size, q, hB1.size, fun hl => by obtain ⟨o, ho, _⟩ := hby hl; exact hfr q o ho, rfl, ⟨hq, Nat.zero_le _, A1, c1, hle, Blk.new w1 _ _, hby.grown (World.grownBy_alloc w1 _ none) (by simp)⟩, hB1.alloc hB1.size _⟩
end Go.Proofs.YtofaiocffifhfaaGreat
end
