/- Lemmas towards this claim's statement: what the functions named here come to, each under the conditions that it states itself. -/
import Derived.Test.YtofaiocffifhfaaGreatCu3
section
namespace Go.Proofs.YtofaiocffifhfaaGreat
open Go.RowKit Go.Shelf YtofaiocffifhfaaGreatB Go.Proofs.YtofaiocffifhfaaGreatW.PrintWords
def secondM (B : List Int) (a : Nat) (e : Int) : Int × Nat × Int := let r := rdOf (u32M B a) a e; (64512 + r.1, r.2.1, if r.1 > 7 then failE r.2.2 108 else r.2.2)
theorem u32_bound (B : List Int) (a : Nat) (e : Int) (hB : Byts B) : 0 ≤ (rdOf (u32M B a) a e).1 ∧ (rdOf (u32M B a) a e).1 ≤ 4294967295 := by
 unfold rdOf
 by_cases he : e = 0
 ·rw [if_pos he]
  cases hu : u32M B a with
  | error e' => simp [numV]
  | ok y =>
   obtain ⟨n, nx⟩ := y
   have := u32M_lt hB hu
   simp only [numV]
   omega
 ·rw [if_neg he]; simp
set_option maxRecDepth 100000 in
theorem second_any (W : World) (R p q : Nat) (sat : Bool) (deep : Int) (B : List Int) (a : Nat) (e : Int) (hR : Rp W R p sat deep) (hRp : R ≠ p) (hC : Cur W p q B a e) (hB : Byts B) :
  Calls Tryz.prog 158 #[.pointer (some ⟨R, 0, none⟩)] W fun E w' => E = .returned (.int .i64 (secondM B a e).1) ∧ Goes W w' p q B (secondM B a e).2.1 (secondM B a e).2.2 := by
 obtain ⟨r0, r1, r2, rf, rlt⟩ := hR.cells
 have H := Lib.hid (U32_any W p q B a e hC hB)
 have hb := u32_bound B a e hB
 have HV := Lib.hid (show secondM B a e = (64512 + (rdOf (u32M B a) a e).1, (rdOf (u32M B a) a e).2.1, if (rdOf (u32M B a) a e).1 > 7 then failE (rdOf (u32M B a) a e).2.2 108 else (rdOf (u32M B a) a e).2.2) from rfl)
 generalize rdOf (u32M B a) a e = t at *
 obtain ⟨n, a', e'⟩ := t
 obtain ⟨hb0, hb1⟩ := hb
 have HR := Lib.hid hR
 clear hC hB hR
 by_cases h7 : n > 7
 ·have hn : (7 : Int) < n := h7
  rw [if_pos h7] at HV
  clear h7
  go_enter Tryz.func158, Tryz.ntmps158
  go_wp2_with fail
  refine H.out.mono ?_
  rintro E W1 ⟨rfl, hG⟩
  obtain ⟨s0, s1, s2, sf, slt⟩ := (HR.out.goes hRp hG).cells
  have HG := Lib.hid hG
  clear hG H
  go_wp2_with fail
  refine (Fail_any _ _ _ _ _ _ 108 HG.out.1 rfl).mono ?_
  rintro E W2 ⟨rfl, hG2⟩
  have HG2 := Lib.hid hG2
  clear hG2
  go_wp2_with fail
  go_ret
  rw [HV.out]
  exact ⟨rfl, HG.out.trans HG2.out⟩
 ·have hn : n ≤ 7 := by omega
  rw [if_neg h7] at HV
  clear h7
  go_enter Tryz.func158, Tryz.ntmps158
  go_wp2_with fail
  refine H.out.mono ?_
  rintro E W1 ⟨rfl, hG⟩
  have HG := Lib.hid hG
  clear hG H
  go_wp2_with fail
  go_ret
  rw [HV.out]
  exact ⟨rfl, HG.out⟩
def opM (sat : Bool) (B : List Int) (a : Nat) (e : Int) : Int × Nat × Int :=
 if (peekM B a e).2 = 0 then (if (peekM B a e).1 = 252 ∧ sat = true then secondM B (a + 1) 0 else if (immM (peekM B a e).1).2 = true then ((peekM B a e).1, a + 1, 0) else (0, a, 108)) else (0, a, (peekM B a e).2)
theorem peek_good {B : List Int} {a : Nat} {e x : Int} (h : peekM B a e = (x, 0)) : e = 0 ∧ B[a]? = some x := by
 unfold peekM at h
 by_cases he : e = 0
 ·rw [if_pos he] at h
  cases hx : B[a]? with
  | none => rw [hx] at h; simp at h
  | some y => rw [hx] at h; simp at h; exact ⟨he, by rw [h]⟩
 ·rw [if_neg he] at h
  simp at h
  exact absurd h.2 he
set_option maxRecDepth 100000 in
set_option maxHeartbeats 1000000 in
theorem op_any (W : World) (R p q : Nat) (sat : Bool) (deep : Int) (B : List Int) (a : Nat) (e : Int) (hR : Rp W R p sat deep) (hRp : R ≠ p) (hC : Cur W p q B a e) (hB : Byts B) :
  Calls Tryz.prog 145 #[.pointer (some ⟨R, 0, none⟩)] W fun E w' => E = .returned (.int .i64 (opM sat B a e).1) ∧ Goes W w' p q B (opM sat B a e).2.1 (opM sat B a e).2.2 := by
 have H := Lib.hid (peek_any W R p q sat deep B a e hR hRp hC hB)
 have HR := Lib.hid hR
 have HB := Lib.hid hB
 have hopm : opM sat B a e = if (peekM B a e).2 = 0 then (if (peekM B a e).1 = 252 ∧ sat = true then secondM B (a + 1) 0 else if (immM (peekM B a e).1).2 = true then ((peekM B a e).1, a + 1, 0) else (0, a, 108)) else (0, a, (peekM B a e).2) := rfl
 have hpg := fun x => peek_good (B := B) (a := a) (e := e) (x := x)
 generalize peekM B a e = t at *
 obtain ⟨x, e1⟩ := t
 clear hR hC
 by_cases he : e1 = 0
 ·subst he
  rw [if_pos rfl] at hopm
  obtain ⟨rfl, hx⟩ := hpg x rfl
  have hxb := hB.get hx
  have hx0 := hxb.1
  have hx1 := hxb.2
  have HM := Lib.hid (Imm_any · x hx0 (by omega))
  have HBy := Lib.hid (show rdByte B a 0 = (x, a + 1, 0) from by simp [rdByte, hx])
  clear hpg hx hB hxb
  by_cases hs : x = 252 ∧ sat = true
  ·obtain ⟨rfl, rfl⟩ := hs
   rw [if_pos ⟨rfl, rfl⟩] at hopm
   have HV := Lib.hid hopm
   clear hopm
   go_enter Tryz.func145, Tryz.ntmps145
   go_wp2_with fail
   refine H.out.mono ?_
   rintro E W1 ⟨rfl, hG⟩
   have HR1 := Lib.hid (HR.out.goes hRp hG)
   have HG := Lib.hid hG
   clear hG H
   go_wp2_with fail
   refine (rgood_any _ _ _ _ _ _ _ _ _ true HR1.out HG.out.1 rfl).mono ?_
   rintro E w' ⟨rfl, rfl⟩
   go_wp2_with fail
   refine (HM.out _).mono ?_
   rintro E W2 ⟨rfl, hB2⟩
   have HG2 := Lib.hid (show Goes W1 W2 p q B a 0 from ⟨HG.out.1.below hB2, grown_below hB2 _⟩)
   have HR2 := Lib.hid (HR1.out.goes hRp HG2.out)
   obtain ⟨s0, s1, s2, sf, slt⟩ := HR2.out.cells
   clear hB2
   go_wp2_with fail
   refine (Byte_any _ _ _ _ _ _ HG2.out.1 HB.out).mono ?_
   rintro E W3 ⟨rfl, hG3⟩
   rw [HBy.out] at hG3
   have HR3 := Lib.hid (HR2.out.goes hRp hG3)
   have HG3 := Lib.hid hG3
   clear hG3
   go_wp2_with fail
   refine (second_any _ _ _ _ _ _ _ _ _ HR3.out hRp HG3.out.1 HB.out).mono ?_
   rintro E W4 ⟨rfl, hG4⟩
   have HG4 := Lib.hid hG4
   clear hG4
   go_wp2_with fail
   go_ret
   rw [HV.out]
   exact ⟨rfl, ((HG.out.trans HG2.out).trans HG3.out).trans HG4.out⟩
  ·rw [if_neg hs] at hopm
   by_cases h252 : x = 252
   ·obtain rfl : sat = false := by
     cases sat
     ·rfl
     ·exact absurd ⟨h252, rfl⟩ hs
    subst h252
    rw [show immM 252 = (0, false) from by decide] at hopm HM
    have HV := Lib.hid (show opM false B a 0 = (0, a, 108) from hopm)
    clear hopm hs
    go_enter Tryz.func145, Tryz.ntmps145
    go_wp2_with fail
    refine H.out.mono ?_
    rintro E W1 ⟨rfl, hG⟩
    have HR1 := Lib.hid (HR.out.goes hRp hG)
    have HG := Lib.hid hG
    clear hG
    go_wp2_with fail
    refine (rgood_any _ _ _ _ _ _ _ _ _ true HR1.out HG.out.1 rfl).mono ?_
    rintro E w' ⟨rfl, rfl⟩
    go_wp2_with fail
    refine (HM.out _).mono ?_
    rintro E W2 ⟨rfl, hB2⟩
    have HG2 := Lib.hid (show Goes W1 W2 p q B a 0 from ⟨HG.out.1.below hB2, grown_below hB2 _⟩)
    have HR2 := Lib.hid (HR1.out.goes hRp HG2.out)
    obtain ⟨s0, s1, s2, sf, slt⟩ := HR2.out.cells
    clear hB2
    go_wp2_with fail
    refine (Fail_any _ _ _ _ _ _ 108 HG2.out.1 rfl).mono ?_
    rintro E W3 ⟨rfl, hG3⟩
    have HG3 := Lib.hid hG3
    clear hG3
    go_wp2_with fail
    go_ret
    rw [HV.out]
    exact ⟨rfl, (HG.out.trans HG2.out).trans HG3.out⟩
   ·have hsx : (x == 252) = false := by simpa using h252
    have HV := Lib.hid hopm
    clear hopm hs h252
    generalize immM x = im at *
    obtain ⟨iv, ib⟩ := im
    cases ib
    ·have HV := Lib.hid (show opM sat B a 0 = (0, a, 108) from HV.out)
     go_enter Tryz.func145, Tryz.ntmps145
     go_wp2_with fail
     refine H.out.mono ?_
     rintro E W1 ⟨rfl, hG⟩
     have HR1 := Lib.hid (HR.out.goes hRp hG)
     have HG := Lib.hid hG
     clear hG
     go_wp2_with fail
     refine (rgood_any _ _ _ _ _ _ _ _ _ true HR1.out HG.out.1 rfl).mono ?_
     rintro E w' ⟨rfl, rfl⟩
     go_wp2_with fail
     refine (HM.out _).mono ?_
     rintro E W2 ⟨rfl, hB2⟩
     have HG2 := Lib.hid (show Goes W1 W2 p q B a 0 from ⟨HG.out.1.below hB2, grown_below hB2 _⟩)
     have HR2 := Lib.hid (HR1.out.goes hRp HG2.out)
     obtain ⟨s0, s1, s2, sf, slt⟩ := HR2.out.cells
     clear hB2
     go_wp2_with fail
     refine (Fail_any _ _ _ _ _ _ 108 HG2.out.1 rfl).mono ?_
     rintro E W3 ⟨rfl, hG3⟩
     have HG3 := Lib.hid hG3
     clear hG3
     go_wp2_with fail
     go_ret
     rw [HV.out]
     exact ⟨rfl, (HG.out.trans HG2.out).trans HG3.out⟩
    ·have HV := Lib.hid (show opM sat B a 0 = (x, a + 1, 0) from HV.out)
     go_enter Tryz.func145, Tryz.ntmps145
     go_wp2_with fail
     refine H.out.mono ?_
     rintro E W1 ⟨rfl, hG⟩
     have HR1 := Lib.hid (HR.out.goes hRp hG)
     have HG := Lib.hid hG
     clear hG
     go_wp2_with fail
     refine (rgood_any _ _ _ _ _ _ _ _ _ true HR1.out HG.out.1 rfl).mono ?_
     rintro E w' ⟨rfl, rfl⟩
     go_wp2_with fail
     refine (HM.out _).mono ?_
     rintro E W2 ⟨rfl, hB2⟩
     have HG2 := Lib.hid (show Goes W1 W2 p q B a 0 from ⟨HG.out.1.below hB2, grown_below hB2 _⟩)
     have HR2 := Lib.hid (HR1.out.goes hRp HG2.out)
     obtain ⟨s0, s1, s2, sf, slt⟩ := HR2.out.cells
     clear hB2
     go_wp2_with fail
     refine (Byte_any _ _ _ _ _ _ HG2.out.1 HB.out).mono ?_
     rintro E W3 ⟨rfl, hG3⟩
     rw [HBy.out] at hG3
     have HG3 := Lib.hid hG3
     clear hG3
     go_wp2_with fail
     go_ret
     rw [HV.out]
     exact ⟨rfl, (HG.out.trans HG2.out).trans HG3.out⟩
 ·rw [if_neg he] at hopm
  have HV := Lib.hid hopm
  have he2 := Lib.hid (beq_eq_false_iff_ne.2 he)
  clear hopm hpg hB he
  go_enter Tryz.func145, Tryz.ntmps145
  go_wp2_with fail
  refine H.out.mono ?_
  rintro E W1 ⟨rfl, hG⟩
  have HR1 := Lib.hid (HR.out.goes hRp hG)
  have HG := Lib.hid hG
  clear hG
  go_wp2_with fail
  refine (rgood_any _ _ _ _ _ _ _ _ _ false HR1.out HG.out.1 he2.out).mono ?_
  rintro E w' ⟨rfl, rfl⟩
  go_wp2_with fail
  go_ret
  rw [HV.out]
  exact ⟨rfl, HG.out⟩
end Go.Proofs.YtofaiocffifhfaaGreat
end
section
namespace Go.Proofs.YtofaiocffifhfaaGreat
open Go.RowKit Go.Shelf YtofaiocffifhfaaGreatB Go.Proofs.YtofaiocffifhfaaGreatW.PrintWords
def zeroM (B : List Int) (a : Nat) (e : Int) : Nat × Int := if e = 0 then (match B[a]? with | none => (a, 100) | some x => if x = 0 then (a + 1, 0) else (a + 1, 107)) else (a, e)
set_option maxRecDepth 100000 in
set_option maxHeartbeats 1000000 in
theorem zero_any (W : World) (R p q : Nat) (sat : Bool) (deep : Int) (B : List Int) (a : Nat) (e : Int) (hR : Rp W R p sat deep) (hRp : R ≠ p) (hC : Cur W p q B a e) (hB : Byts B) :
  Calls Tryz.prog 148 #[.pointer (some ⟨R, 0, none⟩)] W fun E w' => E = .returned (.tuple #[]) ∧ Goes W w' p q B (zeroM B a e).1 (zeroM B a e).2 := by
 obtain ⟨r0, r1, r2, rf, rlt⟩ := hR.cells
 have HA := Lib.hid (at_any W p q B a e hC)
 have H := Lib.hid (Byte_any W p q B a e hC hB)
 have HR := Lib.hid hR
 by_cases hx : e = 0 ∧ ∃ x, B[a]? = some x ∧ ¬ x = 0
 ·obtain ⟨rfl, x, hx, hx0⟩ := hx
  have HV := Lib.hid (show zeroM B a 0 = (a + 1, 107) from by simp [zeroM, hx, hx0])
  have hby : rdByte B a 0 = (x, a + 1, 0) := by simp [rdByte, hx]
  rw [hby] at H
  have hxb : (x != 0) = true := by simp; exact hx0
  clear hC hB hR hx hx0 hby
  go_enter Tryz.func148, Tryz.ntmps148
  go_wp2_with fail
  refine HA.out.mono ?_
  rintro E w' ⟨rfl, rfl⟩
  go_wp2_with fail
  refine H.out.mono ?_
  rintro E W1 ⟨rfl, hG⟩
  have hG' : Goes W W1 p q B (a + 1) 0 := hG
  have HR1 := Lib.hid (HR.out.goes hRp hG')
  obtain ⟨s0, s1, s2, sf, slt⟩ := HR1.out.cells
  have HG := Lib.hid hG'
  clear hG hG' H
  go_wp2_with fail
  refine (at_any _ _ _ _ _ _ HG.out.1).mono ?_
  rintro E w' ⟨rfl, rfl⟩
  go_wp2_with fail
  refine (Fail_any _ _ _ _ _ _ 107 HG.out.1 rfl).mono ?_
  rintro E W3 ⟨rfl, hG3⟩
  have HG3 := Lib.hid hG3
  clear hG3
  go_wp2_with fail
  go_end0
  rw [HV.out]
  exact ⟨rfl, HG.out.trans HG3.out⟩
 ·have HV := Lib.hid (show (rdByte B a e).1 = 0 ∧ zeroM B a e = (rdByte B a e).2 from by
   unfold rdByte zeroM
   by_cases he : e = 0
   ·simp only [he, if_true]
    cases hb : B[a]? with
    | none => exact ⟨rfl, rfl⟩
    | some x =>
     have h0 : x = 0 := Classical.byContradiction fun h => hx ⟨he, x, hb, h⟩
     subst h0
     exact ⟨rfl, rfl⟩
   ·simp only [he, if_false, and_self])
  generalize rdByte B a e = t at *
  obtain ⟨v, a', e'⟩ := t
  obtain ⟨h1, h2⟩ := HV.out
  simp only at h1
  subst h1
  have H2 := Lib.hid h2
  clear hC hB hR hx h2 HV
  go_enter Tryz.func148, Tryz.ntmps148
  go_wp2_with fail
  refine HA.out.mono ?_
  rintro E w' ⟨rfl, rfl⟩
  go_wp2_with fail
  refine H.out.mono ?_
  rintro E W1 ⟨rfl, hG⟩
  have HG := Lib.hid hG
  clear hG H
  go_wp2_with fail
  go_end0
  rw [H2.out]
  exact ⟨rfl, HG.out⟩
def labM (B : List Int) : Nat → Nat → Int → List Int → List Int × Nat × Int
 | 0, a, e, acc => (acc, a, e)
 | k + 1, a, e, acc => if e = 0 then labM B k (rdOf (u32M B a) a 0).2.1 (rdOf (u32M B a) a 0).2.2 (acc ++ [(rdOf (u32M B a) a 0).1]) else (acc, a, e)
theorem labM_bad (B : List Int) (k a : Nat) (e : Int) (acc : List Int) (he : ¬ e = 0) : labM B k a e acc = (acc, a, e) := by
 cases k with
 | zero => rfl
 | succ k => rw [labM, if_neg he]
def labelsM (B : List Int) (a : Nat) (e : Int) : List Int × Nat × Int := labM B (rdOf (countM B a) a e).1.toNat (rdOf (countM B a) a e).2.1 (rdOf (countM B a) a e).2.2 []
theorem count_bound (B : List Int) (a : Nat) (e : Int) (hB : Byts B) : 0 ≤ (rdOf (countM B a) a e).1 ∧ (rdOf (countM B a) a e).1 ≤ 4096 := by
 unfold rdOf
 by_cases he : e = 0
 ·rw [if_pos he]
  cases hu : countM B a with
  | error e' => simp [numV]
  | ok y =>
   obtain ⟨n, nx⟩ := y
   have := countM_ok hB hu
   simp only [numV]
   omega
 ·rw [if_neg he]; simp
theorem infoU : (Tryz.prog.info? 30).map (fun i => (i.zero, i.size, i.bytes)) = some (some (.int .u32 0), 1, 4) := by kernel_rfl
theorem fk_u32 {W : World} {ok : Nat → Prop} {x : Int} (h0 : 0 ≤ x) (h1 : x ≤ 4294967295) : FK (rng .u32) W ok x [.int .u32 x] := fun _ _ => ⟨rfl, by simp [Lit.wf, IntKind.min, IntKind.max, IntKind.signed, IntKind.bits]; omega⟩
theorem lab_goes {W W2 w1 : World} {p q : Nat} {B : List Int} {a a0 : Nat} {e e0 : Int} {row : Option Nat} (hC : Cur W p q B a0 e0) (h : Goes W W2 p q B a e) (hg : W2.grownBy w1 row) (hr : ∀ k, row = some k → W.heap.size ≤ k) : Goes W w1 p q B a e := by
 have hb : ∀ k, k < W.heap.size → w1.heap[k]? = W2.heap[k]? := fun k hk => hg.block k (Nat.lt_of_lt_of_le hk h.2.size) (fun e => by have := hr k e.symm; omega)
 have hp := hC.lt
 refine ⟨?_, ⟨hg.os.trans h.2.os, hg.tape.trans h.2.tape, hg.output.trans h.2.output, Nat.le_trans h.2.size hg.size, fun k hk hne => (hb k hk).trans (h.2.block k hk hne)⟩⟩
 rcases Nat.eq_zero_or_pos B.length with hz | hz
 ·obtain ⟨h0, h1, A, c, h2, h3, h4⟩ := h.1
  exact ⟨h0, h1, A, c, h2, h3.grown hg (fun e => by have := hr p e.symm; omega), fun hp => by omega⟩
 ·obtain ⟨_, _, A, c, _, _, h4⟩ := hC
  obtain ⟨o, _, hcell⟩ := h4 hz
  have hq := World.block_lt_of_cell? _ _ (hcell 0 _ (List.getElem?_eq_getElem hz))
  exact h.1.grown hg (fun e => by have := hr p e.symm; omega) (fun e => by have := hr q e.symm; simp only at hq; omega)
def LabPost (W : World) (p q : Nat) (B : List Int) (r : List Int × Nat × Int) (E : Ending) (w' : World) : Prop :=
 (∃ A c, E = .returned (.slice A r.1.length c) ∧ r.1.length ≤ c ∧ FC (rng .u32) w' (fun k => W.heap.size ≤ k) A r.1) ∧ Goes W w' p q B r.2.1 r.2.2
set_option maxRecDepth 100000 in
set_option maxHeartbeats 2000000 in
theorem labels_any (W : World) (R p q : Nat) (sat : Bool) (deep : Int) (B : List Int) (a : Nat) (e : Int) (hR : Rp W R p sat deep) (hRp : R ≠ p) (hC : Cur W p q B a e) (hB : Byts B) :
  Calls Tryz.prog 147 #[.pointer (some ⟨R, 0, none⟩)] W (LabPost W p q B (labelsM B a e)) := by
 obtain ⟨r0, r1, r2, rf, rlt⟩ := hR.cells
 have hplt := hC.lt
 have H := Lib.hid (Count_any W p q B a e hC hB)
 have hb := count_bound B a e hB
 have HV := Lib.hid (show labelsM B a e = labM B (rdOf (countM B a) a e).1.toNat (rdOf (countM B a) a e).2.1 (rdOf (countM B a) a e).2.2 [] from rfl)
 have HR := Lib.hid hR
 have HB := Lib.hid hB
 have HC0 := Lib.hid hC
 generalize rdOf (countM B a) a e = t at *
 obtain ⟨ni, a0, e0⟩ := t
 obtain ⟨n, rfl⟩ := Int.eq_ofNat_of_zero_le hb.1
 have hn : (n : Int) ≤ 4096 := hb.2
 rw [show ((n : Int).toNat) = n from Int.toNat_natCast n] at HV
 clear hC hB hR hb
 go_enter Tryz.func147, Tryz.ntmps147
 go_wp2_with fail
 refine H.out.mono ?_
 rintro E W1 ⟨rfl, hG⟩
 have hG' : Goes W W1 p q B a0 e0 := hG
 have HG0 := Lib.hid hG'
 clear hG hG' H r0 r1 r2 rf
 go_wp2_with fail
 go_loopw [3, 5] (fun v i wr => ∃ (j a1 : Nat) (e1 : Int) (xs : List Int), j ≤ n ∧ i = .int .i64 j ∧ xs.length = j ∧ Own (rng .u32) 30 wr W.heap.size (fun k => W.heap.size ≤ k) v xs ∧ Goes W wr p q B a1 e1 ∧ Hid (labelsM B a e = labM B (n - j) a1 e1 xs)) (fun _ i _ => n - (intOf i).toNat)
 case atStart => exact ⟨0, a0, e0, [], Nat.zero_le _, rfl, rfl, Own.nil, HG0.out, HV.out⟩
 case round =>
  obtain ⟨j, a1, e1, xs, hj, rfl, hxl, hown, hGo, hlab⟩ := hrel
  have hsz := hGo.2.size
  have HX := Lib.hid hxl
  have HR1 := Lib.hid (HR.out.goes hRp hGo)
  obtain ⟨s0, s1, s2, sf, slt⟩ := HR1.out.cells
  have HGo := Lib.hid hGo
  have HO := Lib.hid hown
  clear hxl hGo hown
  by_cases hfin : j < n ∧ e1 = 0
  ·obtain ⟨hlt, rfl⟩ := hfin
   have hlt2 : (j : Int) < (n : Int) := by omega
   have hub := u32_bound B a1 0 HB.out
   have HU := Lib.hid (U32_any wr p q B a1 0 HGo.out.1 HB.out)
   have HL := Lib.hid (show labelsM B a e = labM B (n - (j + 1)) (rdOf (u32M B a1) a1 0).2.1 (rdOf (u32M B a1) a1 0).2.2 (xs ++ [(rdOf (u32M B a1) a1 0).1]) from by
    rw [hlab.out, show n - j = n - (j + 1) + 1 from by omega, labM, if_pos rfl])
   generalize rdOf (u32M B a1) a1 0 = t at *
   obtain ⟨x, a2, e2⟩ := t
   obtain ⟨hx0, hx1⟩ := hub
   go_wp2_with fail
   refine (rgood_any _ _ _ _ _ _ _ _ _ true HR1.out HGo.out.1 rfl).mono ?_
   rintro E w' ⟨rfl, rfl⟩
   go_wp2_with fail
   refine HU.out.mono ?_
   rintro E W2 ⟨rfl, hG2⟩
   have hG2' : Goes wr W2 p q B a2 e2 := hG2
   have hob : ∀ k, u3.ownBlock = some k → W.heap.size ≤ k := fun k hk => (HO.out.block hk).1
   have hO2 : Own (rng .u32) 30 W2 W.heap.size (fun k => W.heap.size ≤ k) u3 xs := HO.out.grown hG2'.2 (by
    cases hv : u3.ownBlock with
    | none => exact .inl rfl
    | some k => right; intro h; injection h with h; have := hob k hv; omega) (fun k hk h => by injection h with h; omega)
   have HGt := Lib.hid (HGo.out.trans hG2')
   have hsz2 := HGt.out.2.size
   have hxl := HX.out
   clear hG2 hG2' HU
   have hO3 := Lib.hid hO2
   clear hO2 hob
   go_wp2_with (at_builtin; refine Own.append (d := rng .u32) W.heap.size rfl (.tmp 20) (.tmp 26) 69 30 (.int .u32 0) 4 rfl Tryz.underlying69 infoU rfl (by decide) (by decide) u3 xs x [.int .u32 x] (fun k => W.heap.size ≤ k) rfl rfl (fk_u32 hx0 hx1) hO3.out hsz2 (by omega) ?_; intro v1 w1 hown1 hg1 hat1)
   have hg1' : W2.grownBy w1 u3.ownBlock := hg1
   have HO4 := Lib.hid hown1
   have HG4 := Lib.hid (show Goes W w1 p q B a2 e2 from lab_goes HC0.out HGt.out hg1' (fun k hk => (hO3.out.block hk).1))
   clear hown1 hg1 hg1' hat1 hxl
   go_wp2_with fail
   go_roundw
   case rel => exact ⟨j + 1, a2, e2, xs ++ [x], by omega, by go_num, by rw [List.length_append, HX.out]; rfl, HO4.out, HG4.out, HL⟩
   case measure => simp [intOf]; omega
  ·have HL := Lib.hid (show labelsM B a e = (xs, a1, e1) from by
    by_cases he : e1 = 0
    ·have : j = n := by omega
     rw [hlab.out, this, Nat.sub_self]; rfl
    ·rw [hlab.out, labM_bad _ _ _ _ _ he])
   obtain ⟨A, c, rfl, hle, hF⟩ := HO.out.reads
   have HF := Lib.hid (hF.mono (ok' := fun k => W.heap.size ≤ k) (fun k hk => hk.elim id id))
   clear hF
   by_cases hlt : j < n
   ·have he : ¬ e1 = 0 := fun h => hfin ⟨hlt, h⟩
    have he2 := Lib.hid (beq_eq_false_iff_ne.2 he)
    clear hfin he
    go_wp2_with fail
    refine (rgood_any _ _ _ _ _ _ _ _ _ false HR1.out HGo.out.1 he2.out).mono ?_
    rintro E w' ⟨rfl, rfl⟩
    go_wp2_with fail
    go_ret
    rw [HL.out]
    exact ⟨⟨A, c, rfl, hle, HF.out⟩, HGo.out⟩
   ·obtain rfl : j = n := by omega
    clear hfin
    go_wp2_with fail
    go_ret
    rw [HL.out]
    exact ⟨⟨A, c, rfl, hle, HF.out⟩, HGo.out⟩
end Go.Proofs.YtofaiocffifhfaaGreat
end
section
namespace Go.Proofs.YtofaiocffifhfaaGreat
open Go.RowKit Go.Shelf YtofaiocffifhfaaGreatB Go.Proofs.YtofaiocffifhfaaGreatW.PrintWords
def leafI (op : Int) : Ins := .mk op 0 0 0 0 [] [] [] false
def bodyM (bk : Bool → Nat → Int → List Ins × Int × Nat × Int) (B : List Int) (op i : Int) (a : Nat) : Ins × Nat × Int :=
 if i = 1 then
  let t := rdOf (resM B a) a 0
  let r := bk (op == 4) t.2.1 t.2.2
  if r.2.1 = 5 then
   let s := bk false r.2.2.1 r.2.2.2
   (.mk op t.1 0 0 0 [] r.1 s.1 true, s.2.2.1, s.2.2.2)
  else (.mk op t.1 0 0 0 [] r.1 [] false, r.2.2.1, r.2.2.2)
 else if i = 2 ∨ i = 4 then
  let t := rdOf (u32M B a) a 0
  (.mk op 0 t.1 0 0 [] [] [] false, t.2.1, t.2.2)
 else if i = 3 then
  let l := labelsM B a 0
  let t := rdOf (u32M B l.2.1) l.2.1 l.2.2
  (.mk op 0 t.1 0 0 l.1 [] [] false, t.2.1, t.2.2)
 else if i = 5 then
  let t := rdOf (u32M B a) a 0
  (.mk op 0 t.1 0 0 [] [] [] false, zeroM B t.2.1 t.2.2)
 else if i = 6 then
  let t := rdOf (u32M B a) a 0
  let u := rdOf (u32M B t.2.1) t.2.1 t.2.2
  (.mk op 0 t.1 u.1 0 [] [] [] false, u.2.1, u.2.2)
 else if i = 7 then (leafI op, zeroM B a 0)
 else if i = 8 then
  let t := rdOf (s32M B a) a 0
  (.mk op 0 0 0 t.1 [] [] [] false, t.2.1, t.2.2)
 else if i = 9 then
  let t := rdOf (s64M B a) a 0
  (.mk op 0 0 0 t.1 [] [] [] false, t.2.1, t.2.2)
 else if i = 10 then
  let t := rdOf (fixM B a 4) a 0
  (.mk op 0 0 0 t.1 [] [] [] false, t.2.1, t.2.2)
 else if i = 11 then
  let t := rdOf (fixM B a 8) a 0
  (.mk op 0 0 0 t.1 [] [] [] false, t.2.1, t.2.2)
 else (leafI op, a, 0)
def deepE (B : List Int) (deep a : Nat) (e : Int) : Int := if (immM (peekM B a e).1).1 = 1 ∧ 64 ≤ deep ∧ (peekM B a e).2 = 0 then 3 else (peekM B a e).2
def insM (bk : Bool → Nat → Int → List Ins × Int × Nat × Int) (sat : Bool) (B : List Int) (deep a : Nat) (e : Int) : Ins × Nat × Int :=
 let o := opM sat B a (deepE B deep a e)
 if o.2.2 = 0 then bodyM bk B o.1 (immM o.1).1 o.2.1 else (leafI 0, o.2.1, o.2.2)
def blkM (sat : Bool) (B : List Int) : Nat → Nat → Bool → Nat → Int → List Ins → List Ins × Int × Nat × Int
 | 0, _, _, a, e, _ => ([], 0, a, e)
 | f + 1, deep, may, a, e, acc =>
  if e = 0 then
   match B[a]? with
   | none => ([], 0, a, 100)
   | some b =>
    if b = 11 then (acc, 11, a + 1, 0)
    else if b = 5 then (if may then (acc, 5, a + 1, 0) else ([], 0, a, 108))
    else
     let r := insM (fun m a' e' => blkM sat B f (deep + 1) m a' e' []) sat B deep a 0
     if r.2.2 = 0 then blkM sat B f deep may r.2.1 0 (acc ++ [r.1]) else ([], 0, r.2.1, r.2.2)
  else ([], 0, a, e)
-- What is read lies behind.
theorem rdOf_ge {r : Except Int (Nat × Nat)} {a : Nat} {e : Int} (hr : ∀ n nx, r = .ok (n, nx) → a ≤ nx) (h : (rdOf r a e).2.2 = 0) : a ≤ (rdOf r a e).2.1 ∧ e = 0 := by
 unfold rdOf at h ⊢
 by_cases he : e = 0
 ·rw [if_pos he] at h ⊢
  rcases r with e' | ⟨n, nx⟩
  ·exact ⟨Nat.le_refl _, he⟩
  ·exact ⟨hr n nx rfl, he⟩
 ·rw [if_neg he] at h
  exact absurd h he
theorem u32_ge {B : List Int} {a : Nat} {e : Int} (hB : Byts B) (h : (rdOf (u32M B a) a e).2.2 = 0) : a ≤ (rdOf (u32M B a) a e).2.1 ∧ e = 0 := rdOf_ge (fun n nx hh => by have := u32M_lt hB hh; omega) h
theorem s32_ge {B : List Int} {a : Nat} {e : Int} (h : (rdOf (s32M B a) a e).2.2 = 0) : a ≤ (rdOf (s32M B a) a e).2.1 ∧ e = 0 := rdOf_ge (fun n nx hh => by
 unfold s32M at hh
 cases hs : sintM B a 32 with
 | error e => rw [hs] at hh; cases hh
 | ok y => obtain ⟨m, k⟩ := y; rw [hs] at hh; cases hh; have := sintM_ok hs; omega) h
theorem s64_ge {B : List Int} {a : Nat} {e : Int} (h : (rdOf (s64M B a) a e).2.2 = 0) : a ≤ (rdOf (s64M B a) a e).2.1 ∧ e = 0 := rdOf_ge (fun n nx hh => by have := sintM_ok hh; omega) h
theorem fix_ge {B : List Int} {a n : Nat} {e : Int} (h : (rdOf (fixM B a n) a e).2.2 = 0) : a ≤ (rdOf (fixM B a n) a e).2.1 ∧ e = 0 := rdOf_ge (fun m nx hh => by have := fixM_ok hh; omega) h
theorem count_ge {B : List Int} {a : Nat} {e : Int} (hB : Byts B) (h : (rdOf (countM B a) a e).2.2 = 0) : a ≤ (rdOf (countM B a) a e).2.1 ∧ e = 0 := rdOf_ge (fun m nx hh => by have := countM_ok hB hh; omega) h
theorem res_ge {B : List Int} {a : Nat} {e : Int} (h : (rdOf (resM B a) a e).2.2 = 0) : a ≤ (rdOf (resM B a) a e).2.1 ∧ e = 0 := rdOf_ge (fun m nx hh => by
 unfold resM amongM at hh
 cases hx : B[a]? with
 | none => rw [hx] at hh; cases hh
 | some x =>
  rw [hx] at hh
  simp only at hh
  split at hh
  ·cases hh
  next h => split at h <;> cases h; cases hh; omega) h
theorem zero_ge {B : List Int} {a : Nat} {e : Int} (h : (zeroM B a e).2 = 0) : a ≤ (zeroM B a e).1 ∧ e = 0 := by
 unfold zeroM at h ⊢
 by_cases he : e = 0
 ·rw [if_pos he] at h ⊢
  refine ⟨?_, he⟩
  cases B[a]? with
  | none => exact Nat.le_refl _
  | some x => simp only; split <;> simp
 ·rw [if_neg he] at h
  exact absurd h he
theorem lab_ge {B : List Int} (hB : Byts B) : ∀ (k a : Nat) (e : Int) (acc : List Int), (labM B k a e acc).2.2 = 0 → a ≤ (labM B k a e acc).2.1 ∧ e = 0
 | 0, a, e, acc, h => ⟨Nat.le_refl _, h⟩
 | k + 1, a, e, acc, h => by
  rw [labM] at h ⊢
  by_cases he : e = 0
  ·rw [if_pos he] at h ⊢
   have ih := lab_ge hB k _ _ _ h
   have := u32_ge hB ih.2
   exact ⟨by omega, he⟩
  ·rw [if_neg he] at h
   exact absurd h he
theorem labels_ge {B : List Int} {a : Nat} {e : Int} (hB : Byts B) (h : (labelsM B a e).2.2 = 0) : a ≤ (labelsM B a e).2.1 ∧ e = 0 := by
 unfold labelsM at h ⊢
 have h1 := lab_ge hB _ _ _ _ h
 have h2 := count_ge hB h1.2
 exact ⟨by omega, h2.2⟩
def BkGe (bk : Bool → Nat → Int → List Ins × Int × Nat × Int) : Prop := ∀ m a e, (bk m a e).2.2.2 = 0 → a ≤ (bk m a e).2.2.1 ∧ e = 0
theorem body_ge {bk : Bool → Nat → Int → List Ins × Int × Nat × Int} {B : List Int} {op i : Int} {a : Nat} (hB : Byts B) (hbk : BkGe bk) (h : (bodyM bk B op i a).2.2 = 0) : a ≤ (bodyM bk B op i a).2.1 := by
 unfold bodyM at h ⊢
 simp only at h ⊢
 by_cases h1 : i = 1
 ·simp only [h1, if_true] at h ⊢
  split at h
  next h5 =>
   rw [if_pos h5]
   have g3 := hbk _ _ _ h
   have g2 := hbk _ _ _ g3.2
   have g1 := res_ge g2.2
   simp only at g3 ⊢
   omega
  next h5 =>
   rw [if_neg h5]
   have g2 := hbk _ _ _ h
   have g1 := res_ge g2.2
   simp only at g2 ⊢
   omega
 ·simp only [h1, if_false] at h ⊢
  split at h
  next c => rw [if_pos c]; exact (u32_ge hB h).1
  next c =>
  rw [if_neg c]
  split at h
  next c => rw [if_pos c]; have g2 := u32_ge hB h; have g1 := labels_ge hB g2.2; simp only at g2 ⊢; omega
  next c =>
  rw [if_neg c]
  split at h
  next c => rw [if_pos c]; have g2 := zero_ge h; have g1 := u32_ge hB g2.2; simp only at g2 ⊢; omega
  next c =>
  rw [if_neg c]
  split at h
  next c => rw [if_pos c]; have g2 := u32_ge hB h; have g1 := u32_ge hB g2.2; simp only at g2 ⊢; omega
  next c =>
  rw [if_neg c]
  split at h
  next c => rw [if_pos c]; exact (zero_ge h).1
  next c =>
  rw [if_neg c]
  split at h
  next c => rw [if_pos c]; exact (s32_ge h).1
  next c =>
  rw [if_neg c]
  split at h
  next c => rw [if_pos c]; exact (s64_ge h).1
  next c =>
  rw [if_neg c]
  split at h
  next c => rw [if_pos c]; exact (fix_ge h).1
  next c =>
  rw [if_neg c]
  split at h
  next c => rw [if_pos c]; exact (fix_ge h).1
  next c => rw [if_neg c]; exact Nat.le_refl _
theorem op_ge {sat : Bool} {B : List Int} {a : Nat} {e : Int} (hB : Byts B) (h : (opM sat B a e).2.2 = 0) : a + 1 ≤ (opM sat B a e).2.1 ∧ e = 0 ∧ ∃ x, B[a]? = some x := by
 unfold opM at h ⊢
 by_cases hp : (peekM B a e).2 = 0
 ·obtain ⟨x, hx⟩ : ∃ x, peekM B a e = (x, 0) := ⟨(peekM B a e).1, by rw [← hp]⟩
  have hg := peek_good hx
  rw [if_pos hp] at h ⊢
  split at h
  next c =>
   rw [if_pos c]
   unfold secondM at h ⊢
   simp only at h ⊢
   have : (rdOf (u32M B (a + 1)) (a + 1) 0).2.2 = 0 := by
    split at h
    ·unfold failE at h; split at h
     ·cases h
     ·assumption
    ·exact h
   exact ⟨(u32_ge hB this).1, hg.1, x, hg.2⟩
  next c =>
   rw [if_neg c]
   split at h
   next c2 => rw [if_pos c2]; exact ⟨Nat.le_refl _, hg.1, x, hg.2⟩
   next c2 => cases h
 ·rw [if_neg hp] at h
  exact absurd h hp
theorem ins_ge {bk : Bool → Nat → Int → List Ins × Int × Nat × Int} {sat : Bool} {B : List Int} {deep a : Nat} {e : Int} (hB : Byts B) (hbk : BkGe bk) (h : (insM bk sat B deep a e).2.2 = 0) : a + 1 ≤ (insM bk sat B deep a e).2.1 := by
 unfold insM at h ⊢
 simp only at h ⊢
 split at h
 next c =>
  rw [if_pos c]
  have g1 := (op_ge hB c).1
  have g2 := body_ge hB hbk h
  omega
 next c => exact absurd h c
theorem blk_ge {sat : Bool} {B : List Int} (hB : Byts B) : ∀ (f deep : Nat) (may : Bool) (a : Nat) (e : Int) (acc : List Ins), (blkM sat B f deep may a e acc).2.2.2 = 0 → a ≤ (blkM sat B f deep may a e acc).2.2.1 ∧ e = 0
 | 0, deep, may, a, e, acc, h => ⟨Nat.le_refl _, h⟩
 | f + 1, deep, may, a, e, acc, h => by
  rw [blkM] at h ⊢
  by_cases he : e = 0
  ·rw [if_pos he] at h ⊢
   refine ⟨?_, he⟩
   cases hx : B[a]? with
   | none => exact Nat.le_refl _
   | some b =>
    rw [hx] at h
    simp only at h ⊢
    split at h
    next c => rw [if_pos c]; simp
    next c =>
    rw [if_neg c]
    split at h
    next c2 =>
     rw [if_pos c2]
     split at h
     next c3 => rw [if_pos c3]; simp
     next c3 => cases h
    next c2 =>
    rw [if_neg c2]
    split at h
    next c3 =>
     rw [if_pos c3]
     have g1 := ins_ge hB (fun m a' e' => blk_ge hB f (deep + 1) m a' e' []) c3
     have g2 := blk_ge hB f deep may _ _ _ h
     omega
    next c3 => exact absurd h c3
  ·rw [if_neg he] at h
   exact absurd h he
end Go.Proofs.YtofaiocffifhfaaGreat
end
section
namespace Go.Proofs.YtofaiocffifhfaaGreat
open Go.RowKit Go.Shelf YtofaiocffifhfaaGreatB Go.Proofs.YtofaiocffifhfaaGreatW.PrintWords
def BlkPost (W : World) (p q : Nat) (B : List Int) (r : List Ins × Int × Nat × Int) (E : Ending) (w' : World) : Prop :=
 (∃ A c, E = .returned (.tuple #[.slice A r.1.length c, .int .u8 r.2.1]) ∧ r.1.length ≤ c ∧ FC kI w' (fun k => W.heap.size ≤ k) A r.1) ∧ Goes W w' p q B r.2.2.1 r.2.2.2
def GoesX (W W' : World) (p q X : Nat) (B : List Int) (a : Nat) (e : Int) : Prop :=
 Cur W' p q B a e ∧ W'.os = W.os ∧ W'.tape = W.tape ∧ W'.output = W.output ∧ W.heap.size ≤ W'.heap.size ∧ ∀ k, k < W.heap.size → k ≠ p → k ≠ X → W'.heap[k]? = W.heap[k]?
theorem GoesX.of {W W' : World} {p q X : Nat} {B : List Int} {a : Nat} {e : Int} (h : Goes W W' p q B a e) : GoesX W W' p q X B a e :=
 ⟨h.1, h.2.os, h.2.tape, h.2.output, h.2.size, fun k hk hp _ => h.2.block k hk (by simpa using hp)⟩
theorem GoesX.trans {W W1 W2 : World} {p q X : Nat} {B : List Int} {a a' : Nat} {e e' : Int} (h : GoesX W W1 p q X B a e) (h' : GoesX W1 W2 p q X B a' e') : GoesX W W2 p q X B a' e' := by
 obtain ⟨_, h1, h2, h3, h4, h5⟩ := h
 obtain ⟨g0, g1, g2, g3, g4, g5⟩ := h'
 exact ⟨g0, g1.trans h1, g2.trans h2, g3.trans h3, Nat.le_trans h4 g4, fun k hk hp hX => (g5 k (Nat.lt_of_lt_of_le hk h4) hp hX).trans (h5 k hk hp hX)⟩
theorem GoesX.set {W W1 : World} {p q X : Nat} {B : List Int} {a : Nat} {e : Int} (h : GoesX W W1 p q X B a e) (hX : X ≠ p) (hq : X ≠ q) (j : Nat) (v : Value) : GoesX W (W1.setCell ⟨X, j, none⟩ v) p q X B a e := by
 obtain ⟨h0, h1, h2, h3, h4, h5⟩ := h
 have hg := gset W1 X j v
 exact ⟨h0.grown hg (by simpa using hX.symm) (by simpa using hq.symm), h1, h2, h3, Nat.le_trans h4 hg.size, fun k hk hp hx => (hg.block k (Nat.lt_of_lt_of_le hk h4) (by simpa using hx)).trans (h5 k hk hp hx)⟩
structure Goes3 (W W' : World) (p q X R : Nat) (B : List Int) (a : Nat) (e : Int) : Prop where
 cur : Cur W' p q B a e
 os : W'.os = W.os
 tape : W'.tape = W.tape
 output : W'.output = W.output
 size : W.heap.size ≤ W'.heap.size
 block : ∀ k, k < W.heap.size → k ≠ p → k ≠ X → k ≠ R → W'.heap[k]? = W.heap[k]?
theorem Goes3.of {W W' : World} {p q X R : Nat} {B : List Int} {a : Nat} {e : Int} (h : Goes W W' p q B a e) : Goes3 W W' p q X R B a e :=
 ⟨h.1, h.2.os, h.2.tape, h.2.output, h.2.size, fun k hk hp _ _ => h.2.block k hk (by simpa using hp)⟩
theorem Goes3.goes {W W1 W2 : World} {p q X R : Nat} {B : List Int} {a a' : Nat} {e e' : Int} (h : Goes3 W W1 p q X R B a e) (h' : Goes W1 W2 p q B a' e') : Goes3 W W2 p q X R B a' e' :=
 ⟨h'.1, h'.2.os.trans h.os, h'.2.tape.trans h.tape, h'.2.output.trans h.output, Nat.le_trans h.size h'.2.size, fun k hk hp hX hR => (h'.2.block k (Nat.lt_of_lt_of_le hk h.size) (by simpa using hp)).trans (h.block k hk hp hX hR)⟩
theorem Goes3.set {W W1 : World} {p q X R : Nat} {B : List Int} {a : Nat} {e : Int} (h : Goes3 W W1 p q X R B a e) (g : Nat) (hg : g = X ∨ g = R) (hp : g ≠ p) (hq : g ≠ q) (j : Nat) (v : Value) : Goes3 W (W1.setCell ⟨g, j, none⟩ v) p q X R B a e := by
 have hs := gset W1 g j v
 refine ⟨h.cur.grown hs (by simpa using hp.symm) (by simpa using hq.symm), h.os, h.tape, h.output, Nat.le_trans h.size hs.size, fun k hk hkp hkX hkR => (hs.block k (Nat.lt_of_lt_of_le hk h.size) ?_).trans (h.block k hk hkp hkX hkR)⟩
 rcases hg with rfl | rfl
 ·simpa using hkX
 ·simpa using hkR
theorem Goes3.fin {W W' : World} {p q X R : Nat} {B : List Int} {a : Nat} {e : Int} {sat : Bool} {deep : Int} (h : Goes3 W W' p q X R B a e) (hR : Rp W R p sat deep) (hR' : Rp W' R p sat deep) : GoesX W W' p q X B a e :=
 ⟨h.cur, h.os, h.tape, h.output, h.size, fun k hk hp hX => by
  by_cases hkR : k = R
  ·subst hkR; exact (show W'.heap[k]? = _ from hR').trans (show W.heap[k]? = _ from hR).symm
  ·exact h.block k hk hp hX hkR⟩
theorem Rp.set {W : World} {R p : Nat} {sat : Bool} {deep : Int} (h : Rp W R p sat deep) (d' : Int) : Rp (W.setCell ⟨R, 2, none⟩ (.int .i64 d')) R p sat d' := by
 have := Blk.set h 2 (.int .i64 d')
 simp at this
 exact this
theorem Rp.other {W : World} {R p : Nat} {sat : Bool} {deep : Int} (h : Rp W R p sat deep) (g : Nat) (hg : R ≠ g) (j : Nat) (v : Value) : Rp (W.setCell ⟨g, j, none⟩ v) R p sat deep := Blk.set_other h _ _ hg
theorem FC.set {α : Type} {d : Kd α} {W : World} {ok : Nat → Prop} {A : Option Addr} {xs : List α} (h : FC d W ok A xs) (g j : Nat) (v : Value) (hg : ¬ ok g) : FC d (W.setCell ⟨g, j, none⟩ v) ok A xs := Ft.grown h (gset W g j v) (fun k hk e => by injection e with e; exact hg (e ▸ hk))
theorem FC.goes {α : Type} {d : Kd α} {W W1 : World} {ok : Nat → Prop} {A : Option Addr} {xs : List α} {p q : Nat} {B : List Int} {a : Nat} {e : Int} (h : FC d W ok A xs) (hG : Goes W W1 p q B a e) (hg : ¬ ok p) : FC d W1 ok A xs := Ft.grown h hG.2 (fun k hk e => by injection e with e; exact hg (e ▸ hk))
def insC (op ty a b bits : Int) (vL vT vE : Value) (has : Bool) : Array Value := #[.int .i64 op, .int .u8 ty, .int .u32 a, .int .u32 b, .int .u64 bits, vL, vT, vE, .bool has]
def NestPost (W : World) (p q X R : Nat) (sat : Bool) (deep : Int) (B : List Int) (r : Ins × Nat × Int) (E : Ending) (w' : World) : Prop :=
 E = .returned (.tuple #[]) ∧ (∃ cs : Array Value, ∃ x', Blk w' X cs 153 ∧ FK kI w' (fun k => W.heap.size ≤ k) x' cs.toList ∧ (r.2.2 = 0 → x' = r.1)) ∧ GoesX W w' p q X B r.2.1 r.2.2 ∧ Rp w' R p sat deep
theorem Cur.qlt {W : World} {p q : Nat} {B : List Int} {a : Nat} {e : Int} (h : Cur W p q B a e) : B = [] ∨ q < W.heap.size := by
 rcases Nat.eq_zero_or_pos B.length with hz | hz
 ·exact .inl (List.eq_nil_of_length_eq_zero hz)
 ·obtain ⟨_, _, A, c, _, _, h4⟩ := h
  obtain ⟨o, _, hcell⟩ := h4 hz
  exact .inr (World.block_lt_of_cell? _ _ (hcell 0 _ (List.getElem?_eq_getElem hz)))
theorem nest_wf {op : Int} (h0 : 0 ≤ op) (h1 : op ≤ 5000000000) : (Lit.int .i64 op).wf = true := by simp [Lit.wf, IntKind.min, IntKind.max, IntKind.signed, IntKind.bits]; omega
theorem nest_ty {ty : Int} (h : ty = 0 ∨ ty = 127 ∨ ty = 126 ∨ ty = 125 ∨ ty = 124) : (Lit.int .u8 ty).wf = true := by rcases h with rfl | rfl | rfl | rfl | rfl <;> rfl
theorem res_bound (B : List Int) (a : Nat) (e : Int) : (rdOf (resM B a) a e).1 = 0 ∨ (rdOf (resM B a) a e).1 = 127 ∨ (rdOf (resM B a) a e).1 = 126 ∨ (rdOf (resM B a) a e).1 = 125 ∨ (rdOf (resM B a) a e).1 = 124 := by
 unfold rdOf
 by_cases he : e = 0
 ·rw [if_pos he]
  unfold resM amongM
  cases hx : B[a]? with
  | none => exact .inl rfl
  | some x =>
   simp only
   by_cases hm : x ∈ ([127, 126, 125, 124, 64] : List Int)
   ·rw [if_pos hm]
    simp only [List.mem_cons, List.mem_nil_iff, or_false] at hm
    rcases hm with rfl | rfl | rfl | rfl | rfl <;> simp [numV]
   ·rw [if_neg hm]; exact .inl rfl
 ·rw [if_neg he]; exact .inl rfl
set_option maxRecDepth 100000 in
set_option maxHeartbeats 4000000 in
theorem nested_any (bk : Bool → Nat → Int → List Ins × Int × Nat × Int) (W : World) (R p q X : Nat) (sat : Bool) (deep : Nat) (B : List Int) (a : Nat) (op : Int) (hR : Rp W R p sat deep) (hRp : R ≠ p) (hRX : R ≠ X) (hXp : X ≠ p) (hRq : R ≠ q) (hXq : X ≠ q) (hC : Cur W p q B a 0) (hB : Byts B) (hd : deep ≤ 64) (hop : 0 ≤ op ∧ op ≤ 5000000000)
  (hX : Blk W X (insC op 0 0 0 0 (.slice none 0 0) (.slice none 0 0) (.slice none 0 0) false) 153)
  (hbk : ∀ (W' : World) (m : Bool) (a' : Nat) (e' : Int), a ≤ a' ∨ ¬ e' = 0 → Rp W' R p sat (deep + 1 : Nat) → Cur W' p q B a' e' → Calls Tryz.prog 133 #[.pointer (some ⟨R, 0, none⟩), .bool m] W' (BlkPost W' p q B (bk m a' e')))
  (hge : BkGe bk) :
  Calls Tryz.prog 146 #[.pointer (some ⟨R, 0, none⟩), .pointer (some ⟨X, 0, none⟩)] W (NestPost W p q X R sat deep B (bodyM bk B op 1 a)) := by
 obtain ⟨r0, r1, r2, rf, rlt⟩ := hR.cells
 have hplt := hC.lt
 have hXlt := hX.lt
 have H := Lib.hid (Results_any W p q B a 0 hC hB)
 have HG1 := Lib.hid (res_ge (B := B) (a := a) (e := 0))
 have HV := Lib.hid (show bodyM bk B op 1 a = (let t := rdOf (resM B a) a 0; let r := bk (op == 4) t.2.1 t.2.2; if r.2.1 = 5 then let s := bk false r.2.2.1 r.2.2.2; (.mk op t.1 0 0 0 [] r.1 s.1 true, s.2.2.1, s.2.2.2) else (.mk op t.1 0 0 0 [] r.1 [] false, r.2.2.1, r.2.2.2)) from if_pos rfl)
 have hty := res_bound B a 0
 generalize rdOf (resM B a) a 0 = t at *
 obtain ⟨ty, a1, e1⟩ := t
 simp only at HV HG1 hty H
 have HBK := Lib.hid hbk
 have HGE := Lib.hid hge
 have HR := Lib.hid hR
 have HX := Lib.hid hX
 have hdi : (deep : Int) ≤ 64 := by omega
 clear hC hB hbk hge hR hX
 go_enter Tryz.func146, Tryz.ntmps146
 go_wp2_with fail
 refine H.out.mono ?_
 rintro E W1 ⟨rfl, hG⟩
 have HRa := Lib.hid (HR.out.goes hRp hG)
 have HXa := Lib.hid (HX.out.grown hG.2 (by simpa using hXp))
 obtain ⟨s0, s1, s2, sf, slt⟩ := HRa.out.cells
 have x0 : W1.cell? ⟨X, 0, none⟩ = some (.int .i64 op) := by rw [HXa.out.cell]; rfl
 have x1 : W1.cell? ⟨X, 1, none⟩ = some (.int .u8 0) := by rw [HXa.out.cell]; rfl
 have xf1 := HXa.out.frozen 1
 have HG := Lib.hid hG
 clear hG H
 go_wp2_with fail
 have XB : Blk ((W1.setCell ⟨X, 1, none⟩ (.int .u8 ty)).setCell ⟨R, 2, none⟩ (.int .i64 ((deep : Int) + 1))) X (insC op ty 0 0 0 (.slice none 0 0) (.slice none 0 0) (.slice none 0 0) false) 153 := by
  have := (HXa.out.set 1 (.int .u8 ty)).set_other ⟨R, 2, none⟩ (.int .i64 ((deep : Int) + 1)) (by simpa using hRX.symm)
  simpa [insC] using this
 have RB : Rp ((W1.setCell ⟨X, 1, none⟩ (.int .u8 ty)).setCell ⟨R, 2, none⟩ (.int .i64 ((deep : Int) + 1))) R p sat (deep + 1 : Nat) := by
  have := (HRa.out.other X hRX 1 (.int .u8 ty)).set ((deep : Int) + 1)
  exact this
 have G3 : Goes3 W ((W1.setCell ⟨X, 1, none⟩ (.int .u8 ty)).setCell ⟨R, 2, none⟩ (.int .i64 ((deep : Int) + 1))) p q X R B a1 e1 :=
  ((Goes3.of HG.out).set X (.inl rfl) hXp hXq 1 _).set R (.inr rfl) hRp hRq 2 _
 generalize (W1.setCell ⟨X, 1, none⟩ (.int .u8 ty)).setCell ⟨R, 2, none⟩ (.int .i64 ((deep : Int) + 1)) = Wb at *
 have HBC := Lib.hid (HBK.out Wb (op == 4) a1 e1 (by by_cases h : e1 = 0; exact .inl (HG1.out h).1; exact .inr h) RB G3.cur)
 have HGE1 := Lib.hid (HGE.out (op == 4) a1 e1)
 have HBK2 := Lib.hid (fun X' a' e' => HBK.out X' false a' e')
 have HVV := Lib.hid (fun a' e' => HGE.out false a' e')
 generalize bk (op == 4) a1 e1 = r at *
 obtain ⟨th, en, a2, e2⟩ := r
 simp only at HV HGE1
 have HXb := Lib.hid XB
 have HRb := Lib.hid RB
 have HG3 := Lib.hid G3
 clear XB RB G3 HXa HRa s0 s1 s2 sf slt x0 x1 xf1 HBK
 refine HBC.out.mono ?_
 rintro E W2 ⟨⟨A6, c6, rfl, hl6, hF6⟩, hG2⟩
 have hG2' : Goes Wb W2 p q B a2 e2 := hG2
 have HX2 := Lib.hid (HXb.out.grown hG2'.2 (by simpa using hXp))
 have HR2 := Lib.hid (HRb.out.goes hRp hG2')
 have HG4 := Lib.hid (HG3.out.goes hG2')
 have HF6 := Lib.hid (hF6.mono (ok' := fun k => W.heap.size ≤ k) (fun k hk => Nat.le_trans HG3.out.size hk))
 have x6 : (W2.cell? ⟨X, 6, none⟩) = some (.slice none 0 0) := by rw [HX2.out.cell]; rfl
 have x8 : (W2.cell? ⟨X, 8, none⟩) = some (.bool false) := by rw [HX2.out.cell]; rfl
 have xf6 := HX2.out.frozen 6
 have xf7 := HX2.out.frozen 7
 have xf8 := HX2.out.frozen 8
 have hXlt2 := HX2.out.lt
 obtain ⟨s0, s1, s2, sf, slt⟩ := HR2.out.cells
 have hdc : (((deep + 1 : Nat) : Nat) : Int) = (deep : Int) + 1 := by omega
 rw [hdc] at s2
 clear hF6 hG2 hG2' HBC hdc
 by_cases h5 : en = 5
 ·subst h5
  rw [if_pos rfl] at HV
  have hd2 : (((deep + 1 : Nat) : Nat) : Int) = (deep : Int) + 1 := by omega
  go_wp2_with fail
  have X3 : Blk ((W2.setCell ⟨X, 6, none⟩ (.slice A6 th.length c6)).setCell ⟨X, 8, none⟩ (.bool true)) X (insC op ty 0 0 0 (.slice none 0 0) (.slice A6 th.length c6) (.slice none 0 0) true) 153 := by
   have := (HX2.out.set 6 (.slice A6 th.length c6)).set 8 (.bool true)
   simpa [insC] using this
  have R3 : Rp ((W2.setCell ⟨X, 6, none⟩ (.slice A6 th.length c6)).setCell ⟨X, 8, none⟩ (.bool true)) R p sat (deep + 1 : Nat) := (HR2.out.other X hRX 6 _).other X hRX 8 _
  have G5 : Goes3 W ((W2.setCell ⟨X, 6, none⟩ (.slice A6 th.length c6)).setCell ⟨X, 8, none⟩ (.bool true)) p q X R B a2 e2 := (HG4.out.set X (.inl rfl) hXp hXq 6 _).set X (.inl rfl) hXp hXq 8 _
  have F3 : FC kI ((W2.setCell ⟨X, 6, none⟩ (.slice A6 th.length c6)).setCell ⟨X, 8, none⟩ (.bool true)) (fun k => W.heap.size ≤ k) A6 th := FC.set (FC.set HF6.out X 6 _ (by omega)) X 8 _ (by omega)
  generalize (W2.setCell ⟨X, 6, none⟩ (.slice A6 th.length c6)).setCell ⟨X, 8, none⟩ (.bool true) = Wc at *
  have HBC := Lib.hid (HBK2.out Wc a2 e2 (by
   by_cases h : e2 = 0
   ·have h1 := HGE1.out h
    have h2 := HG1.out h1.2
    exact .inl (by omega)
   ·exact .inr h) R3 G5.cur)
  generalize bk false a2 e2 = r2 at *
  obtain ⟨el, en2, a3, e3⟩ := r2
  simp only at HV
  have HX3 := Lib.hid X3
  have HR3 := Lib.hid R3
  have HG5 := Lib.hid G5
  have HF3 := Lib.hid F3
  clear X3 R3 G5 F3 s0 s1 s2 sf slt x6 x8 xf6 xf7 xf8
  refine HBC.out.mono ?_
  rintro E W3 ⟨⟨A7, c7, rfl, hl7, hF7⟩, hG3⟩
  have hG3' : Goes Wc W3 p q B a3 e3 := hG3
  have HX4 := Lib.hid (HX3.out.grown hG3'.2 (by simpa using hXp))
  have HR4 := Lib.hid (HR3.out.goes hRp hG3')
  have HG6 := Lib.hid (HG5.out.goes hG3')
  have HF7 := Lib.hid (hF7.mono (ok' := fun k => W.heap.size ≤ k) (fun k hk => Nat.le_trans HG5.out.size hk))
  have HF4 := Lib.hid (FC.goes HF3.out hG3' (by omega))
  have x7 : (W3.cell? ⟨X, 7, none⟩) = some (.slice none 0 0) := by rw [HX4.out.cell]; rfl
  have xf7 := HX4.out.frozen 7
  have hXlt3 := HX4.out.lt
  obtain ⟨s0, s1, s2, sf, slt⟩ := HR4.out.cells
  rw [hd2] at s2
  clear hF7 hG3 hG3' HBC hd2
  go_wp2_with fail
  go_end0
  have X5 : Blk ((W3.setCell ⟨X, 7, none⟩ (.slice A7 el.length c7)).setCell ⟨R, 2, none⟩ (.int .i64 deep)) X (insC op ty 0 0 0 (.slice none 0 0) (.slice A6 th.length c6) (.slice A7 el.length c7) true) 153 := by
   have := (HX4.out.set 7 (.slice A7 el.length c7)).set_other ⟨R, 2, none⟩ (.int .i64 deep) (by simpa using hRX.symm)
   simpa [insC] using this
  have R5 : Rp ((W3.setCell ⟨X, 7, none⟩ (.slice A7 el.length c7)).setCell ⟨R, 2, none⟩ (.int .i64 deep)) R p sat deep := (HR4.out.other X hRX 7 _).set deep
  have G7 := ((HG6.out.set X (.inl rfl) hXp hXq 7 (.slice A7 el.length c7)).set R (.inr rfl) hRp hRq 2 (.int .i64 deep)).fin HR.out R5
  rw [HV.out]
  refine ⟨rfl, ⟨_, .mk op ty 0 0 0 [] th el true, X5, ?_, fun _ => rfl⟩, G7, R5⟩
  exact ins_mkF (x := .mk op ty 0 0 0 [] th el true) (nest_wf hop.1 hop.2) (nest_ty hty) rfl rfl rfl FC.nil (FC.set (FC.set HF4.out X 7 _ (by omega)) R 2 _ (by omega)) (FC.set (FC.set HF7.out X 7 _ (by omega)) R 2 _ (by omega)) (Nat.le_refl _) hl6 hl7
 ·have h5b : (en == 5) = false := by simpa using h5
  rw [if_neg h5] at HV
  clear h5
  go_wp2_with fail
  go_end0
  have X5 : Blk ((W2.setCell ⟨X, 6, none⟩ (.slice A6 th.length c6)).setCell ⟨R, 2, none⟩ (.int .i64 deep)) X (insC op ty 0 0 0 (.slice none 0 0) (.slice A6 th.length c6) (.slice none 0 0) false) 153 := by
   have := (HX2.out.set 6 (.slice A6 th.length c6)).set_other ⟨R, 2, none⟩ (.int .i64 deep) (by simpa using hRX.symm)
   simpa [insC] using this
  have R5 : Rp ((W2.setCell ⟨X, 6, none⟩ (.slice A6 th.length c6)).setCell ⟨R, 2, none⟩ (.int .i64 deep)) R p sat deep := (HR2.out.other X hRX 6 _).set deep
  have G7 := ((HG4.out.set X (.inl rfl) hXp hXq 6 (.slice A6 th.length c6)).set R (.inr rfl) hRp hRq 2 (.int .i64 deep)).fin HR.out R5
  rw [HV.out]
  refine ⟨rfl, ⟨_, .mk op ty 0 0 0 [] th [] false, X5, ?_, fun _ => rfl⟩, G7, R5⟩
  exact ins_mkF (x := .mk op ty 0 0 0 [] th [] false) (nest_wf hop.1 hop.2) (nest_ty hty) rfl rfl rfl FC.nil (FC.set (FC.set HF6.out X 6 _ (by omega)) R 2 _ (by omega)) FC.nil (Nat.le_refl _) hl6 (Nat.le_refl _)
end Go.Proofs.YtofaiocffifhfaaGreat
end
section
namespace Go.Proofs.YtofaiocffifhfaaGreat
open Go.RowKit Go.Shelf YtofaiocffifhfaaGreatB Go.Proofs.YtofaiocffifhfaaGreatW.PrintWords
def RdrB (W : World) (p q : Nat) (A : Option Addr) (c : Nat) (B : List Int) (a : Nat) (e : Int) : Prop :=
 Blk W p #[.slice A B.length c, .int .i64 a, .int .i64 e] 57 ∧ ByQ W q A B
def Rdr (W : World) (p q : Nat) (B : List Int) (a : Nat) (e : Int) : Prop := p ≠ q ∧ a ≤ B.length ∧ ∃ A c, B.length ≤ c ∧ RdrB W p q A c B a e
theorem Rdr.grown {W W' : World} {p q : Nat} {B : List Int} {a : Nat} {e : Int} (h : Rdr W p q B a e) {row : Option Nat} (hg : W.grownBy W' row) (hp : some p ≠ row) (hq : some q ≠ row) : Rdr W' p q B a e := by
 obtain ⟨h0, h1, A, c, h2, h3, h4⟩ := h
 exact ⟨h0, h1, A, c, h2, h3.grown hg hp, h4.grown hg hq⟩
theorem Rdr.below {W W' : World} {p q : Nat} {B : List Int} {a : Nat} {e : Int} (h : Rdr W p q B a e) (hb : Below W.heap.size W W') : Rdr W' p q B a e := h.grown (grown_below hb none) (by simp) (by simp)
theorem Rdr.alloc {W : World} {p q : Nat} {B : List Int} {a : Nat} {e : Int} (h : Rdr W p q B a e) (o : Obj) : Rdr (W.alloc o) p q B a e := h.grown (World.grownBy_alloc W o none) (by simp) (by simp)
theorem Rdr.lt {W : World} {p q : Nat} {B : List Int} {a : Nat} {e : Int} (h : Rdr W p q B a e) : p < W.heap.size := by
 obtain ⟨_, _, A, c, _, h3, _⟩ := h
 exact h3.lt
theorem Rdr.set {W : World} {p q : Nat} {B : List Int} {a : Nat} {e : Int} (h : Rdr W p q B a e) (a' : Nat) (e' : Int) (ha : a' ≤ B.length) : Rdr ((W.setCell ⟨p, 2, none⟩ (.int .i64 e')).setCell ⟨p, 1, none⟩ (.int .i64 a')) p q B a' e' := by
 obtain ⟨h0, h1, A, c, h2, h3, h4⟩ := h
 refine ⟨h0, ha, A, c, h2, ?_, ?_⟩
 ·have := (h3.set 2 (.int .i64 e')).set 1 (.int .i64 a')
  simpa using this
 ·exact (h4.grown (gset W p 2 (.int .i64 e')) (fun e => h0 (by injection e with e; exact e.symm))).grown (gset _ p 1 (.int .i64 a')) (fun e => h0 (by injection e with e; exact e.symm))
theorem Rdr.setAt {W : World} {p q : Nat} {B : List Int} {a : Nat} {e : Int} (h : Rdr W p q B a e) (a' : Nat) (ha : a' ≤ B.length) : Rdr (W.setCell ⟨p, 1, none⟩ (.int .i64 a')) p q B a' e := by
 obtain ⟨h0, h1, A, c, h2, h3, h4⟩ := h
 refine ⟨h0, ha, A, c, h2, ?_, ?_⟩
 ·have := h3.set 1 (.int .i64 a')
  simpa using this
 ·exact h4.grown (gset _ p 1 (.int .i64 a')) (fun e => h0 (by injection e with e; exact e.symm))
def GoesR (W W' : World) (p q : Nat) (B : List Int) (a : Nat) (e : Int) : Prop := Rdr W' p q B a e ∧ W.grownBy W' (some p)
theorem GoesR.same {W : World} {p q : Nat} {B : List Int} {a : Nat} {e : Int} (h : Rdr W p q B a e) : GoesR W W p q B a e := ⟨h, World.grownBy.refl W _⟩
theorem GoesR.drewN {W : World} {p q : Nat} {B : List Int} {a : Nat} {e : Int} (h : Rdr W p q B a e) (m : Nat) : GoesR W (W.drewN m) p q B a e := ⟨h.below ⟨rfl, rfl, rfl, Nat.le_refl _, fun _ _ => rfl⟩, ⟨rfl, rfl, rfl, Nat.le_refl _, fun _ _ _ => rfl⟩⟩
theorem GoesR.trans {W W1 W2 : World} {p q : Nat} {B : List Int} {a a' : Nat} {e e' : Int} (h : GoesR W W1 p q B a e) (h' : GoesR W1 W2 p q B a' e') : GoesR W W2 p q B a' e' := ⟨h'.1, h.2.trans h'.2⟩
theorem Rdr.cells {W : World} {p q : Nat} {B : List Int} {a : Nat} {e : Int} (h : Rdr W p q B a e) :
  ∃ A c, W.cell? ⟨p, 0, none⟩ = some (.slice A B.length c) ∧ W.cell? ⟨p, 1, none⟩ = some (.int .i64 a) ∧ W.cell? ⟨p, 2, none⟩ = some (.int .i64 e) ∧ W.frozen? ⟨p, 0, none⟩ = false ∧ W.frozen? ⟨p, 1, none⟩ = false ∧ W.frozen? ⟨p, 2, none⟩ = false ∧ B.length ≤ c ∧ ByQ W q A B ∧ p < W.heap.size ∧ a ≤ B.length := by
 obtain ⟨h0, h1, A, c, h2, h3, h4⟩ := h
 exact ⟨A, c, by rw [h3.cell]; rfl, by rw [h3.cell]; rfl, by rw [h3.cell]; rfl, h3.frozen 0, h3.frozen 1, h3.frozen 2, h2, h4, h3.lt, h1⟩
end Go.Proofs.YtofaiocffifhfaaGreat
end
section
namespace Go.Proofs.YtofaiocffifhfaaGreat
open Go.RowKit Go.Shelf YtofaiocffifhfaaGreatB Go.Proofs.YtofaiocffifhfaaGreatW.PrintWords
end Go.Proofs.YtofaiocffifhfaaGreat
end
section
namespace Go.Proofs.YtofaiocffifhfaaGreat
open Go.RowKit Go.Shelf YtofaiocffifhfaaGreatB Go.Proofs.YtofaiocffifhfaaGreatW.PrintWords
theorem sgnV_lt (m h : Nat) (hm : m < 2 ^ h) : sgnV m h < 18446744073709551616 := by
 unfold sgnV
 split
 next hc =>
  have hp : 2 ^ h ≤ 2 ^ 63 := Nat.pow_le_pow_right (by omega) (by omega)
  generalize 2 ^ h = t at *
  omega
 ·exact Nat.mod_lt _ (by omega)
theorem sintM_lt {B : List Int} {a bits n nx : Nat} (hB : Byts B) (hb1 : 1 ≤ bits) (h : sintM B a bits = .ok (n, nx)) : n < 18446744073709551616 := by
 unfold sintM at h
 cases hr : lebG lstS (B.drop a) bits with
 | error e => rw [hr] at h; cases h
 | ok y =>
  obtain ⟨m, hh, c⟩ := y
  rw [hr] at h
  cases h
  exact sgnV_lt _ _ (lebG_bound _ _ _ _ _ hb1 (fun x hx => hB.2 x (List.mem_of_mem_drop hx)) hr).1
end Go.Proofs.YtofaiocffifhfaaGreat
end
section
namespace Go.Proofs.YtofaiocffifhfaaGreat
open Go.RowKit Go.Shelf YtofaiocffifhfaaGreatB Go.Proofs.YtofaiocffifhfaaGreatW.PrintWords
def zeroC : Array Value := insC 0 0 0 0 0 (.slice none 0 0) (.slice none 0 0) (.slice none 0 0) false
def InsPost (W : World) (p q : Nat) (B : List Int) (r : Ins × Nat × Int) (E : Ending) (w' : World) : Prop :=
 ∃ x' : Ins, ∃ AL AT AE cL cT cE, E = .returned (.agg (insC x'.op x'.ty x'.a x'.b x'.bits (.slice AL x'.list.length cL) (.slice AT x'.th.length cT) (.slice AE x'.el.length cE) x'.has)) ∧
  FK kI w' (fun k => W.heap.size ≤ k) x' (insC x'.op x'.ty x'.a x'.b x'.bits (.slice AL x'.list.length cL) (.slice AT x'.th.length cT) (.slice AE x'.el.length cE) x'.has).toList ∧ (r.2.2 = 0 → x' = r.1) ∧ Goes W w' p q B r.2.1 r.2.2
theorem insC_cells {W : World} {X : Nat} {op ty a b bits : Int} {vL vT vE : Value} {has : Bool} (h : Blk W X (insC op ty a b bits vL vT vE has) 153) :
  W.cell? ⟨X, 0, none⟩ = some (.int .i64 op) ∧ W.cell? ⟨X, 1, none⟩ = some (.int .u8 ty) ∧ W.cell? ⟨X, 2, none⟩ = some (.int .u32 a) ∧ W.cell? ⟨X, 3, none⟩ = some (.int .u32 b) ∧ W.cell? ⟨X, 4, none⟩ = some (.int .u64 bits) ∧ W.cell? ⟨X, 5, none⟩ = some vL ∧ W.cell? ⟨X, 6, none⟩ = some vT ∧ W.cell? ⟨X, 7, none⟩ = some vE ∧ W.cell? ⟨X, 8, none⟩ = some (.bool has) :=
 ⟨by rw [h.cell]; rfl, by rw [h.cell]; rfl, by rw [h.cell]; rfl, by rw [h.cell]; rfl, by rw [h.cell]; rfl, by rw [h.cell]; rfl, by rw [h.cell]; rfl, by rw [h.cell]; rfl, by rw [h.cell]; rfl⟩
theorem insC_frozen {W : World} {X : Nat} {cs : Array Value} {t : TypeId} (h : Blk W X cs t) :
  W.frozen? ⟨X, 0, none⟩ = false ∧ W.frozen? ⟨X, 1, none⟩ = false ∧ W.frozen? ⟨X, 2, none⟩ = false ∧ W.frozen? ⟨X, 3, none⟩ = false ∧ W.frozen? ⟨X, 4, none⟩ = false ∧ W.frozen? ⟨X, 5, none⟩ = false ∧ W.frozen? ⟨X, 6, none⟩ = false ∧ W.frozen? ⟨X, 7, none⟩ = false ∧ W.frozen? ⟨X, 8, none⟩ = false ∧ X < W.heap.size :=
 ⟨h.frozen 0, h.frozen 1, h.frozen 2, h.frozen 3, h.frozen 4, h.frozen 5, h.frozen 6, h.frozen 7, h.frozen 8, h.lt⟩
theorem Goes.setNew {W V : World} {p q : Nat} {B : List Int} {a a0 : Nat} {e e0 : Int} (hC : Cur W p q B a0 e0) (h : Goes W V p q B a e) (X : Nat) (hX : W.heap.size ≤ X) (j : Nat) (v : Value) : Goes W (V.setCell ⟨X, j, none⟩ v) p q B a e :=
 lab_goes hC h (gset V X j v) (fun k e => by cases e; exact hX)
def put9 (V : World) (Z : Nat) (n0 n1 n2 n3 n4 n5 n6 n7 n8 : Value) : World := (((((((((V.setCell ⟨Z, 0, none⟩ n0).setCell ⟨Z, 1, none⟩ n1).setCell ⟨Z, 2, none⟩ n2).setCell ⟨Z, 3, none⟩ n3).setCell ⟨Z, 4, none⟩ n4).setCell ⟨Z, 5, none⟩ n5).setCell ⟨Z, 6, none⟩ n6).setCell ⟨Z, 7, none⟩ n7).setCell ⟨Z, 8, none⟩ n8)
theorem put9_blk {V : World} {Z : Nat} {t : TypeId} {o0 o1 o2 o3 o4 o5 o6 o7 o8 : Value} (h : Blk V Z #[o0, o1, o2, o3, o4, o5, o6, o7, o8] t) (n0 n1 n2 n3 n4 n5 n6 n7 n8 : Value) : Blk (put9 V Z n0 n1 n2 n3 n4 n5 n6 n7 n8) Z #[n0, n1, n2, n3, n4, n5, n6, n7, n8] t := by
 have := ((((((((h.set 0 n0).set 1 n1).set 2 n2).set 3 n3).set 4 n4).set 5 n5).set 6 n6).set 7 n7).set 8 n8
 simpa [put9] using this
theorem put9_goes {W V : World} {p q : Nat} {B : List Int} {a a0 : Nat} {e e0 : Int} (hC : Cur W p q B a0 e0) (h : Goes W V p q B a e) (Z : Nat) (hZ : W.heap.size ≤ Z) (n0 n1 n2 n3 n4 n5 n6 n7 n8 : Value) : Goes W (put9 V Z n0 n1 n2 n3 n4 n5 n6 n7 n8) p q B a e :=
 ((((((((h.setNew hC Z hZ 0 n0).setNew hC Z hZ 1 n1).setNew hC Z hZ 2 n2).setNew hC Z hZ 3 n3).setNew hC Z hZ 4 n4).setNew hC Z hZ 5 n5).setNew hC Z hZ 6 n6).setNew hC Z hZ 7 n7).setNew hC Z hZ 8 n8
theorem put9_FC {α : Type} {d : Kd α} {V : World} {ok : Nat → Prop} {A : Option Addr} {xs : List α} (h : FC d V ok A xs) (Z : Nat) (hZ : ¬ ok Z) (n0 n1 n2 n3 n4 n5 n6 n7 n8 : Value) : FC d (put9 V Z n0 n1 n2 n3 n4 n5 n6 n7 n8) ok A xs :=
 FC.set (FC.set (FC.set (FC.set (FC.set (FC.set (FC.set (FC.set (FC.set h Z 0 n0 hZ) Z 1 n1 hZ) Z 2 n2 hZ) Z 3 n3 hZ) Z 4 n4 hZ) Z 5 n5 hZ) Z 6 n6 hZ) Z 7 n7 hZ) Z 8 n8 hZ
theorem fk_flat {W : World} {ok : Nat → Prop} {op ty a b bits : Int} (h1 : 0 ≤ op ∧ op ≤ 5000000000) (h2 : 0 ≤ ty ∧ ty ≤ 255) (h3 : 0 ≤ a ∧ a ≤ 4294967295) (h4 : 0 ≤ b ∧ b ≤ 4294967295) (h5 : 0 ≤ bits ∧ bits < 18446744073709551616) :
  FK kI W ok (.mk op ty a b bits [] [] [] false) (insC op ty a b bits (.slice none 0 0) (.slice none 0 0) (.slice none 0 0) false).toList :=
 ins_mkF (x := .mk op ty a b bits [] [] [] false) (nest_wf h1.1 h1.2) (show (Lit.int .u8 ty).wf = true from by simp [Lit.wf, IntKind.min, IntKind.max, IntKind.signed, IntKind.bits]; omega) (show (Lit.int .u32 a).wf = true from by simp [Lit.wf, IntKind.min, IntKind.max, IntKind.signed, IntKind.bits]; omega) (show (Lit.int .u32 b).wf = true from by simp [Lit.wf, IntKind.min, IntKind.max, IntKind.signed, IntKind.bits]; omega) (show (Lit.int .u64 bits).wf = true from by simp [Lit.wf, IntKind.min, IntKind.max, IntKind.signed, IntKind.bits]; omega) FC.nil FC.nil FC.nil (Nat.le_refl _) (Nat.le_refl _) (Nat.le_refl _)
theorem s32_bound (B : List Int) (a : Nat) (e : Int) : 0 ≤ (rdOf (s32M B a) a e).1 ∧ (rdOf (s32M B a) a e).1 ≤ 4294967295 := by
 unfold rdOf
 by_cases he : e = 0
 ·rw [if_pos he]
  unfold s32M
  cases sintM B a 32 with
  | error e' => simp [numV]
  | ok y => obtain ⟨n, nx⟩ := y; simp only [numV]; omega
 ·rw [if_neg he]; simp
theorem s64_bound (B : List Int) (a : Nat) (e : Int) (hB : Byts B) : 0 ≤ (rdOf (s64M B a) a e).1 ∧ (rdOf (s64M B a) a e).1 < 18446744073709551616 := by
 unfold rdOf
 by_cases he : e = 0
 ·rw [if_pos he]
  unfold s64M
  cases hs : sintM B a 64 with
  | error e' => simp [numV]
  | ok y => obtain ⟨n, nx⟩ := y; have := sintM_lt hB (by omega) hs; simp only [numV]; omega
 ·rw [if_neg he]; simp
theorem fix_bound (B : List Int) (a n : Nat) (e : Int) (hn : n ≤ 8) (hB : Byts B) : 0 ≤ (rdOf (fixM B a n) a e).1 ∧ (rdOf (fixM B a n) a e).1 < 18446744073709551616 := by
 unfold rdOf
 by_cases he : e = 0
 ·rw [if_pos he]
  unfold fixM
  by_cases h : a + n ≤ B.length
  ·rw [if_pos h]
   have h1 := leN_lt ((B.drop a).take n) (fun x hx => hB.2 x (List.mem_of_mem_drop (List.mem_of_mem_take hx)))
   have h2 : 2 ^ (8 * ((B.drop a).take n).length) ≤ 2 ^ 64 := Nat.pow_le_pow_right (by omega) (by simp; omega)
   simp only [numV]
   omega
  ·rw [if_neg h]; simp [numV]
 ·rw [if_neg he]; simp
theorem GoesX.goes {W V V' : World} {p q X a a' : Nat} {B : List Int} {e e' : Int} (h : Goes W V p q B a e) (h' : GoesX V V' p q X B a' e') (hX : W.heap.size ≤ X) : Goes W V' p q B a' e' := by
 obtain ⟨g0, g1, g2, g3, g4, g5⟩ := h'
 refine ⟨g0, ⟨g1.trans h.2.os, g2.trans h.2.tape, g3.trans h.2.output, Nat.le_trans h.2.size g4, fun k hk hp => ?_⟩⟩
 exact (g5 k (Nat.lt_of_lt_of_le hk h.2.size) (by simpa using hp) (by omega)).trans (h.2.block k hk hp)
end Go.Proofs.YtofaiocffifhfaaGreat
end
