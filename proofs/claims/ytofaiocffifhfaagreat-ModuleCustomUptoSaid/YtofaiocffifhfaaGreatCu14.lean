/- Lemmas towards this claim's statement: what the functions named here come to, each under the conditions that it states itself. -/
import Derived.Test.YtofaiocffifhfaaGreatCu13
section
namespace Go.Proofs.YtofaiocffifhfaaGreatB
open Go.RowKit Go.Proofs.YtofaiocffifhfaaGreatW.PrintWords
theorem own_litk {k : IntKind} {e : Nat} {W : World} {g base : Nat} {ok : Nat → Prop} {xs : List Int} (hb : Blk W g (nums k xs).toArray e) (h0 : base ≤ g) (hl : xs.length ≤ 1048576) (hw : ∀ x ∈ xs, (Lit.int k x).wf = true) :
  Own (rng k) e W base ok (.slice (some ⟨g, 0, none⟩) xs.length xs.length) xs := by
 have hz : (rng k).sz = 1 := rfl
 refine ⟨nums k xs, ⟨by simp [nums, hz], .inr ⟨g, xs.length, (nums k xs).toArray, rfl, h0, hb, Nat.le_refl _, by simp only [maxLen]; omega, by simp [nums, hz], ?_⟩⟩, by simp [nums, hz], fun j p hj W' _ => ?_⟩
 ·rw [hz, Nat.mul_one, List.take_of_length_le (by simp [nums])]
 ·have hjl := (List.getElem?_eq_some_iff.1 hj).1
  refine ⟨?_, hw p (List.mem_of_getElem? hj)⟩
  apply List.ext_getElem?
  intro i
  rw [hz, List.getElem?_take]
  rcases Nat.eq_zero_or_pos i with rfl | hi
  ·simp [nums, hj]
  ·rw [if_neg (by omega), List.getElem?_eq_none (by simp; omega)]
theorem blk_byQ {k : Nat} {W : World} {g e : Nat} {xs : List Int} (hb : Blk W g (nums .u8 xs).toArray e) : ByQ W g (some ⟨g, 0, none⟩) xs := fun _ =>
 ⟨0, rfl, fun j x hj => by rw [hb.cell]; simp [nums, hj]⟩
section
variable {α : Type} {d : Kd α} {P : Program} {ops : Array Oper} {o : Oper} {a : Act} {Q : Exit → Act → World → Prop} {W : World}
theorem Own.append_row_step (base : Nat) {E : Prop} {Kc : Act → World → Prop} (hgd : o.guard = none) (s x : Operand) (t e : TypeId) (z : Value) (bytes : Nat)
  (ho : o.op = .call { callee := .builtin .append, args := #[s, x], argTypes := #[t, t] })
  (ht : P.underlying t = some (.slice e)) (hinfo : (P.info? e).map (fun i => (i.zero, i.size, i.bytes)) = some (some z, d.sz, bytes)) (hz : z.cells.size = d.sz) (hs0 : 0 < d.sz) (hb0 : 0 < bytes)
  (v : Value) (xs ys : List α) (A : Option Addr) (c : Nat) (ok : Nat → Prop) (hs : a.eval s = v) (hx : a.eval x = .slice A ys.length c) (HY : FC d W (fun k => ok k ∧ some k ≠ v.ownBlock) A ys)
  (HO : Own d e W base ok v xs) (hbase : base ≤ W.heap.size) (hl : (xs.length + ys.length) * bytes ≤ 140737488355328)
  (h : ∀ v1 w1, Own d e w1 base ok v1 (xs ++ ys) → W.grownBy w1 v.ownBlock → (v1.ownBlock = v.ownBlock ∨ v1.ownBlock = some W.heap.size) → Kc (a.put o.dst v1) w1) :
  if Region.wanted o (yielded ops a.tmps) = true then Oper.wp P o a W Kc Q else E := by
 have hw : Region.wanted o (yielded ops a.tmps) = true := by simp [Region.wanted, hgd]
 rw [if_pos hw]
 obtain ⟨v1, w1, hr, h2, h3, h5⟩ := Own.run_append_row (P := P) base t e o.type z bytes ht hinfo hz hs0 hb0 v xs ys A c ok HY HO hbase hl
 unfold Oper.wp execOp
 simp only [ho, resolve, invoke, builtin, Sem.run_bind, Sem.run_pure, Result.andThen_ok, List.map_toArray, List.map_cons, List.map_nil, hs, hx, hr]
 exact h v1 w1 h2 h3 h5
end
end Go.Proofs.YtofaiocffifhfaaGreatB
namespace Go.Proofs.YtofaiocffifhfaaGreat
open Go.RowKit Go.Shelf YtofaiocffifhfaaGreatB Go.Proofs.YtofaiocffifhfaaGreatW.PrintWords
theorem fc_ne {W : World} {g : Nat} {A : Option Addr} {xs : List Int} {v : Value} (h : ByQ W g A xs) (hB : ∀ x ∈ xs, 0 ≤ x ∧ x ≤ 255) (hl : xs.length ≤ 1048576) (hv : v.ownBlock ≠ some g) : FC (rng .u8) W (fun k => True ∧ some k ≠ v.ownBlock) A xs :=
 (byQ_FC h hB hl).mono (fun k hk => ⟨trivial, fun e => hv (by rw [← hk]; exact e.symm)⟩)
abbrev kBB : Kd (List Int) := Kd.slice 5 (rng .u8)
def partS (p : List Int) : Int × List Int := (p.headD 0, p.tail)
theorem secB_part {p : List Int} (h : 1 ≤ p.length) : secB (partS p) = [p.headD 0, ((p.length - 1 : Nat) : Int)] ++ p.tail := by
 simp [secB, partS]
structure PLoop (W wr : World) (ps : List (List Int)) (k : Nat) (cu : List Int) (j : Nat) (v8 v9 : Value) : Prop where
 own1 : Own (rng .u8) 5 wr W.heap.size (fun _ => True) v8 (magicL ++ secsB ((ps.map partS).take j))
 own2 : Own (rng .u8) 5 wr W.heap.size (fun _ => True) v9 (magicL ++ secsB (insS (ps.map partS) k (cusC cu) j))
 ne : v8.ownBlock ≠ v9.ownBlock
 b : Below W.heap.size W wr
theorem own_keep {k : IntKind} {e : Nat} {X Y : World} {base : Nat} {v : Value} {xs : List Int} {row : Option Nat} (h : Own (rng k) e X base (fun _ => True) v xs) (hg : X.grownBy Y row) (hne : v.ownBlock ≠ row) : Own (rng k) e Y base (fun _ => True) v xs :=
 own_any ((own_any (ok' := fun _ => False) h).grown hg (.inr hne) (fun _ h => h.elim))
theorem secsB_le : ∀ (l : List (Int × List Int)), (∀ s ∈ l, s.2.length ≤ 100) → (secsB l).length ≤ 102 * l.length
 | [], _ => by simp [secsB]
 | s :: l, h => by
  have h1 := secsB_le l (fun t ht => h t (by simp [ht]))
  have h2 := h s (by simp)
  rw [secsB_cons, List.length_append, List.length_cons]
  simp only [secB, List.length_cons]
  omega
theorem insS_le (l : List (Int × List Int)) (k : Nat) (c : List Int) (j : Nat) : (secsB (insS l k c j)).length ≤ (secsB (l.take j)).length + (c.length + 2) := by
 unfold insS
 split
 ·omega
 ·have h1 : l.take j = l.take k ++ (l.take j).drop k := by
   have h2 := List.take_append_drop k (l.take j)
   rw [List.take_take, Nat.min_eq_left (by omega)] at h2
   exact h2.symm
  rw [secsB_append, secsB_cons, List.length_append, List.length_append]
  have h3 : (secsB (l.take j)).length = (secsB (l.take k)).length + (secsB ((l.take j).drop k)).length := by
   conv => lhs; rw [h1]
   rw [secsB_append, List.length_append]
  simp only [secB, List.length_cons]
  omega
theorem part_le {ps : List (List Int)} {j : Nat} (h : ∀ p ∈ ps.take j, 1 ≤ p.length ∧ p.length ≤ 100) : ∀ s ∈ (ps.map partS).take j, s.2.length ≤ 100 := by
 intro s hs
 rw [← List.map_take] at hs
 obtain ⟨p, hp, rfl⟩ := List.mem_map.1 hs
 have := (h p hp).2
 simp [partS]
 omega
structure PMid (W wr : World) (ps : List (List Int)) (k : Nat) (cu : List Int) (j : Nat) (v8 v9 : Value) : Prop where
 own1 : Own (rng .u8) 5 wr W.heap.size (fun _ => True) v8 (magicL ++ secsB ((ps.map partS).take j))
 own2 : Own (rng .u8) 5 wr W.heap.size (fun _ => True) v9 (magicL ++ secsB (insS (ps.map partS) k (cusC cu) j) ++ (if j = k then secB (0, cusC cu) else []))
 ne : v8.ownBlock ≠ v9.ownBlock
 b : Below W.heap.size W wr
set_option maxRecDepth 100000 in
set_option maxHeartbeats 4000000 in
theorem moduleCustom_go (W : World) (A : Option Addr) (c : Nat) (ps : List (List Int)) (at_ : Int) (A' : Option Addr) (c' : Nat) (cu : List Int) (hP : kBB.C W A ps.length ps) (hC : (rng .u8).C W A' cu.length cu) (hB : Byts cu) (hat : at_ ≤ 9223372036854775807) :
  Calls Tryz.prog 5 #[.slice A ps.length c, .int .i64 at_, .slice A' cu.length c'] W (AwPost20 W) := by
 by_cases h1 : 30 < ps.length ∨ 50 < cu.length ∨ at_ < 0
 ·clear hP hC hB
  by_cases h2 : 30 < ps.length
  ·have g1 : (30 : Int) < ps.length := by omega
   clear h1 h2
   go_enter Tryz.func5, Tryz.ntmps5
   go_wp2_with fail
   refine (awake20_any _).mono ?_
   rintro e1 W1 ⟨rfl, hB1⟩
   go_wp2_with fail
   go_ret
   exact ⟨rfl, hB1⟩
  ·have g1 : ¬ (30 : Int) < ps.length := by omega
   by_cases h3 : 50 < cu.length
   ·have g2 : (50 : Int) < cu.length := by omega
    clear h1 h2 h3
    go_enter Tryz.func5, Tryz.ntmps5
    go_wp2_with fail
    refine (awake20_any _).mono ?_
    rintro e1 W1 ⟨rfl, hB1⟩
    go_wp2_with fail
    go_ret
    exact ⟨rfl, hB1⟩
   ·have g2 : ¬ (50 : Int) < cu.length := by omega
    have g3 : at_ < 0 := by omega
    clear h1 h2 h3
    go_enter Tryz.func5, Tryz.ntmps5
    go_wp2_with fail
    refine (awake20_any _).mono ?_
    rintro e1 W1 ⟨rfl, hB1⟩
    go_wp2_with fail
    go_ret
    exact ⟨rfl, hB1⟩
 ·have g1 : ¬ (30 : Int) < ps.length := by omega
  have g2 : ¬ (50 : Int) < cu.length := by omega
  have g3 : ¬ at_ < 0 := by omega
  clear h1
  obtain ⟨at0, rfl⟩ := Int.eq_ofNat_of_zero_le (Int.not_lt.1 g3)
  have HP := Lib.hid (FC.of_old hP)
  have HC := Lib.hid (FC.of_old hC)
  have HB := Lib.hid hB
  clear hP hC hB
  go_enter Tryz.func5, Tryz.ntmps5
  go_wp2_with fail
  refine (awake20_any _).mono ?_
  rintro e1 W1 ⟨rfl, hB1⟩
  go_wp2_with fail
  have hal : Below W1.heap.size W1 ((W1.alloc (.cells #[.int .u8 0, .int .u8 97, .int .u8 115, .int .u8 109, .int .u8 1, .int .u8 0, .int .u8 0, .int .u8 0] 5)).alloc (.cells #[.int .u8 0, .int .u8 97, .int .u8 115, .int .u8 109, .int .u8 1, .int .u8 0, .int .u8 0, .int .u8 0] 5)) := bl_alloc (bl_alloc (Below.refl _ _) _) _
  have hb1 := (Blk.new W1 #[.int .u8 0, .int .u8 97, .int .u8 115, .int .u8 109, .int .u8 1, .int .u8 0, .int .u8 0, .int .u8 0] 5).alloc (.cells #[.int .u8 0, .int .u8 97, .int .u8 115, .int .u8 109, .int .u8 1, .int .u8 0, .int .u8 0, .int .u8 0] 5)
  have hb2 := Blk.new (W1.alloc (.cells #[.int .u8 0, .int .u8 97, .int .u8 115, .int .u8 109, .int .u8 1, .int .u8 0, .int .u8 0, .int .u8 0] 5)) #[.int .u8 0, .int .u8 97, .int .u8 115, .int .u8 109, .int .u8 1, .int .u8 0, .int .u8 0, .int .u8 0] 5
  rw [World.size_alloc] at hb2
  have hwf : ∀ x ∈ magicL, (Lit.int .u8 x).wf = true := by decide
  have hsz := hB1.size
  have HS0 := Lib.hid (⟨own_litk (k := .u8) (xs := magicL) hb1 hsz (by decide) hwf, own_litk (k := .u8) (xs := magicL) hb2 (by omega) (by decide) hwf, by intro e; injection e with e; simp at e, hB1.trans (hal.mono hsz)⟩ : PLoop W ((W1.alloc (.cells #[.int .u8 0, .int .u8 97, .int .u8 115, .int .u8 109, .int .u8 1, .int .u8 0, .int .u8 0, .int .u8 0] 5)).alloc (.cells #[.int .u8 0, .int .u8 97, .int .u8 115, .int .u8 109, .int .u8 1, .int .u8 0, .int .u8 0, .int .u8 0] 5)) ps (at0 % ps.length) cu 0 (.slice (some ⟨W1.heap.size, 0, none⟩) 8 8) (.slice (some ⟨W1.heap.size + 1, 0, none⟩) 8 8))
  clear hb1 hb2 hwf hsz hal
  go_loopw [7, 8, 34] (fun v7 v8 i wr => ∃ (j : Nat), j ≤ ps.length ∧ i = .int .i64 j ∧ (∀ p ∈ ps.take j, 1 ≤ p.length ∧ p.length ≤ 100) ∧ Hid (PLoop W wr ps (at0 % ps.length) cu j v7 v8)) (fun _ _ i _ => ps.length - (intOf i).toNat)
  case atStart =>
   refine ⟨0, Nat.zero_le _, rfl, by simp, ?_⟩
   exact HS0.out
  case round =>
   obtain ⟨j, hj, rfl, hsm, HL⟩ := hrel
   by_cases hlt : j < ps.length
   ·have hlt2 : (j : Int) < (ps.length : Int) := by omega
    obtain ⟨b, o, x, cs, rfl, hx, hk, hc⟩ := FC.at_ HP.out Nat.one_pos j hlt
    obtain ⟨Ax, cx, rfl, hlx, hFx⟩ := fk_sl_inv hk
    have d0 := pw_cell_below HL.out.b (hc 0 _ rfl)
    have hz : kBB.sz = 1 := rfl
    simp only [hz, Nat.add_zero, Nat.mul_one] at d0
    have hbl := World.block_lt_of_cell? _ _ d0
    simp only at hbl
    have HX := Lib.hid hx.out
    have HFX := Lib.hid hFx
    have HLX := Lib.hid hlx
    clear hx hk hc hz hFx hlx
    by_cases hb1 : x.length < 1
    ·have hi1 : (x.length : Int) < 1 := by omega
     go_wp2_with fail
     go_ret
     exact ⟨rfl, HL.out.b⟩
    ·have hi1 : ¬ (x.length : Int) < 1 := by omega
     by_cases hb2 : 100 < x.length
     ·have hi2 : (100 : Int) < (x.length : Int) := by omega
      go_wp2_with fail
      go_ret
      exact ⟨rfl, HL.out.b⟩
     ·have hi2 : ¬ (100 : Int) < (x.length : Int) := by omega
      have hRW : ∀ X, Below W.heap.size W X → RdI X .u8 Ax x := fun X hX => C_le (Ft.below HFX.out hX).now (by omega)
      have hxb : ∀ y ∈ x, 0 ≤ y ∧ y ≤ 255 := fun y hy => by have := wf_bounds (C_all HFX.out.now y hy); simp [IntKind.min, IntKind.max, IntKind.signed, IntKind.bits] at this; omega
      have hR := hRW wr HL.out.b
      have hbx := C_all HFX.out.now
      obtain ⟨bx, ox, hAx, hcx⟩ := hR.2 (by omega)
      obtain ⟨p0, hp0⟩ : ∃ p0, x[0]? = some p0 := ⟨x[0]'(by omega), List.getElem?_eq_getElem (by omega)⟩
      have e0 := hcx 0 p0 hp0
      have hbl2 := World.block_lt_of_cell? _ _ e0
      simp only [Nat.add_zero] at e0 hbl2
      subst hAx
      have HXW := Lib.hid hRW
      have HXB := Lib.hid hxb
      have HP0 := Lib.hid hp0
      clear hR hcx hp0 hbx hRW hxb
      by_cases hz0 : p0 = 0
      ·subst hz0
       go_wp2_with fail
       go_ret
       exact ⟨rfl, HL.out.b⟩
      ·have hn0 : ¬ (ps.length : Int) = 0 := by omega
       have hmd : Int.tmod (at0 : Int) (ps.length : Int) = ((at0 % ps.length : Nat) : Int) := rfl
       have hsb := HL.out.b.size
       have hlen := secsB_le _ (part_le hsm)
       have hlen2 := insS_le (ps.map partS) (at0 % ps.length) (cusC cu) j
       have hlc : (cusC cu).length = cu.length + 2 := by simp [cusC]
       have hlt3 : ((ps.map partS).take j).length ≤ 30 := by simp; omega
       have HLN := Lib.hid (show (magicL ++ secsB ((ps.map partS).take j)).length ≤ 4000 ∧ (magicL ++ secsB (insS (ps.map partS) (at0 % ps.length) (cusC cu) j)).length ≤ 4000 by simp [magicL]; omega)
       clear hlen hlen2 hlc hlt3
       go_upto_if 58 with fail
       go_cut [8] (fun v9 wx => Hid (PMid W wx ps (at0 % ps.length) cu j u7 v9))
       case first =>
        by_cases hjk : j = at0 % ps.length
        ·have hjk2 : (at0 : Int) % (ps.length : Int) = (j : Int) := by rw [hjk]; rfl
         have HJK := Lib.hid hjk
         clear hjk
         have hc0 : 0 ≤ (cu.length : Int) + 2 ∧ (cu.length : Int) + 2 ≤ 255 := by omega
         have hal : Below wr.heap.size wr (wr.alloc (.cells #[.int .u8 0, .int .u8 ((cu.length : Int) + 2), .int .u8 1, .int .u8 120] 5)) := bl_alloc (Below.refl _ _) _
         have HO2 := Lib.hid (HL.out.own2.below hal)
         have HO1 := Lib.hid (HL.out.own1.below hal)
         have HB2 := Lib.hid (HL.out.b.trans (hal.mono hsb))
         have HY := Lib.hid (fc_ne (v := u8) (blk_byQ (k := 0) (xs := [0, (cu.length : Int) + 2, 1, 120]) (Blk.new wr #[.int .u8 0, .int .u8 ((cu.length : Int) + 2), .int .u8 1, .int .u8 120] 5)) (by intro x hx; simp at hx; omega) (by simp) (fun e => by have := (Own.block HL.out.own2 e).2; omega))
         have hnb : W.heap.size ≤ (wr.alloc (.cells #[.int .u8 0, .int .u8 ((cu.length : Int) + 2), .int .u8 1, .int .u8 120] 5)).heap.size := by rw [World.size_alloc]; omega
         have HNB := Lib.hid hnb
         have HL1 := Lib.hid (show ((magicL ++ secsB (insS (ps.map partS) (at0 % ps.length) (cusC cu) j)).length + [0, (cu.length : Int) + 2, 1, 120].length) * 1 ≤ 140737488355328 by have := HLN.out.2; simp only [List.length_cons, List.length_nil]; omega)
         have HL2 := Lib.hid (show ((magicL ++ secsB (insS (ps.map partS) (at0 % ps.length) (cusC cu) j) ++ [0, (cu.length : Int) + 2, 1, 120]).length + cu.length) * 1 ≤ 140737488355328 by have := HLN.out.2; rw [List.length_append]; simp only [List.length_cons, List.length_nil]; omega)
         have HV1 := Lib.hid (fun q (hq : u7.ownBlock = some q) => (by have := (Own.block HL.out.own1 hq).2; rw [World.size_alloc]; omega : q < (wr.alloc (.cells #[.int .u8 0, .int .u8 ((cu.length : Int) + 2), .int .u8 1, .int .u8 120] 5)).heap.size))
         clear hal hnb
         go_wp2_with (first
          | (at_builtin; refine Own.append_row (d := rng .u8) W.heap.size rfl (.tmp 59) (.tmp 64) 22 5 (.int .u8 0) 1 rfl Tryz.underlying22 infoB8 rfl (by decide) (by decide) u8 (magicL ++ secsB (insS (ps.map partS) (at0 % ps.length) (cusC cu) j)) [0, (cu.length : Int) + 2, 1, 120] (some ⟨wr.heap.size, 0, none⟩) 4 (fun _ => True) rfl rfl HY.out HO2.out HNB.out HL1.out ?_; intro v1 w1 hown1 hg1 hat1; have hs1 := hg1.size; have hbw1 := HB2.out.grown hg1 HNB.out (fun q hq => (Own.block HO2.out hq).1); have hfc := Ft.mono (Ft.below HC.out hbw1) (ok' := fun q => True ∧ some q ≠ v1.ownBlock) (fun q hq => ⟨trivial, fun e => by have h1 := (Own.block hown1 e.symm).1; have h2 : q < W.heap.size := hq; omega⟩); have HFC := Lib.hid hfc; have HOW1 := Lib.hid hown1; have HBW1 := Lib.hid hbw1; have HG1 := Lib.hid hg1; have HAT1 := Lib.hid hat1; have HN1 := Lib.hid (Nat.le_trans HNB.out hs1); clear hfc hown1 hbw1 hg1 hat1 hs1)
          | (at_builtin; refine Own.append_row (d := rng .u8) W.heap.size rfl (.tmp 65) (.tmp 66) 22 5 (.int .u8 0) 1 rfl Tryz.underlying22 infoB8 rfl (by decide) (by decide) v1 _ cu A' c' (fun _ => True) rfl rfl HFC.out HOW1.out HN1.out HL2.out ?_; intro v2 w2 hown2 hg2 hat2))
         have hne1 : u7.ownBlock ≠ v1.ownBlock := by
          rcases HAT1.out with h | h
          ·rw [h]; exact HL.out.ne
          ·rw [h]; intro e; have := HV1.out _ e; omega
         have ho1 := own_keep (own_keep HO1.out HG1.out HL.out.ne) hg2 hne1
         have hne2 : u7.ownBlock ≠ v2.ownBlock := by
          rcases hat2 with h | h
          ·rw [h]; exact hne1
          ·rw [h]; intro e; have h1 := HV1.out _ e; have h2 := HG1.out.size; omega
         have hbw2 := HBW1.out.grown hg2 HN1.out (fun q hq => (Own.block HOW1.out hq).1)
         have hfin : magicL ++ secsB (insS (ps.map partS) (at0 % ps.length) (cusC cu) j) ++ [0, (cu.length : Int) + 2, 1, 120] ++ cu = magicL ++ secsB (insS (ps.map partS) (at0 % ps.length) (cusC cu) j) ++ (if j = at0 % ps.length then secB (0, cusC cu) else []) := by
          rw [if_pos HJK.out]
          have : secB (0, cusC cu) = [0, (cu.length : Int) + 2, 1, 120] ++ cu := by simp [secB, cusC]; omega
          rw [this, ← List.append_assoc]
         rw [hfin] at hown2
         have HM := Lib.hid (⟨ho1, hown2, hne2, hbw2⟩ : PMid W w2 ps (at0 % ps.length) cu j u7 v2)
         clear ho1 hown2 hne2 hbw2 hfin hne1 hg2 hat2
         go_wp2_with fail
         go_meet
         exact HM
        ·have hjk2 : ¬ (j : Int) = (at0 : Int) % (ps.length : Int) := fun e => hjk (by omega)
         have HJK := Lib.hid hjk
         clear hjk
         go_wp2_with fail
         go_meet
         exact ⟨HL.out.own1, by rw [if_neg HJK.out, List.append_nil]; exact HL.out.own2, HL.out.ne, HL.out.b⟩
       case rest =>
        have HM := Lib.hid hcut.out
        have hRc := HXW.out wc hcut.out.b
        obtain ⟨bx', ox', hax, hcc⟩ := hRc.2 (by omega)
        injection hax with hax
        injection hax with hax1 hax2
        subst hax1 hax2
        have e1 := hcc 0 p0 HP0.out
        have el := World.block_lt_of_cell? _ _ e1
        simp only [Nat.add_zero] at e1 el
        obtain ⟨A2, hr2, hA2⟩ := cut_lo (P := Tryz.prog) 22 5 .i64 1 Tryz.underlying22 infoB (some ⟨bx, ox, none⟩) x.length cx 1 (by omega)
        have hr3 : ∀ X : World, (Instr.slice 22 (.slice (some ⟨bx, ox, none⟩) x.length cx) (some (.int .i64 1)) none none).run Tryz.prog X = .ok (.slice A2 (x.length - 1) (cx - 1)) X := fun X => hr2 X
        have hby : ∀ X, Below wc.heap.size wc X → ByQ X bx A2 x.tail := fun X hX hp => by
         have h1 : x.tail.length = x.length - 1 := List.length_tail
         have h2 := HLX.out
         refine ⟨ox + 1, by rw [hA2 (by omega)]; simp [Addr.add], fun i y hy => ?_⟩
         have h3 : x[i + 1]? = some y := by rw [List.getElem?_tail] at hy; exact hy
         have h4 := pw_cell_below hX (hcc (i + 1) y h3)
         rw [show ox + 1 + i = ox + (i + 1) by omega]
         exact h4
        have hpr : ∀ y ∈ x, 0 ≤ y ∧ y ≤ 255 := HXB.out
        have hx4 : 0 < x.length := by omega
        have hx0 : (0 : Int) < (x.length : Int) := by omega
        have hx1 : ¬ (x.length : Int) ≤ 0 := by omega
        have hx2 : (1 : Int) ≤ (x.length : Int) := by omega
        have hw1 : IntKind.i64.wrap ((x.length : Int) - 1) = (x.length : Int) - 1 := by simp [IntKind.wrap, IntKind.signed, IntKind.bits, wrap64, wrap32]; omega
        have hw2 : IntKind.u8.wrap ((x.length : Int) - 1) = (x.length : Int) - 1 := by simp [IntKind.wrap, IntKind.signed, IntKind.bits, wrap64, wrap32]; omega
        have hp1 := hpr p0 (List.mem_of_getElem? HP0.out)
        have hal : Below wc.heap.size wc ((wc.alloc (.cells #[.int .u8 p0, .int .u8 ((x.length : Int) - 1)] 5)).drew) := bl_drew (bl_alloc (Below.refl _ _) _)
        have HYT := Lib.hid (fc_ne (v := .slice (some ⟨wc.heap.size, 0, none⟩) 2 2) (hby _ hal) (fun y hy => hpr y (List.mem_of_mem_tail hy)) (by have : x.tail.length = x.length - 1 := List.length_tail; omega) (by intro e; injection e with e; simp at e; omega))
        have HOL := Lib.hid (own_litk (k := .u8) (base := wc.heap.size) (ok := fun _ => True) (xs := [p0, (x.length : Int) - 1]) (Blk.new wc #[.int .u8 p0, .int .u8 ((x.length : Int) - 1)] 5).drew (Nat.le_refl _) (by simp) (by intro y hy; simp only [List.mem_cons, List.mem_nil_iff, or_false] at hy; rcases hy with rfl | rfl; exact wf_u8 hp1; exact wf_u8 (by omega)))
        have hnb : wc.heap.size ≤ ((wc.alloc (.cells #[.int .u8 p0, .int .u8 ((x.length : Int) - 1)] 5)).drew).heap.size := hal.size
        have HNB := Lib.hid hnb
        have HAL := Lib.hid hal
        have hL0 : ([p0, (x.length : Int) - 1].length + x.tail.length) * 1 ≤ 140737488355328 := by have : x.tail.length = x.length - 1 := List.length_tail; simp only [List.length_cons, List.length_nil]; omega
        have HL0 := Lib.hid hL0
        clear hby hpr hal hnb hL0 hr2 hA2 hcc hRc hcut
        go_wp2_with fail
        go_region_law (first
         | (refine Own.append_row_step (d := rng .u8) wc.heap.size rfl (.tmp 75) (.tmp 77) 22 5 (.int .u8 0) 1 rfl Tryz.underlying22 infoB8 rfl (by decide) (by decide) (.slice (some ⟨wc.heap.size, 0, none⟩) 2 2) [p0, (x.length : Int) - 1] x.tail A2 (cx - 1) (fun _ => True) rfl (by rw [List.length_tail]; rfl) HYT.out HOL.out HNB.out HL0.out ?_; intro v1 w1 hown1 hg1 hat1; obtain ⟨A9, c9, rfl, hl9, hF9⟩ := Own.reads (own_any (ok' := fun _ => False) hown1)))
        have hS : [p0, (x.length : Int) - 1] ++ x.tail = secB (partS x) := by
         rw [secB_part (by omega)]
         have h1 : x.headD 0 = p0 := by
          have h2 := HP0.out
          cases x with
          | nil => simp at h2
          | cons y r => simpa using h2
         rw [h1]
         have h3 : ((x.length - 1 : Nat) : Int) = (x.length : Int) - 1 := by omega
         rw [h3]
        have hSl : (secB (partS x)).length = x.length + 1 := by rw [← hS]; simp; omega
        rw [hS] at hl9 hF9 hown1
        have hbw1 : Below wc.heap.size wc w1 := HAL.out.grown hg1 (by have := HAL.out.size; omega) (fun q hq => by injection hq with hq; simp at hq; omega)
        have hB1w : Below W.heap.size W w1 := HM.out.b.trans (hbw1.mono HM.out.b.size)
        have hn1 := hbw1.size
        have hsz0 := HM.out.b.size
        have HO1 := Lib.hid (HM.out.own1.below hbw1)
        have HO2 := Lib.hid (HM.out.own2.below hbw1)
        have hv1 : ∀ q, u7.ownBlock = some q → q < wc.heap.size := fun q hq => (Own.block HM.out.own1 hq).2
        have hv2 : ∀ q, u8.ownBlock = some q → q < wc.heap.size := fun q hq => (Own.block HM.out.own2 hq).2
        have hF1 : FC (rng .u8) w1 (fun q => True ∧ some q ≠ u7.ownBlock) A9 (secB (partS x)) := Ft.mono hF9 (fun q hq => ⟨trivial, fun e => by have h1 := hv1 q e.symm; rcases hq with hq | hq; exact hq; omega⟩)
        have HF1 := Lib.hid hF1
        have HF9 := Lib.hid hF9
        have HV1 := Lib.hid hv1
        have HV2 := Lib.hid hv2
        have HN1 := Lib.hid (show W.heap.size ≤ w1.heap.size by omega)
        have HNc := Lib.hid (show wc.heap.size ≤ w1.heap.size from hn1)
        have HB1w := Lib.hid hB1w
        have hsm2 := take_all_succ hsm HX.out ⟨by omega, by omega⟩
        have HL3 := Lib.hid (show ((magicL ++ secsB ((ps.map partS).take j)).length + (secB (partS x)).length) * 1 ≤ 140737488355328 by have := HLN.out.1; omega)
        have hcb : (secB (0, cusC cu)).length ≤ 60 := by simp [secB, cusC]; omega
        have h5 : (if j = at0 % ps.length then secB (0, cusC cu) else []).length ≤ 60 := by
         split
         ·exact hcb
         ·simp
        have hL4 : ((magicL ++ secsB (insS (ps.map partS) (at0 % ps.length) (cusC cu) j) ++ (if j = at0 % ps.length then secB (0, cusC cu) else [])).length + (secB (partS x)).length) * 1 ≤ 140737488355328 := by
         have h1 := HLN.out.2
         rw [List.length_append]
         omega
        have HL4 := Lib.hid hL4
        have hlen9 : (secB (partS x)).length = x.length - 1 + 1 + 1 := by omega
        clear hown1 hg1 hat1 hF1 hF9 hv1 hv2 hbw1 hB1w hn1 hsz0 hcb h5 hL4 hr3 e1 el HOL HYT HL0
        go_wp2_with (first
         | (at_builtin; refine Own.append_row (d := rng .u8) W.heap.size rfl (.tmp 79) (.tmp 80) 22 5 (.int .u8 0) 1 rfl Tryz.underlying22 infoB8 rfl (by decide) (by decide) u7 (magicL ++ secsB ((ps.map partS).take j)) (secB (partS x)) A9 c9 (fun _ => True) rfl (by rw [hlen9]; rfl) HF1.out HO1.out HN1.out HL3.out ?_; intro v3 w3 hown3 hg3 hat3; have hs3 := hg3.size; have hF3 := Ft.mono (Ft.step HF9.out (agr_grown (ok := fun q => False ∨ wc.heap.size ≤ q) hg3 (fun q hq e => by have h1 := HV1.out q e.symm; rcases hq with hq | hq; exact hq; omega))) (ok' := fun q => True ∧ some q ≠ u8.ownBlock) (fun q hq => ⟨trivial, fun e => by have h1 := HV2.out q e.symm; rcases hq with hq | hq; exact hq; omega⟩); have HF3 := Lib.hid hF3; have HO3 := Lib.hid (own_keep HO2.out hg3 (fun e => HM.out.ne e.symm)); have HW3 := Lib.hid hown3; have HG3 := Lib.hid hg3; have HAT3 := Lib.hid hat3; have HN3 := Lib.hid (Nat.le_trans HN1.out hs3); clear hF3 hown3 hg3 hat3 hs3)
         | (at_builtin; refine Own.append_row (d := rng .u8) W.heap.size rfl (.tmp 82) (.tmp 83) 22 5 (.int .u8 0) 1 rfl Tryz.underlying22 infoB8 rfl (by decide) (by decide) u8 _ (secB (partS x)) A9 c9 (fun _ => True) rfl (by rw [hlen9]; rfl) HF3.out HO3.out HN3.out HL4.out ?_; intro v4 w4 hown4 hg4 hat4))
        have hv3 : v3.ownBlock ≠ u8.ownBlock := by
         rcases HAT3.out with h | h
         ·rw [h]; exact HM.out.ne
         ·rw [h]; intro e; have h1 := HV2.out _ e.symm; have h2 := HNc.out; omega
        have hb3 : Below W.heap.size W w3 := HB1w.out.grown HG3.out HN1.out (fun q hq => (Own.block HO1.out hq).1)
        have hb4 : Below W.heap.size W w4 := hb3.grown hg4 HN3.out (fun q hq => (Own.block HO3.out hq).1)
        have ho3 := own_keep HW3.out hg4 hv3
        have hv4 : v3.ownBlock ≠ v4.ownBlock := by
         rcases hat4 with h | h
         ·rw [h]; exact hv3
         ·rw [h]; intro e; have h1 := (Own.block HW3.out e).2; omega
        have hpx : (ps.map partS)[j]? = some (partS x) := by rw [List.getElem?_map, HX.out]; rfl
        have he1 : magicL ++ secsB ((ps.map partS).take j) ++ secB (partS x) = magicL ++ secsB ((ps.map partS).take (j + 1)) := by
         rw [List.take_add_one, hpx, List.append_assoc]
         show _ = magicL ++ secsB ((ps.map partS).take j ++ [partS x])
         rw [secsB_append, secsB_one]
        have he2 : magicL ++ secsB (insS (ps.map partS) (at0 % ps.length) (cusC cu) j) ++ (if j = at0 % ps.length then secB (0, cusC cu) else []) ++ secB (partS x) = magicL ++ secsB (insS (ps.map partS) (at0 % ps.length) (cusC cu) (j + 1)) := by
         by_cases hjk : j = at0 % ps.length
         ·rw [if_pos hjk, ← hjk, insS_at hpx, secsB_append, List.append_assoc, List.append_assoc]
          simp [secsB]
         ·rw [if_neg hjk, List.append_nil, insS_ne hpx hjk, secsB_append, secsB_one, List.append_assoc]
        rw [he1] at ho3
        rw [he2] at hown4
        have HL9 := Lib.hid (⟨ho3, hown4, hv4, hb4⟩ : PLoop W w4 ps (at0 % ps.length) cu (j + 1) v3 v4)
        clear ho3 hown4 hv4 hb4 hb3 hv3 he1 he2 hat4 hg4 hpx
        go_wp2_with fail
        go_roundw
        case rel => exact ⟨j + 1, by omega, by go_num, hsm2, HL9⟩
        case measure => simp [intOf]; omega
   ·obtain rfl : j = ps.length := by omega
    have hlt2 : ¬ (ps.length : Int) < (ps.length : Int) := by omega
    have hlen := secsB_le _ (part_le hsm)
    have hlen2 := insS_le (ps.map partS) (at0 % ps.length) (cusC cu) ps.length
    have hlc : (cusC cu).length = cu.length + 2 := by simp [cusC]
    have htk : (ps.map partS).take ps.length = ps.map partS := List.take_of_length_le (by simp)
    have hml : (ps.map partS).length = ps.length := by simp
    rw [htk] at hlen hlen2
    rw [hml] at hlen
    have hsm2 := part_le hsm
    rw [htk] at hsm2
    have hP1 : (magicL ++ secsB (ps.map partS)).length ≤ 4000 := by simp [magicL]; omega
    have hP2 : (magicL ++ secsB (insS (ps.map partS) (at0 % ps.length) (cusC cu) ps.length)).length ≤ 4000 := by simp [magicL]; omega
    have hE := dec_custom true (ps.map partS) (at0 % ps.length) cu (fun s hs => by have := hsm2 s hs; omega) (by omega) (by omega) (by rw [hml]; omega)
    rw [hml] at hE
    have ho1 := HL.out.own1
    rw [htk] at ho1
    have ho2 := HL.out.own2
    have hB0 := HL.out.b
    generalize magicL ++ secsB (ps.map partS) = P1 at *
    generalize magicL ++ secsB (insS (ps.map partS) (at0 % ps.length) (cusC cu) ps.length) = P2 at *
    obtain ⟨A7, c7, rfl, hl7, hF7⟩ := Own.reads (own_any (ok' := fun _ => False) ho1)
    obtain ⟨A8, c8, rfl, hl8, hF8⟩ := Own.reads (own_any (ok' := fun _ => False) ho2)
    have hb7 : Byts P1 := ⟨by omega, fun y hy => by have := wf_bounds (C_all hF7.now y hy); simp [IntKind.min, IntKind.max, IntKind.signed, IntKind.bits] at this; omega⟩
    have hb8 : Byts P2 := ⟨by omega, fun y hy => by have := wf_bounds (C_all hF8.now y hy); simp [IntKind.min, IntKind.max, IntKind.signed, IntKind.bits] at this; omega⟩
    have HD1 := Lib.hid (Decode_any wr A7 c7 P1 true (own_rdv ho1 (by omega)) hb7 hl7)
    have HD2 := Lib.hid (fun X (h : Below wr.heap.size wr X) => Decode_any X A8 c8 P2 true ((own_rdv ho2 (by omega)).below h) hb8 hl8)
    have HSM := Lib.hid (dec_small (sat := true) hb7)
    rw [hE] at HD2
    generalize decM true P1 = R at *
    obtain ⟨⟨M, F⟩, er⟩ := R
    have HB0 := Lib.hid hB0
    clear hlen hlen2 hlc htk hml hsm2 hE ho1 ho2 hF7 hF8 hb7 hb8 hB0 hP1 hP2 HL HS0 hsm
    go_wp2_with fail
    refine HD1.out.mono ?_
    rintro E W2 ⟨hb2, v0, v1, v2, v3, v4, v5, v6, v9, v10, v11, v12, rfl, hR, h2⟩
    dsimp only at hR h2 ⊢
    have HR := Lib.hid hR
    have HF2 := Lib.hid h2
    obtain ⟨P0, Pc0, rfl, _, _⟩ := hR.r0
    obtain ⟨P1, Pc1, rfl, _, _⟩ := hR.r1
    obtain ⟨P2, Pc2, rfl, _, _⟩ := h2
    obtain ⟨P3, Pc3, rfl, _, _⟩ := hR.r3
    obtain ⟨P4, Pc4, rfl, _, _⟩ := hR.r4
    obtain ⟨P5, Pc5, rfl, _, _⟩ := hR.r5
    obtain ⟨P6, Pc6, rfl, _, _⟩ := hR.r6
    obtain ⟨P9, Pc9, rfl, _, _⟩ := hR.r9
    obtain ⟨P10, Pc10, rfl, _, _⟩ := hR.r10
    have hal2 : Below wr.heap.size wr (W2.alloc (.cells #[.slice P0 M.types.length Pc0, .slice P1 M.imports.length Pc1, .slice P2 F.length Pc2, .slice P3 M.tables.length Pc3, .slice P4 M.mems.length Pc4, .slice P5 M.globals.length Pc5, .slice P6 M.exports.length Pc6, .bool M.starts, .int .u32 M.start, .slice P9 M.elems.length Pc9, .slice P10 M.datas.length Pc10] 34)) := hb2.alloc hb2.size _
    have hbp := Blk.new W2 #[.slice P0 M.types.length Pc0, .slice P1 M.imports.length Pc1, .slice P2 F.length Pc2, .slice P3 M.tables.length Pc3, .slice P4 M.mems.length Pc4, .slice P5 M.globals.length Pc5, .slice P6 M.exports.length Pc6, .bool M.starts, .int .u32 M.start, .slice P9 M.elems.length Pc9, .slice P10 M.datas.length Pc10] 34
    have HA2 := Lib.hid hal2
    have HBP := Lib.hid hbp
    have HX2 := Lib.hid (HR.out.step (Agr.of_below (bl_alloc (Below.refl W2.heap.size W2) (.cells #[.slice P0 M.types.length Pc0, .slice P1 M.imports.length Pc1, .slice P2 F.length Pc2, .slice P3 M.tables.length Pc3, .slice P4 M.mems.length Pc4, .slice P5 M.globals.length Pc5, .slice P6 M.exports.length Pc6, .bool M.starts, .int .u32 M.start, .slice P9 M.elems.length Pc9, .slice P10 M.datas.length Pc10] 34))))
    have HY2 := Lib.hid (Row.step HF2.out (Agr.of_below (bl_alloc (Below.refl W2.heap.size W2) (.cells #[.slice P0 M.types.length Pc0, .slice P1 M.imports.length Pc1, .slice P2 F.length Pc2, .slice P3 M.tables.length Pc3, .slice P4 M.mems.length Pc4, .slice P5 M.globals.length Pc5, .slice P6 M.exports.length Pc6, .bool M.starts, .int .u32 M.start, .slice P9 M.elems.length Pc9, .slice P10 M.datas.length Pc10] 34))))
    clear hb2 hR hal2 hbp
    go_wp2_with fail
    generalize W2.alloc (.cells #[.slice P0 M.types.length Pc0, .slice P1 M.imports.length Pc1, .slice P2 F.length Pc2, .slice P3 M.tables.length Pc3, .slice P4 M.mems.length Pc4, .slice P5 M.globals.length Pc5, .slice P6 M.exports.length Pc6, .bool M.starts, .int .u32 M.start, .slice P9 M.elems.length Pc9, .slice P10 M.datas.length Pc10] 34) = W3 at *
    refine (HD2.out _ HA2.out).mono ?_
    rintro E W4 ⟨hb4, v0, v1, v2, v3, v4, v5, v6, v9, v10, v11, v12, rfl, hR, h2⟩
    dsimp only at hR h2 ⊢
    have HR4 := Lib.hid hR
    have HF4 := Lib.hid h2
    obtain ⟨Q0, Qc0, rfl, _, _⟩ := hR.r0
    obtain ⟨Q1, Qc1, rfl, _, _⟩ := hR.r1
    obtain ⟨Q2, Qc2, rfl, _, _⟩ := h2
    obtain ⟨Q3, Qc3, rfl, _, _⟩ := hR.r3
    obtain ⟨Q4, Qc4, rfl, _, _⟩ := hR.r4
    obtain ⟨Q5, Qc5, rfl, _, _⟩ := hR.r5
    obtain ⟨Q6, Qc6, rfl, _, _⟩ := hR.r6
    obtain ⟨Q9, Qc9, rfl, _, _⟩ := hR.r9
    obtain ⟨Q10, Qc10, rfl, _, _⟩ := hR.r10
    have hal4 : Below W3.heap.size W3 (W4.alloc (.cells #[.slice Q0 M.types.length Qc0, .slice Q1 M.imports.length Qc1, .slice Q2 F.length Qc2, .slice Q3 M.tables.length Qc3, .slice Q4 M.mems.length Qc4, .slice Q5 M.globals.length Qc5, .slice Q6 M.exports.length Qc6, .bool M.starts, .int .u32 M.start, .slice Q9 M.elems.length Qc9, .slice Q10 M.datas.length Qc10] 34)) := hb4.alloc hb4.size _
    have hbq := Blk.new W4 #[.slice Q0 M.types.length Qc0, .slice Q1 M.imports.length Qc1, .slice Q2 F.length Qc2, .slice Q3 M.tables.length Qc3, .slice Q4 M.mems.length Qc4, .slice Q5 M.globals.length Qc5, .slice Q6 M.exports.length Qc6, .bool M.starts, .int .u32 M.start, .slice Q9 M.elems.length Qc9, .slice Q10 M.datas.length Qc10] 34
    have hal5 : Below wr.heap.size wr (W4.alloc (.cells #[.slice Q0 M.types.length Qc0, .slice Q1 M.imports.length Qc1, .slice Q2 F.length Qc2, .slice Q3 M.tables.length Qc3, .slice Q4 M.mems.length Qc4, .slice Q5 M.globals.length Qc5, .slice Q6 M.exports.length Qc6, .bool M.starts, .int .u32 M.start, .slice Q9 M.elems.length Qc9, .slice Q10 M.datas.length Qc10] 34)) := HA2.out.trans (hal4.mono HA2.out.size)
    have HA5 := Lib.hid hal5
    have hbp := HBP.out.below hal4 HBP.out.lt
    have HP5 := Lib.hid (HX2.out.step (Agr.of_below hal4))
    have HPF5 := Lib.hid (Row.step HY2.out (Agr.of_below hal4))
    have HQ5 := Lib.hid (HR4.out.step (Agr.of_below (bl_alloc (Below.refl W4.heap.size W4) (.cells #[.slice Q0 M.types.length Qc0, .slice Q1 M.imports.length Qc1, .slice Q2 F.length Qc2, .slice Q3 M.tables.length Qc3, .slice Q4 M.mems.length Qc4, .slice Q5 M.globals.length Qc5, .slice Q6 M.exports.length Qc6, .bool M.starts, .int .u32 M.start, .slice Q9 M.elems.length Qc9, .slice Q10 M.datas.length Qc10] 34))))
    have HQF5 := Lib.hid (Row.step HF4.out (Agr.of_below (bl_alloc (Below.refl W4.heap.size W4) (.cells #[.slice Q0 M.types.length Qc0, .slice Q1 M.imports.length Qc1, .slice Q2 F.length Qc2, .slice Q3 M.tables.length Qc3, .slice Q4 M.mems.length Qc4, .slice Q5 M.globals.length Qc5, .slice Q6 M.exports.length Qc6, .bool M.starts, .int .u32 M.start, .slice Q9 M.elems.length Qc9, .slice Q10 M.datas.length Qc10] 34))))
    clear hb4 hR hal4 hal5
    go_wp2_with fail
    generalize W4.alloc (.cells #[.slice Q0 M.types.length Qc0, .slice Q1 M.imports.length Qc1, .slice Q2 F.length Qc2, .slice Q3 M.tables.length Qc3, .slice Q4 M.mems.length Qc4, .slice Q5 M.globals.length Qc5, .slice Q6 M.exports.length Qc6, .bool M.starts, .int .u32 M.start, .slice Q9 M.elems.length Qc9, .slice Q10 M.datas.length Qc10] 34) = W5 at *
    have HSP := Lib.hid (fun X (h : Below W5.heap.size W5 X) => (⟨(hbp.below h hbp.lt).cell 0, (hbp.below h hbp.lt).cell 1, (hbp.below h hbp.lt).cell 2, (hbp.below h hbp.lt).cell 3, (hbp.below h hbp.lt).cell 4, (hbp.below h hbp.lt).cell 5, (hbp.below h hbp.lt).cell 6, (hbp.below h hbp.lt).cell 7, (hbp.below h hbp.lt).cell 8, (hbp.below h hbp.lt).cell 9, (hbp.below h hbp.lt).cell 10, (hbq.below h hbq.lt).cell 0, (hbq.below h hbq.lt).cell 1, (hbq.below h hbq.lt).cell 2, (hbq.below h hbq.lt).cell 3, (hbq.below h hbq.lt).cell 4, (hbq.below h hbq.lt).cell 5, (hbq.below h hbq.lt).cell 6, (hbq.below h hbq.lt).cell 7, (hbq.below h hbq.lt).cell 8, (hbq.below h hbq.lt).cell 9, (hbq.below h hbq.lt).cell 10, (hbp.below h hbp.lt).lt, (hbq.below h hbq.lt).lt⟩ : X.cell? ⟨W2.heap.size, 0, none⟩ = some (.slice P0 M.types.length Pc0) ∧ X.cell? ⟨W2.heap.size, 1, none⟩ = some (.slice P1 M.imports.length Pc1) ∧ X.cell? ⟨W2.heap.size, 2, none⟩ = some (.slice P2 F.length Pc2) ∧ X.cell? ⟨W2.heap.size, 3, none⟩ = some (.slice P3 M.tables.length Pc3) ∧ X.cell? ⟨W2.heap.size, 4, none⟩ = some (.slice P4 M.mems.length Pc4) ∧ X.cell? ⟨W2.heap.size, 5, none⟩ = some (.slice P5 M.globals.length Pc5) ∧ X.cell? ⟨W2.heap.size, 6, none⟩ = some (.slice P6 M.exports.length Pc6) ∧ X.cell? ⟨W2.heap.size, 7, none⟩ = some (.bool M.starts) ∧ X.cell? ⟨W2.heap.size, 8, none⟩ = some (.int .u32 M.start) ∧ X.cell? ⟨W2.heap.size, 9, none⟩ = some (.slice P9 M.elems.length Pc9) ∧ X.cell? ⟨W2.heap.size, 10, none⟩ = some (.slice P10 M.datas.length Pc10) ∧ X.cell? ⟨W4.heap.size, 0, none⟩ = some (.slice Q0 M.types.length Qc0) ∧ X.cell? ⟨W4.heap.size, 1, none⟩ = some (.slice Q1 M.imports.length Qc1) ∧ X.cell? ⟨W4.heap.size, 2, none⟩ = some (.slice Q2 F.length Qc2) ∧ X.cell? ⟨W4.heap.size, 3, none⟩ = some (.slice Q3 M.tables.length Qc3) ∧ X.cell? ⟨W4.heap.size, 4, none⟩ = some (.slice Q4 M.mems.length Qc4) ∧ X.cell? ⟨W4.heap.size, 5, none⟩ = some (.slice Q5 M.globals.length Qc5) ∧ X.cell? ⟨W4.heap.size, 6, none⟩ = some (.slice Q6 M.exports.length Qc6) ∧ X.cell? ⟨W4.heap.size, 7, none⟩ = some (.bool M.starts) ∧ X.cell? ⟨W4.heap.size, 8, none⟩ = some (.int .u32 M.start) ∧ X.cell? ⟨W4.heap.size, 9, none⟩ = some (.slice Q9 M.elems.length Qc9) ∧ X.cell? ⟨W4.heap.size, 10, none⟩ = some (.slice Q10 M.datas.length Qc10) ∧ W2.heap.size < X.heap.size ∧ W4.heap.size < X.heap.size))
    have HPL := Lib.hid (fun X (h : Below W5.heap.size W5 X) => Plain20_any X _ M F (.slice P0 M.types.length Pc0) (.slice P1 M.imports.length Pc1) (.slice P2 F.length Pc2) (.slice P3 M.tables.length Pc3) (.slice P4 M.mems.length Pc4) (.slice P5 M.globals.length Pc5) (.slice P6 M.exports.length Pc6) (.slice P9 M.elems.length Pc9) (.slice P10 M.datas.length Pc10) (HP5.out.r0.step (Agr.of_below h)) (HP5.out.r1.step (Agr.of_below h)) (HPF5.out.step (Agr.of_below h)) (HP5.out.r3.step (Agr.of_below h)) (HP5.out.r4.step (Agr.of_below h)) (HP5.out.r5.step (Agr.of_below h)) (HP5.out.r6.step (Agr.of_below h)) (HP5.out.r9.step (Agr.of_below h)) (HP5.out.r10.step (Agr.of_below h)) HSM.out.l3 HSM.out.l4 HSM.out.l0 HSM.out.l1 HSM.out.l6 HSM.out.l2 HSM.out.l5 HSM.out.l9 HSM.out.l10 HSM.out.b2 HSM.out.b5 HSM.out.b9 HSM.out.b10)
    have HQL := Lib.hid (fun X (h : Below W5.heap.size W5 X) => Plain20_any X _ M F (.slice Q0 M.types.length Qc0) (.slice Q1 M.imports.length Qc1) (.slice Q2 F.length Qc2) (.slice Q3 M.tables.length Qc3) (.slice Q4 M.mems.length Qc4) (.slice Q5 M.globals.length Qc5) (.slice Q6 M.exports.length Qc6) (.slice Q9 M.elems.length Qc9) (.slice Q10 M.datas.length Qc10) (HQ5.out.r0.step (Agr.of_below h)) (HQ5.out.r1.step (Agr.of_below h)) (HQF5.out.step (Agr.of_below h)) (HQ5.out.r3.step (Agr.of_below h)) (HQ5.out.r4.step (Agr.of_below h)) (HQ5.out.r5.step (Agr.of_below h)) (HQ5.out.r6.step (Agr.of_below h)) (HQ5.out.r9.step (Agr.of_below h)) (HQ5.out.r10.step (Agr.of_below h)) HSM.out.l3 HSM.out.l4 HSM.out.l0 HSM.out.l1 HSM.out.l6 HSM.out.l2 HSM.out.l5 HSM.out.l9 HSM.out.l10 HSM.out.b2 HSM.out.b5 HSM.out.b9 HSM.out.b10)
    clear hbp hbq
    go_region_held3 (fun X => X.cell? ⟨W2.heap.size, 0, none⟩ = some (.slice P0 M.types.length Pc0) ∧ X.cell? ⟨W2.heap.size, 1, none⟩ = some (.slice P1 M.imports.length Pc1) ∧ X.cell? ⟨W2.heap.size, 2, none⟩ = some (.slice P2 F.length Pc2) ∧ X.cell? ⟨W2.heap.size, 3, none⟩ = some (.slice P3 M.tables.length Pc3) ∧ X.cell? ⟨W2.heap.size, 4, none⟩ = some (.slice P4 M.mems.length Pc4) ∧ X.cell? ⟨W2.heap.size, 5, none⟩ = some (.slice P5 M.globals.length Pc5) ∧ X.cell? ⟨W2.heap.size, 6, none⟩ = some (.slice P6 M.exports.length Pc6) ∧ X.cell? ⟨W2.heap.size, 7, none⟩ = some (.bool M.starts) ∧ X.cell? ⟨W2.heap.size, 8, none⟩ = some (.int .u32 M.start) ∧ X.cell? ⟨W2.heap.size, 9, none⟩ = some (.slice P9 M.elems.length Pc9) ∧ X.cell? ⟨W2.heap.size, 10, none⟩ = some (.slice P10 M.datas.length Pc10) ∧ X.cell? ⟨W4.heap.size, 0, none⟩ = some (.slice Q0 M.types.length Qc0) ∧ X.cell? ⟨W4.heap.size, 1, none⟩ = some (.slice Q1 M.imports.length Qc1) ∧ X.cell? ⟨W4.heap.size, 2, none⟩ = some (.slice Q2 F.length Qc2) ∧ X.cell? ⟨W4.heap.size, 3, none⟩ = some (.slice Q3 M.tables.length Qc3) ∧ X.cell? ⟨W4.heap.size, 4, none⟩ = some (.slice Q4 M.mems.length Qc4) ∧ X.cell? ⟨W4.heap.size, 5, none⟩ = some (.slice Q5 M.globals.length Qc5) ∧ X.cell? ⟨W4.heap.size, 6, none⟩ = some (.slice Q6 M.exports.length Qc6) ∧ X.cell? ⟨W4.heap.size, 7, none⟩ = some (.bool M.starts) ∧ X.cell? ⟨W4.heap.size, 8, none⟩ = some (.int .u32 M.start) ∧ X.cell? ⟨W4.heap.size, 9, none⟩ = some (.slice Q9 M.elems.length Qc9) ∧ X.cell? ⟨W4.heap.size, 10, none⟩ = some (.slice Q10 M.datas.length Qc10) ∧ W2.heap.size < X.heap.size ∧ W4.heap.size < X.heap.size)
     (first | with_reducible exact HSP.out _ hx3 | with_reducible exact HSP.out _ hx2 | with_reducible exact HSP.out _ hx1 | exact HSP.out _ (bl_drew (Below.refl _ _)))
     (first
     | (go_at_call_of 11 (Value.agg #[.slice P0 M.types.length Pc0, .slice P1 M.imports.length Pc1, .slice P2 F.length Pc2, .slice P3 M.tables.length Pc3, .slice P4 M.mems.length Pc4, .slice P5 M.globals.length Pc5, .slice P6 M.exports.length Pc6, .bool M.starts, .int .u32 M.start, .slice P9 M.elems.length Pc9, .slice P10 M.datas.length Pc10]); refine (HPL.out _ (bl_drew (Below.refl _ _))).mono ?_; rintro E X1 ⟨hy1, a0, a1, a2, a3, a4, a5, a6, a9, a10, rfl, hr1⟩; have hx1 := below_from (bl_drew (Below.refl W5.heap.size W5)) hy1)
     | (go_at_call_of 11 (Value.agg #[.slice Q0 M.types.length Qc0, .slice Q1 M.imports.length Qc1, .slice Q2 F.length Qc2, .slice Q3 M.tables.length Qc3, .slice Q4 M.mems.length Qc4, .slice Q5 M.globals.length Qc5, .slice Q6 M.exports.length Qc6, .bool M.starts, .int .u32 M.start, .slice Q9 M.elems.length Qc9, .slice Q10 M.datas.length Qc10]); refine (HQL.out _ hx1).mono ?_; rintro E X2 ⟨hy2, b0, b1, b2, b3, b4, b5, b6, b9, b10, rfl, hr2⟩; have hx2 := below_from hx1 hy2)
     | (go_at_call 10; refine (Same20_eq _ M F _ _ a0 a1 a2 a3 a4 a5 a6 a9 a10 b0 b1 b2 b3 b4 b5 b6 b9 b10 HSM.out (hr1.step (Agr.of_below hy2)) hr2).mono ?_; rintro E X3 ⟨rfl, hy3⟩; have hx3 := below_from hx2 hy3))
    all_goals have HZ := Lib.hid (HB0.out.trans ((HA5.out.trans (hx3.mono HA5.out.size)).mono HB0.out.size))
    all_goals clear hx1 hx2 hx3 hy1 hy2 hy3 hr1 hr2
    all_goals go_wp2_with fail
    all_goals go_ret
    all_goals exact ⟨rfl, HZ.out⟩
end Go.Proofs.YtofaiocffifhfaaGreat
end
section
namespace Go.Proofs.YtofaiocffifhfaaGreat
open Go.RowKit Go.Shelf YtofaiocffifhfaaGreatB Go.Proofs.YtofaiocffifhfaaGreatW.PrintWords
theorem opens_BB (n : Nat) : OpensAt Tryz.prog 63 (Kd.slice 22 kBB) (fun _ => 0) (n + 2) :=
 opens_bk (opens_slice Tryz.underlying63 (by kernel_rfl) (opens_U8s n)) (fun _ => Nat.zero_le _)
theorem moduleCustom_walk (W : World) (a0 : List (List Int)) (a1 : Int) (a2 : List Int) {A : Option Addr} {n c : Nat} {k : Int} {A' : Option Addr} {n' c' : Nat} (h0 : (Kd.slice 22 kBB).K W a0 (Value.slice A n c).cells.toList) (h1 : (rng .i64).K W a1 (Value.int .i64 k).cells.toList) (h2 : (Kd.slice 5 (rng .u8)).K W a2 (Value.slice A' n' c').cells.toList) (hb : a2.length ≤ 1048576) :
  Calls Tryz.prog 5 #[.slice A n c, .int .i64 k, .slice A' n' c'] W fun e W' => e = .returned (.bool true) ∧ Below W.heap.size W W' := by
 obtain ⟨_, _, e, _, hC⟩ := h0
 simp [Value.cells] at e
 obtain ⟨rfl, rfl, rfl⟩ := e
 obtain ⟨_, hR, hB, hle⟩ := bytes_open h2 hb
 obtain ⟨_, _, e2, _, hC2⟩ := h2
 simp [Value.cells] at e2
 obtain ⟨rfl, rfl, rfl⟩ := e2
 obtain ⟨e1, w1⟩ := h1
 simp [Value.cells] at e1
 subst e1
 have b1 := wf_bounds w1
 simp [IntKind.min, IntKind.max, IntKind.signed, IntKind.bits] at b1
 exact moduleCustom_go W _ _ a0 _ _ _ a2 hC hC2 hB (by omega)
end Go.Proofs.YtofaiocffifhfaaGreat
end
