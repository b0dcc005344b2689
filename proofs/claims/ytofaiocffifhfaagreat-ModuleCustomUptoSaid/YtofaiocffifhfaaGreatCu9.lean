/- Lemmas towards this claim's statement: what the functions named here come to, each under the conditions that it states itself. -/
import Derived.Test.YtofaiocffifhfaaGreatCu8
section
namespace Go.Proofs.YtofaiocffifhfaaGreat
open Go.RowKit Go.Shelf YtofaiocffifhfaaGreatB Go.Proofs.YtofaiocffifhfaaGreatW.PrintWords
def impM (B : List Int) (a : Nat) (e : Int) : ImpD × Nat × Int :=
  let n := namM B a e
  let m := namM B n.2.1 n.2.2
  let k := knM B m.2.1 m.2.2
  if k.2.2 = 0 then
    (if k.1 = 0 then (⟨n.1, m.1, k.1, (u32R B k.2.1 k.2.2).1, (0, 0, false), (0, false)⟩, (u32R B k.2.1 k.2.2).2)
    else if k.1 = 1 then (⟨n.1, m.1, k.1, 0, (tabM B k.2.1 k.2.2).1, (0, false)⟩, (tabM B k.2.1 k.2.2).2)
    else if k.1 = 2 then (⟨n.1, m.1, k.1, 0, (limM B k.2.1 k.2.2).1, (0, false)⟩, (limM B k.2.1 k.2.2).2)
    else if k.1 = 3 then (⟨n.1, m.1, k.1, 0, (0, 0, false), (gtyM B k.2.1 k.2.2).1⟩, (gtyM B k.2.1 k.2.2).2)
    else (⟨n.1, m.1, k.1, 0, (0, 0, false), (0, false)⟩, k.2))
  else (⟨n.1, m.1, k.1, 0, (0, 0, false), (0, false)⟩, k.2)
theorem lim1M_b {B : List Int} (hB : Byts B) (a : Nat) : (0 ≤ (lim1M B a).1.1 ∧ (lim1M B a).1.1 ≤ 4294967295) ∧ 0 ≤ (lim1M B a).1.2.1 ∧ (lim1M B a).1.2.1 ≤ 4294967295 := by
  unfold lim1M
  dsimp only
  split
  · exact ⟨rdOf_u32' hB, rdOf_u32' hB⟩
  · exact ⟨rdOf_u32' hB, Int.le_refl 0, (by omega : (0 : Int) ≤ 4294967295)⟩
theorem limM_b {B : List Int} (hB : Byts B) (a : Nat) (e : Int) : (0 ≤ (limM B a e).1.1 ∧ (limM B a e).1.1 ≤ 4294967295) ∧ 0 ≤ (limM B a e).1.2.1 ∧ (limM B a e).1.2.1 ≤ 4294967295 := by
  have hz : (0 : Int) ≤ 0 ∧ (0 : Int) ≤ 4294967295 := by omega
  unfold limM rdBack
  split
  · split
    · exact lim1M_b hB a
    · exact ⟨hz, hz⟩
  · exact ⟨hz, hz⟩
theorem tabM_b {B : List Int} (hB : Byts B) (a : Nat) (e : Int) : (0 ≤ (tabM B a e).1.1 ∧ (tabM B a e).1.1 ≤ 4294967295) ∧ 0 ≤ (tabM B a e).1.2.1 ∧ (tabM B a e).1.2.1 ≤ 4294967295 := by
  have hz : (0 : Int) ≤ 0 ∧ (0 : Int) ≤ 4294967295 := by omega
  unfold tabM rdBack
  split
  · split
    · unfold tab1M
      exact limM_b hB _ _
    · exact ⟨hz, hz⟩
  · exact ⟨hz, hz⟩
set_option maxRecDepth 100000 in
set_option maxHeartbeats 8000000 in
theorem imported_any (W : World) (p q : Nat) (B : List Int) (sat : Bool) (a : Nat) (e : Int) (hC : Cur W p q B a e) (hB : Byts B) :
    Calls Tryz.prog 76 #[.agg #[.pointer (some ⟨p, 0, none⟩), .bool sat]] W (RdPost kImp W p q B (impM B a e)) := by
  have hpl := hC.lt
  have HS := Lib.hid (((St.start hC).alloc (.cells #[.pointer (some ⟨p, 0, none⟩), .bool sat] 67)).alloc (.cells #[.string ⟨#[]⟩, .string ⟨#[]⟩, .int .i64 0, .int .u32 0, .int .u32 0, .int .u32 0, .bool false, .int .u8 0, .bool false] 105))
  have HP := Lib.hid ((Lc.new (p := p) W #[.pointer (some ⟨p, 0, none⟩), .bool sat] 67 hpl).alloc (.cells #[.string ⟨#[]⟩, .string ⟨#[]⟩, .int .i64 0, .int .u32 0, .int .u32 0, .int .u32 0, .bool false, .int .u8 0, .bool false] 105))
  have HO := Lib.hid (Lc.newAt (p := p) (W.alloc (.cells #[.pointer (some ⟨p, 0, none⟩), .bool sat] 67)) #[.string ⟨#[]⟩, .string ⟨#[]⟩, .int .i64 0, .int .u32 0, .int .u32 0, .int .u32 0, .bool false, .int .u8 0, .bool false] 105 (by rw [World.size_alloc]; omega) (World.size_alloc _ _))
  obtain ⟨R, hR⟩ : ∃ R, R = impM B a e := ⟨_, rfl⟩
  rw [← hR]
  unfold impM u32R at hR
  have H1 := Lib.hid (fun X (h : Cur X p q B a e) => Name_any X p q B a e h hB)
  generalize namM B a e = r0 at *
  obtain ⟨nm, a1, e1⟩ := r0
  dsimp only at hR
  have H2 := Lib.hid (fun X (h : Cur X p q B a1 e1) => Name_any X p q B a1 e1 h hB)
  generalize namM B a1 e1 = r1 at *
  obtain ⟨nn, a2, e2⟩ := r1
  dsimp only at hR
  have H3 := Lib.hid (fun X (h : Cur X p q B a2 e2) => kind_any X p q B a2 e2 sat h hB)
  have hkb := knM_b (a := a2) (e := e2) hB
  generalize knM B a2 e2 = r2 at *
  obtain ⟨kd, a3, e3⟩ := r2
  dsimp only at hR hkb
  have H4 := Lib.hid (fun X (h : Cur X p q B a3 e3) => U32_any X p q B a3 e3 h hB)
  have H5 := Lib.hid (fun X (h : Cur X p q B a3 e3) => Table_any X p q B a3 e3 h hB)
  have H6 := Lib.hid (fun X (h : Cur X p q B a3 e3) => Limits_any X p q B a3 e3 h hB)
  have H7 := Lib.hid (fun X (h : Cur X p q B a3 e3) => Global_any X p q B a3 e3 h hB)
  have HRR := Lib.hid hR
  have HB := Lib.hid hB
  have HKB := Lib.hid hkb
  have hp1 := HP.out.lt
  have hsz2 : W.heap.size + 2 ≤ ((W.alloc (.cells #[.pointer (some ⟨p, 0, none⟩), .bool sat] 67)).alloc (.cells #[.string ⟨#[]⟩, .string ⟨#[]⟩, .int .i64 0, .int .u32 0, .int .u32 0, .int .u32 0, .bool false, .int .u8 0, .bool false] 105)).heap.size := by rw [World.size_alloc, World.size_alloc]; omega
  clear hC hB hkb hR
  go_enter Tryz.func76, Tryz.ntmps76
  go_wp2_with fail
  generalize (W.alloc (.cells #[.pointer (some ⟨p, 0, none⟩), .bool sat] 67)).alloc (.cells #[.string ⟨#[]⟩, .string ⟨#[]⟩, .int .i64 0, .int .u32 0, .int .u32 0, .int .u32 0, .bool false, .int .u8 0, .bool false] 105) = W1 at *
  have p0 := HP.out.c0
  have p1 := HP.out.c1
  have lp := HP.out.lt
  have hpl2 : p < W1.drew.heap.size := HS.out.cur.lt
  have hz1 : W.heap.size + 1 < W1.heap.size := HO.out.lt
  go_cut [3] (fun s3 wx => ∃ g3, s3 = .pointer (some ⟨g3, 0, none⟩) ∧ W.heap.size + 1 < g3 ∧ Hid (St W wx p q B a2 e2) ∧ Hid (Lc p wx W.heap.size #[.pointer (some ⟨p, 0, none⟩), .bool sat] 67) ∧ Hid (Lc p wx (W.heap.size + 1) #[.string ⟨#[]⟩, .string ⟨#[]⟩, .int .i64 0, .int .u32 0, .int .u32 0, .int .u32 0, .bool false, .int .u8 0, .bool false] 105) ∧ Hid (Lc p wx g3 #[.string nm, .string nn, .int .i64 0, .int .u32 0, .int .u32 0, .int .u32 0, .bool false, .int .u8 0, .bool false] 105))
  case first =>
    go_region_law (first
      | (go_simp; go_at_call 72; refine (H1.out _ HS.out.drew.cur).mono ?_; rintro E W2 ⟨rfl, hG2⟩; have hS2 := HS.out.drew.goes hG2; have hP2 := HP.out.drew.goes hG2; have hO2 := HO.out.drew.goes hG2; have hp2 := hP2.c0; have lp2 := hP2.lt)
      | (go_simp; go_at_call 72; refine (H1.out _ (HS.out.alloc (.cells #[.string ⟨#[]⟩, .string ⟨#[]⟩, .int .i64 0, .int .u32 0, .int .u32 0, .int .u32 0, .bool false, .int .u8 0, .bool false] 105)).drew.cur).mono ?_; rintro E W2b ⟨rfl, hG2b⟩; have hS2b := (HS.out.alloc (.cells #[.string ⟨#[]⟩, .string ⟨#[]⟩, .int .i64 0, .int .u32 0, .int .u32 0, .int .u32 0, .bool false, .int .u8 0, .bool false] 105)).drew.goes hG2b; have hP2b := (HP.out.alloc (.cells #[.string ⟨#[]⟩, .string ⟨#[]⟩, .int .i64 0, .int .u32 0, .int .u32 0, .int .u32 0, .bool false, .int .u8 0, .bool false] 105)).drew.goes hG2b; have hO2b := (HO.out.alloc (.cells #[.string ⟨#[]⟩, .string ⟨#[]⟩, .int .i64 0, .int .u32 0, .int .u32 0, .int .u32 0, .bool false, .int .u8 0, .bool false] 105)).drew.goes hG2b; have hp2 := hP2b.c0; have lp2 := hP2b.lt)
      | (go_simp; go_at_call 72; refine (H2.out _ hG2.1).mono ?_; rintro E W3 ⟨rfl, hG3⟩; have hSf := hS2.goes hG3; have hPf := hP2.goes hG3; have hOf := hO2.goes hG3)
      | (go_simp; go_at_call 72; refine (H2.out _ hG2b.1).mono ?_; rintro E W3 ⟨rfl, hG3⟩; have hT3 := ((Lc.new (p := p) W1 #[.string ⟨#[]⟩, .string ⟨#[]⟩, .int .i64 0, .int .u32 0, .int .u32 0, .int .u32 0, .bool false, .int .u8 0, .bool false] 105 (by omega)).drew.goes hG2b).goes hG3; have tf0 := hT3.fz 0; have tf1 := hT3.fz 1; have tf2 := hT3.fz 2; have tf3 := hT3.fz 3; have tf4 := hT3.fz 4; have tf5 := hT3.fz 5; have tf6 := hT3.fz 6; have tf7 := hT3.fz 7; have tf8 := hT3.fz 8; have tc0 := hT3.c0; have tc1 := hT3.c1; have tc2 := hT3.c2; have tc3 := hT3.c3; have tc4 := hT3.c4; have tc5 := hT3.c5; have tc6 := hT3.c6; have tc7 := hT3.c7; have tc8 := hT3.c8; have tl := hT3.lt; have hSf := hS2b.goes hG3; have hPf := hP2b.goes hG3; have hOf := hO2b.goes hG3; have hg3 : W.heap.size + 1 < W1.heap.size := hz1)
      | (go_simp; go_at_call 72; refine (H2.out _ (hG2.1.alloc (.cells #[.string ⟨#[]⟩, .string ⟨#[]⟩, .int .i64 0, .int .u32 0, .int .u32 0, .int .u32 0, .bool false, .int .u8 0, .bool false] 105))).mono ?_; rintro E W3 ⟨rfl, hG3⟩; have hT3 := ((Lc.new (p := p) W2 #[.string ⟨#[]⟩, .string ⟨#[]⟩, .int .i64 0, .int .u32 0, .int .u32 0, .int .u32 0, .bool false, .int .u8 0, .bool false] 105 (Nat.lt_of_lt_of_le hpl2 hG2.2.size)).goes hG3); have tf0 := hT3.fz 0; have tf1 := hT3.fz 1; have tf2 := hT3.fz 2; have tf3 := hT3.fz 3; have tf4 := hT3.fz 4; have tf5 := hT3.fz 5; have tf6 := hT3.fz 6; have tf7 := hT3.fz 7; have tf8 := hT3.fz 8; have tc0 := hT3.c0; have tc1 := hT3.c1; have tc2 := hT3.c2; have tc3 := hT3.c3; have tc4 := hT3.c4; have tc5 := hT3.c5; have tc6 := hT3.c6; have tc7 := hT3.c7; have tc8 := hT3.c8; have tl := hT3.lt; have hSf := (hS2.alloc (.cells #[.string ⟨#[]⟩, .string ⟨#[]⟩, .int .i64 0, .int .u32 0, .int .u32 0, .int .u32 0, .bool false, .int .u8 0, .bool false] 105)).goes hG3; have hPf := (hP2.alloc (.cells #[.string ⟨#[]⟩, .string ⟨#[]⟩, .int .i64 0, .int .u32 0, .int .u32 0, .int .u32 0, .bool false, .int .u8 0, .bool false] 105)).goes hG3; have hOf := (hO2.alloc (.cells #[.string ⟨#[]⟩, .string ⟨#[]⟩, .int .i64 0, .int .u32 0, .int .u32 0, .int .u32 0, .bool false, .int .u8 0, .bool false] 105)).goes hG3; have hg3 : W.heap.size + 1 < W2.heap.size := hO2.lt)
      | (go_simp; go_at_call 72; refine (H2.out _ (cur_drew (hG2.1.alloc (.cells #[.string ⟨#[]⟩, .string ⟨#[]⟩, .int .i64 0, .int .u32 0, .int .u32 0, .int .u32 0, .bool false, .int .u8 0, .bool false] 105)))).mono ?_; rintro E W3 ⟨rfl, hG3⟩; have hT3 := ((Lc.new (p := p) W2 #[.string ⟨#[]⟩, .string ⟨#[]⟩, .int .i64 0, .int .u32 0, .int .u32 0, .int .u32 0, .bool false, .int .u8 0, .bool false] 105 (Nat.lt_of_lt_of_le hpl2 hG2.2.size)).drew.goes hG3); have tf0 := hT3.fz 0; have tf1 := hT3.fz 1; have tf2 := hT3.fz 2; have tf3 := hT3.fz 3; have tf4 := hT3.fz 4; have tf5 := hT3.fz 5; have tf6 := hT3.fz 6; have tf7 := hT3.fz 7; have tf8 := hT3.fz 8; have tc0 := hT3.c0; have tc1 := hT3.c1; have tc2 := hT3.c2; have tc3 := hT3.c3; have tc4 := hT3.c4; have tc5 := hT3.c5; have tc6 := hT3.c6; have tc7 := hT3.c7; have tc8 := hT3.c8; have tl := hT3.lt; have hSf := (hS2.alloc (.cells #[.string ⟨#[]⟩, .string ⟨#[]⟩, .int .i64 0, .int .u32 0, .int .u32 0, .int .u32 0, .bool false, .int .u8 0, .bool false] 105)).drew.goes hG3; have hPf := (hP2.alloc (.cells #[.string ⟨#[]⟩, .string ⟨#[]⟩, .int .i64 0, .int .u32 0, .int .u32 0, .int .u32 0, .bool false, .int .u8 0, .bool false] 105)).drew.goes hG3; have hOf := (hO2.alloc (.cells #[.string ⟨#[]⟩, .string ⟨#[]⟩, .int .i64 0, .int .u32 0, .int .u32 0, .int .u32 0, .bool false, .int .u8 0, .bool false] 105)).drew.goes hG3; have hg3 : W.heap.size + 1 < W2.heap.size := hO2.lt))
    all_goals go_wp2_with fail
    all_goals go_meet
    all_goals have hs3 := hSf.sz
    all_goals have hl3 := hOf.lt
    all_goals have hp3 : p < W3.heap.size := hSf.cur.lt
    all_goals first
      | (refine ⟨_, rfl, hl3, Lib.hid ?_, Lib.hid ?_, Lib.hid ?_, Lib.hid ?_⟩
         rotate_left 3
         · with_reducible exact Lc.new W3 _ _ hp3
         · with_reducible exact hSf.alloc _
         · with_reducible exact hPf.alloc _
         · with_reducible exact hOf.alloc _)
      | skip
    all_goals
      refine ⟨_, rfl, hg3, Lib.hid ?_, Lib.hid ?_, Lib.hid ?_, Lib.hid ?_⟩
    all_goals first
      | ((repeat (first | with_reducible exact hSf | (with_reducible refine St.set ?_ _ _ _ ?_; rotate_left; omega) | with_reducible refine St.alloc ?_ _ | with_reducible refine St.drew ?_)); done)
      | ((repeat (first | with_reducible exact hPf | (with_reducible refine Lc.other ?_ _ _ _ ?_; rotate_left; omega) | with_reducible refine Lc.alloc ?_ _ | with_reducible refine Lc.drew ?_)); done)
      | ((repeat (first | with_reducible exact hOf | (with_reducible refine Lc.other ?_ _ _ _ ?_; rotate_left; omega) | with_reducible refine Lc.alloc ?_ _ | with_reducible refine Lc.drew ?_)); done)
      | (have hTc := ((((((((hT3.s0 (.string nm)).s1 (.string nn)).s2 (.int .i64 0)).s3 (.int .u32 0)).s4 (.int .u32 0)).s5 (.int .u32 0)).s6 (.bool false)).s7 (.int .u8 0)).s8 (.bool false)
         with_reducible exact hTc)
  case rest =>
    obtain ⟨g3, rfl, hg3, HS, HP, HO, HT⟩ := hcut
    have hs0 := HS.out.sz
    have p0 := HP.out.c0
    have p1 := HP.out.c1
    have lp := HP.out.lt
    have o0 := HO.out.c0
    have o1 := HO.out.c1
    have o2 := HO.out.c2
    have o3 := HO.out.c3
    have o4 := HO.out.c4
    have o5 := HO.out.c5
    have o6 := HO.out.c6
    have o7 := HO.out.c7
    have o8 := HO.out.c8
    have fo0 := HO.out.fz 0
    have fo1 := HO.out.fz 1
    have fo2 := HO.out.fz 2
    have fo3 := HO.out.fz 3
    have fo4 := HO.out.fz 4
    have fo5 := HO.out.fz 5
    have fo6 := HO.out.fz 6
    have fo7 := HO.out.fz 7
    have fo8 := HO.out.fz 8
    have lo := HO.out.lt
    have t0 := HT.out.c0
    have t1 := HT.out.c1
    have t2 := HT.out.c2
    have t3 := HT.out.c3
    have t4 := HT.out.c4
    have t5 := HT.out.c5
    have t6 := HT.out.c6
    have t7 := HT.out.c7
    have t8 := HT.out.c8
    have ft0 := HT.out.fz 0
    have ft1 := HT.out.fz 1
    have ft2 := HT.out.fz 2
    have ft3 := HT.out.fz 3
    have ft4 := HT.out.fz 4
    have ft5 := HT.out.fz 5
    have ft6 := HT.out.fz 6
    have ft7 := HT.out.fz 7
    have ft8 := HT.out.fz 8
    have lt := HT.out.lt
    go_wp2_with fail
    refine (H3.out _ HS.out.cur).mono ?_
    rintro E W4 ⟨rfl, hG⟩
    clear p0 p1 o0 o1 o2 o3 o4 o5 o6 o7 o8 fo0 fo1 fo2 fo3 fo4 fo5 fo6 fo7 fo8 t0 t1 t2 t3 t4 t5 t6 t7 t8 ft0 ft1 ft2 ft3 ft4 ft5 ft6 ft7 ft8
    replace HP := Lib.hid (HP.out.goes hG)
    replace HO := Lib.hid (HO.out.goes hG)
    replace HT := Lib.hid (HT.out.goes hG)
    replace HS := Lib.hid (HS.out.goes hG)
    have hs4 := HS.out.sz
    clear hG
    have p0 := HP.out.c0
    have p1 := HP.out.c1
    have lp := HP.out.lt
    have o0 := HO.out.c0
    have o1 := HO.out.c1
    have o2 := HO.out.c2
    have o3 := HO.out.c3
    have o4 := HO.out.c4
    have o5 := HO.out.c5
    have o6 := HO.out.c6
    have o7 := HO.out.c7
    have o8 := HO.out.c8
    have fo0 := HO.out.fz 0
    have fo1 := HO.out.fz 1
    have fo2 := HO.out.fz 2
    have fo3 := HO.out.fz 3
    have fo4 := HO.out.fz 4
    have fo5 := HO.out.fz 5
    have fo6 := HO.out.fz 6
    have fo7 := HO.out.fz 7
    have fo8 := HO.out.fz 8
    have lo := HO.out.lt
    have t0 := HT.out.c0
    have t1 := HT.out.c1
    have t2 := HT.out.c2
    have t3 := HT.out.c3
    have t4 := HT.out.c4
    have t5 := HT.out.c5
    have t6 := HT.out.c6
    have t7 := HT.out.c7
    have t8 := HT.out.c8
    have ft0 := HT.out.fz 0
    have ft1 := HT.out.fz 1
    have ft2 := HT.out.fz 2
    have ft3 := HT.out.fz 3
    have ft4 := HT.out.fz 4
    have ft5 := HT.out.fz 5
    have ft6 := HT.out.fz 6
    have ft7 := HT.out.fz 7
    have ft8 := HT.out.fz 8
    have lt := HT.out.lt
    go_wp2_with fail
    clear p0 p1 o0 o1 o2 o3 o4 o5 o6 o7 o8 fo0 fo1 fo2 fo3 fo4 fo5 fo6 fo7 fo8 t0 t1 t2 t3 t4 t5 t6 t7 t8 ft0 ft1 ft2 ft3 ft4 ft5 ft6 ft7 ft8
    replace HP := Lib.hid (HP.out.other g3 2 (.int .i64 kd) (by omega))
    replace HO := Lib.hid (HO.out.other g3 2 (.int .i64 kd) (by omega))
    replace HT := Lib.hid (HT.out.s2 (.int .i64 kd))
    replace HS := Lib.hid (HS.out.set g3 2 (.int .i64 kd) (by omega))
    have hs5 := HS.out.sz
    generalize W4.setCell ⟨g3, 2, none⟩ (.int .i64 kd) = W5 at *
    have p0 := HP.out.c0
    have p1 := HP.out.c1
    have lp := HP.out.lt
    have o0 := HO.out.c0
    have o1 := HO.out.c1
    have o2 := HO.out.c2
    have o3 := HO.out.c3
    have o4 := HO.out.c4
    have o5 := HO.out.c5
    have o6 := HO.out.c6
    have o7 := HO.out.c7
    have o8 := HO.out.c8
    have fo0 := HO.out.fz 0
    have fo1 := HO.out.fz 1
    have fo2 := HO.out.fz 2
    have fo3 := HO.out.fz 3
    have fo4 := HO.out.fz 4
    have fo5 := HO.out.fz 5
    have fo6 := HO.out.fz 6
    have fo7 := HO.out.fz 7
    have fo8 := HO.out.fz 8
    have lo := HO.out.lt
    have t0 := HT.out.c0
    have t1 := HT.out.c1
    have t2 := HT.out.c2
    have t3 := HT.out.c3
    have t4 := HT.out.c4
    have t5 := HT.out.c5
    have t6 := HT.out.c6
    have t7 := HT.out.c7
    have t8 := HT.out.c8
    have ft0 := HT.out.fz 0
    have ft1 := HT.out.fz 1
    have ft2 := HT.out.fz 2
    have ft3 := HT.out.fz 3
    have ft4 := HT.out.fz 4
    have ft5 := HT.out.fz 5
    have ft6 := HT.out.fz 6
    have ft7 := HT.out.fz 7
    have ft8 := HT.out.fz 8
    have lt := HT.out.lt
    by_cases he : e3 = 0
    · subst he
      rw [if_pos rfl] at HRR
      have HPG := Lib.hid (pgood_any W5 p q B a3 0 sat true HS.out.cur rfl)
      go_wp2_with fail
      refine HPG.out.mono ?_
      rintro E w' ⟨rfl, rfl⟩
      clear HPG
      have hR := HRR.out
      have z32 : (0 : Int) ≤ 0 ∧ (0 : Int) ≤ 4294967295 := by omega
      have z8 : (0 : Int) ≤ 0 ∧ (0 : Int) ≤ 255 := by omega
      by_cases k0 : kd = 0
      · subst k0
        first | rw [if_pos rfl] at hR | (rw [if_neg (by omega), if_pos rfl] at hR) | (rw [if_neg (by omega), if_neg (by omega), if_pos rfl] at hR) | (rw [if_neg (by omega), if_neg (by omega), if_neg (by omega), if_pos rfl] at hR)
        have hub := rdOf_u32' (a := a3) (e := 0) HB.out
        generalize rdOf (u32M B a3) a3 0 = r4 at *
        obtain ⟨ty, a4, e4⟩ := r4
        dsimp only at hR hub
        have HUB := Lib.hid hub
        clear hub
        go_wp2_with fail
        refine (H4.out _ (HS.out.alloc (.cells #[.pointer (some ⟨p, 0, none⟩), .bool sat] 67)).cur).mono ?_
        rintro E W6 ⟨rfl, hG⟩
        clear p0 p1 o0 o1 o2 o3 o4 o5 o6 o7 o8 fo0 fo1 fo2 fo3 fo4 fo5 fo6 fo7 fo8 t0 t1 t2 t3 t4 t5 t6 t7 t8 ft0 ft1 ft2 ft3 ft4 ft5 ft6 ft7 ft8
        replace HP := Lib.hid ((HP.out.alloc (.cells #[.pointer (some ⟨p, 0, none⟩), .bool sat] 67)).goes hG)
        replace HO := Lib.hid ((HO.out.alloc (.cells #[.pointer (some ⟨p, 0, none⟩), .bool sat] 67)).goes hG)
        replace HT := Lib.hid ((HT.out.alloc (.cells #[.pointer (some ⟨p, 0, none⟩), .bool sat] 67)).goes hG)
        have HQ := Lib.hid ((Lc.new (p := p) W5 #[.pointer (some ⟨p, 0, none⟩), .bool sat] 67 (by omega)).goes hG)
        replace HS := Lib.hid ((HS.out.alloc (.cells #[.pointer (some ⟨p, 0, none⟩), .bool sat] 67)).goes hG)
        have hs6 := HS.out.sz
        clear hG
        have p0 := HP.out.c0
        have p1 := HP.out.c1
        have lp := HP.out.lt
        have o0 := HO.out.c0
        have o1 := HO.out.c1
        have o2 := HO.out.c2
        have o3 := HO.out.c3
        have o4 := HO.out.c4
        have o5 := HO.out.c5
        have o6 := HO.out.c6
        have o7 := HO.out.c7
        have o8 := HO.out.c8
        have fo0 := HO.out.fz 0
        have fo1 := HO.out.fz 1
        have fo2 := HO.out.fz 2
        have fo3 := HO.out.fz 3
        have fo4 := HO.out.fz 4
        have fo5 := HO.out.fz 5
        have fo6 := HO.out.fz 6
        have fo7 := HO.out.fz 7
        have fo8 := HO.out.fz 8
        have lo := HO.out.lt
        have t0 := HT.out.c0
        have t1 := HT.out.c1
        have t2 := HT.out.c2
        have t3 := HT.out.c3
        have t4 := HT.out.c4
        have t5 := HT.out.c5
        have t6 := HT.out.c6
        have t7 := HT.out.c7
        have t8 := HT.out.c8
        have ft0 := HT.out.fz 0
        have ft1 := HT.out.fz 1
        have ft2 := HT.out.fz 2
        have ft3 := HT.out.fz 3
        have ft4 := HT.out.fz 4
        have ft5 := HT.out.fz 5
        have ft6 := HT.out.fz 6
        have ft7 := HT.out.fz 7
        have ft8 := HT.out.fz 8
        have lt := HT.out.lt
        have q0 := HQ.out.c0
        have q1 := HQ.out.c1
        have fq0 := HQ.out.fz 0
        have fq1 := HQ.out.fz 1
        have lq := HQ.out.lt
        subst hR
        go_wp2_with fail
        refine bodyPost_ret (v := .agg #[.string nm, .string nn, .int .i64 0, .int .u32 ty, .int .u32 0, .int .u32 0, .bool false, .int .u8 0, .bool false]) (by simp [results, Tryz.results76, go_sem, o0, o1, o2, o3, o4, o5, o6, o7, o8, lo]) rfl ⟨⟨[.string nm, .string nn, .int .i64 0, .int .u32 ty, .int .u32 0, .int .u32 0, .bool false, .int .u8 0, .bool false], rfl, ?_⟩, St.fin (W := W) ?_⟩
        · exact imp_mk (x := ⟨nm, nn, 0, ty, (0, 0, false), (0, false)⟩) HKB.out HUB.out z32 z32 z8
        · (repeat (first | with_reducible exact HS.out | (with_reducible refine St.set ?_ _ _ _ ?_; rotate_left; omega) | with_reducible refine St.alloc ?_ _ | with_reducible refine St.drew ?_))
      by_cases k1 : kd = 1
      · subst k1
        first | rw [if_pos rfl] at hR | (rw [if_neg (by omega), if_pos rfl] at hR) | (rw [if_neg (by omega), if_neg (by omega), if_pos rfl] at hR) | (rw [if_neg (by omega), if_neg (by omega), if_neg (by omega), if_pos rfl] at hR)
        have hub := tabM_b HB.out a3 0
        generalize tabM B a3 0 = r4 at *
        obtain ⟨⟨x, y, z⟩, a4, e4⟩ := r4
        dsimp only at hR hub
        dsimp only [limV, gtyV] at H5
        have HUB := Lib.hid hub
        clear hub
        go_wp2_with fail
        refine (H5.out _ (HS.out.alloc (.cells #[.pointer (some ⟨p, 0, none⟩), .bool sat] 67)).cur).mono ?_
        rintro E W6 ⟨rfl, hG⟩
        clear p0 p1 o0 o1 o2 o3 o4 o5 o6 o7 o8 fo0 fo1 fo2 fo3 fo4 fo5 fo6 fo7 fo8 t0 t1 t2 t3 t4 t5 t6 t7 t8 ft0 ft1 ft2 ft3 ft4 ft5 ft6 ft7 ft8
        replace HP := Lib.hid ((HP.out.alloc (.cells #[.pointer (some ⟨p, 0, none⟩), .bool sat] 67)).goes hG)
        replace HO := Lib.hid ((HO.out.alloc (.cells #[.pointer (some ⟨p, 0, none⟩), .bool sat] 67)).goes hG)
        replace HT := Lib.hid ((HT.out.alloc (.cells #[.pointer (some ⟨p, 0, none⟩), .bool sat] 67)).goes hG)
        have HQ := Lib.hid ((Lc.new (p := p) W5 #[.pointer (some ⟨p, 0, none⟩), .bool sat] 67 (by omega)).goes hG)
        replace HS := Lib.hid ((HS.out.alloc (.cells #[.pointer (some ⟨p, 0, none⟩), .bool sat] 67)).goes hG)
        have hs6 := HS.out.sz
        clear hG
        have p0 := HP.out.c0
        have p1 := HP.out.c1
        have lp := HP.out.lt
        have o0 := HO.out.c0
        have o1 := HO.out.c1
        have o2 := HO.out.c2
        have o3 := HO.out.c3
        have o4 := HO.out.c4
        have o5 := HO.out.c5
        have o6 := HO.out.c6
        have o7 := HO.out.c7
        have o8 := HO.out.c8
        have fo0 := HO.out.fz 0
        have fo1 := HO.out.fz 1
        have fo2 := HO.out.fz 2
        have fo3 := HO.out.fz 3
        have fo4 := HO.out.fz 4
        have fo5 := HO.out.fz 5
        have fo6 := HO.out.fz 6
        have fo7 := HO.out.fz 7
        have fo8 := HO.out.fz 8
        have lo := HO.out.lt
        have t0 := HT.out.c0
        have t1 := HT.out.c1
        have t2 := HT.out.c2
        have t3 := HT.out.c3
        have t4 := HT.out.c4
        have t5 := HT.out.c5
        have t6 := HT.out.c6
        have t7 := HT.out.c7
        have t8 := HT.out.c8
        have ft0 := HT.out.fz 0
        have ft1 := HT.out.fz 1
        have ft2 := HT.out.fz 2
        have ft3 := HT.out.fz 3
        have ft4 := HT.out.fz 4
        have ft5 := HT.out.fz 5
        have ft6 := HT.out.fz 6
        have ft7 := HT.out.fz 7
        have ft8 := HT.out.fz 8
        have lt := HT.out.lt
        have q0 := HQ.out.c0
        have q1 := HQ.out.c1
        have fq0 := HQ.out.fz 0
        have fq1 := HQ.out.fz 1
        have lq := HQ.out.lt
        subst hR
        go_wp2_with fail
        refine bodyPost_ret (v := .agg #[.string nm, .string nn, .int .i64 1, .int .u32 0, .int .u32 x, .int .u32 y, .bool z, .int .u8 0, .bool false]) (by simp [results, Tryz.results76, go_sem, o0, o1, o2, o3, o4, o5, o6, o7, o8, lo]) rfl ⟨⟨[.string nm, .string nn, .int .i64 1, .int .u32 0, .int .u32 x, .int .u32 y, .bool z, .int .u8 0, .bool false], rfl, ?_⟩, St.fin (W := W) ?_⟩
        · exact imp_mk (x := ⟨nm, nn, 1, 0, (x, y, z), (0, false)⟩) HKB.out z32 HUB.out.1 HUB.out.2 z8
        · (repeat (first | with_reducible exact HS.out | (with_reducible refine St.set ?_ _ _ _ ?_; rotate_left; omega) | with_reducible refine St.alloc ?_ _ | with_reducible refine St.drew ?_))
      by_cases k2 : kd = 2
      · subst k2
        first | rw [if_pos rfl] at hR | (rw [if_neg (by omega), if_pos rfl] at hR) | (rw [if_neg (by omega), if_neg (by omega), if_pos rfl] at hR) | (rw [if_neg (by omega), if_neg (by omega), if_neg (by omega), if_pos rfl] at hR)
        have hub := limM_b HB.out a3 0
        generalize limM B a3 0 = r4 at *
        obtain ⟨⟨x, y, z⟩, a4, e4⟩ := r4
        dsimp only at hR hub
        dsimp only [limV, gtyV] at H6
        have HUB := Lib.hid hub
        clear hub
        go_wp2_with fail
        refine (H6.out _ (HS.out.alloc (.cells #[.pointer (some ⟨p, 0, none⟩), .bool sat] 67)).cur).mono ?_
        rintro E W6 ⟨rfl, hG⟩
        clear p0 p1 o0 o1 o2 o3 o4 o5 o6 o7 o8 fo0 fo1 fo2 fo3 fo4 fo5 fo6 fo7 fo8 t0 t1 t2 t3 t4 t5 t6 t7 t8 ft0 ft1 ft2 ft3 ft4 ft5 ft6 ft7 ft8
        replace HP := Lib.hid ((HP.out.alloc (.cells #[.pointer (some ⟨p, 0, none⟩), .bool sat] 67)).goes hG)
        replace HO := Lib.hid ((HO.out.alloc (.cells #[.pointer (some ⟨p, 0, none⟩), .bool sat] 67)).goes hG)
        replace HT := Lib.hid ((HT.out.alloc (.cells #[.pointer (some ⟨p, 0, none⟩), .bool sat] 67)).goes hG)
        have HQ := Lib.hid ((Lc.new (p := p) W5 #[.pointer (some ⟨p, 0, none⟩), .bool sat] 67 (by omega)).goes hG)
        replace HS := Lib.hid ((HS.out.alloc (.cells #[.pointer (some ⟨p, 0, none⟩), .bool sat] 67)).goes hG)
        have hs6 := HS.out.sz
        clear hG
        have p0 := HP.out.c0
        have p1 := HP.out.c1
        have lp := HP.out.lt
        have o0 := HO.out.c0
        have o1 := HO.out.c1
        have o2 := HO.out.c2
        have o3 := HO.out.c3
        have o4 := HO.out.c4
        have o5 := HO.out.c5
        have o6 := HO.out.c6
        have o7 := HO.out.c7
        have o8 := HO.out.c8
        have fo0 := HO.out.fz 0
        have fo1 := HO.out.fz 1
        have fo2 := HO.out.fz 2
        have fo3 := HO.out.fz 3
        have fo4 := HO.out.fz 4
        have fo5 := HO.out.fz 5
        have fo6 := HO.out.fz 6
        have fo7 := HO.out.fz 7
        have fo8 := HO.out.fz 8
        have lo := HO.out.lt
        have t0 := HT.out.c0
        have t1 := HT.out.c1
        have t2 := HT.out.c2
        have t3 := HT.out.c3
        have t4 := HT.out.c4
        have t5 := HT.out.c5
        have t6 := HT.out.c6
        have t7 := HT.out.c7
        have t8 := HT.out.c8
        have ft0 := HT.out.fz 0
        have ft1 := HT.out.fz 1
        have ft2 := HT.out.fz 2
        have ft3 := HT.out.fz 3
        have ft4 := HT.out.fz 4
        have ft5 := HT.out.fz 5
        have ft6 := HT.out.fz 6
        have ft7 := HT.out.fz 7
        have ft8 := HT.out.fz 8
        have lt := HT.out.lt
        have q0 := HQ.out.c0
        have q1 := HQ.out.c1
        have fq0 := HQ.out.fz 0
        have fq1 := HQ.out.fz 1
        have lq := HQ.out.lt
        subst hR
        go_wp2_with fail
        refine bodyPost_ret (v := .agg #[.string nm, .string nn, .int .i64 2, .int .u32 0, .int .u32 x, .int .u32 y, .bool z, .int .u8 0, .bool false]) (by simp [results, Tryz.results76, go_sem, o0, o1, o2, o3, o4, o5, o6, o7, o8, lo]) rfl ⟨⟨[.string nm, .string nn, .int .i64 2, .int .u32 0, .int .u32 x, .int .u32 y, .bool z, .int .u8 0, .bool false], rfl, ?_⟩, St.fin (W := W) ?_⟩
        · exact imp_mk (x := ⟨nm, nn, 2, 0, (x, y, z), (0, false)⟩) HKB.out z32 HUB.out.1 HUB.out.2 z8
        · (repeat (first | with_reducible exact HS.out | (with_reducible refine St.set ?_ _ _ _ ?_; rotate_left; omega) | with_reducible refine St.alloc ?_ _ | with_reducible refine St.drew ?_))
      by_cases k3 : kd = 3
      · subst k3
        first | rw [if_pos rfl] at hR | (rw [if_neg (by omega), if_pos rfl] at hR) | (rw [if_neg (by omega), if_neg (by omega), if_pos rfl] at hR) | (rw [if_neg (by omega), if_neg (by omega), if_neg (by omega), if_pos rfl] at hR)
        have hub := gtyM_b HB.out a3 0
        generalize gtyM B a3 0 = r4 at *
        obtain ⟨⟨x, z⟩, a4, e4⟩ := r4
        dsimp only at hR hub
        dsimp only [limV, gtyV] at H7
        have HUB := Lib.hid hub
        clear hub
        go_wp2_with fail
        refine (H7.out _ (HS.out.alloc (.cells #[.pointer (some ⟨p, 0, none⟩), .bool sat] 67)).cur).mono ?_
        rintro E W6 ⟨rfl, hG⟩
        clear p0 p1 o0 o1 o2 o3 o4 o5 o6 o7 o8 fo0 fo1 fo2 fo3 fo4 fo5 fo6 fo7 fo8 t0 t1 t2 t3 t4 t5 t6 t7 t8 ft0 ft1 ft2 ft3 ft4 ft5 ft6 ft7 ft8
        replace HP := Lib.hid ((HP.out.alloc (.cells #[.pointer (some ⟨p, 0, none⟩), .bool sat] 67)).goes hG)
        replace HO := Lib.hid ((HO.out.alloc (.cells #[.pointer (some ⟨p, 0, none⟩), .bool sat] 67)).goes hG)
        replace HT := Lib.hid ((HT.out.alloc (.cells #[.pointer (some ⟨p, 0, none⟩), .bool sat] 67)).goes hG)
        have HQ := Lib.hid ((Lc.new (p := p) W5 #[.pointer (some ⟨p, 0, none⟩), .bool sat] 67 (by omega)).goes hG)
        replace HS := Lib.hid ((HS.out.alloc (.cells #[.pointer (some ⟨p, 0, none⟩), .bool sat] 67)).goes hG)
        have hs6 := HS.out.sz
        clear hG
        have p0 := HP.out.c0
        have p1 := HP.out.c1
        have lp := HP.out.lt
        have o0 := HO.out.c0
        have o1 := HO.out.c1
        have o2 := HO.out.c2
        have o3 := HO.out.c3
        have o4 := HO.out.c4
        have o5 := HO.out.c5
        have o6 := HO.out.c6
        have o7 := HO.out.c7
        have o8 := HO.out.c8
        have fo0 := HO.out.fz 0
        have fo1 := HO.out.fz 1
        have fo2 := HO.out.fz 2
        have fo3 := HO.out.fz 3
        have fo4 := HO.out.fz 4
        have fo5 := HO.out.fz 5
        have fo6 := HO.out.fz 6
        have fo7 := HO.out.fz 7
        have fo8 := HO.out.fz 8
        have lo := HO.out.lt
        have t0 := HT.out.c0
        have t1 := HT.out.c1
        have t2 := HT.out.c2
        have t3 := HT.out.c3
        have t4 := HT.out.c4
        have t5 := HT.out.c5
        have t6 := HT.out.c6
        have t7 := HT.out.c7
        have t8 := HT.out.c8
        have ft0 := HT.out.fz 0
        have ft1 := HT.out.fz 1
        have ft2 := HT.out.fz 2
        have ft3 := HT.out.fz 3
        have ft4 := HT.out.fz 4
        have ft5 := HT.out.fz 5
        have ft6 := HT.out.fz 6
        have ft7 := HT.out.fz 7
        have ft8 := HT.out.fz 8
        have lt := HT.out.lt
        have q0 := HQ.out.c0
        have q1 := HQ.out.c1
        have fq0 := HQ.out.fz 0
        have fq1 := HQ.out.fz 1
        have lq := HQ.out.lt
        subst hR
        go_wp2_with fail
        refine bodyPost_ret (v := .agg #[.string nm, .string nn, .int .i64 3, .int .u32 0, .int .u32 0, .int .u32 0, .bool false, .int .u8 x, .bool z]) (by simp [results, Tryz.results76, go_sem, o0, o1, o2, o3, o4, o5, o6, o7, o8, lo]) rfl ⟨⟨[.string nm, .string nn, .int .i64 3, .int .u32 0, .int .u32 0, .int .u32 0, .bool false, .int .u8 x, .bool z], rfl, ?_⟩, St.fin (W := W) ?_⟩
        · exact imp_mk (x := ⟨nm, nn, 3, 0, (0, 0, false), (x, z)⟩) HKB.out z32 z32 z32 HUB.out
        · (repeat (first | with_reducible exact HS.out | (with_reducible refine St.set ?_ _ _ _ ?_; rotate_left; omega) | with_reducible refine St.alloc ?_ _ | with_reducible refine St.drew ?_))
      rw [if_neg k0, if_neg k1, if_neg k2, if_neg k3] at hR
      subst hR
      go_wp2_with fail
      refine bodyPost_ret (v := .agg #[.string nm, .string nn, .int .i64 kd, .int .u32 0, .int .u32 0, .int .u32 0, .bool false, .int .u8 0, .bool false]) (by simp [results, Tryz.results76, go_sem, o0, o1, o2, o3, o4, o5, o6, o7, o8, lo]) rfl ⟨⟨[.string nm, .string nn, .int .i64 kd, .int .u32 0, .int .u32 0, .int .u32 0, .bool false, .int .u8 0, .bool false], rfl, ?_⟩, St.fin (W := W) ?_⟩
      · exact imp_mk (x := ⟨nm, nn, kd, 0, (0, 0, false), (0, false)⟩) HKB.out z32 z32 z32 z8
      · (repeat (first | with_reducible exact HS.out | (with_reducible refine St.set ?_ _ _ _ ?_; rotate_left; omega) | with_reducible refine St.alloc ?_ _ | with_reducible refine St.drew ?_))
    · have hR := HRR.out
      rw [if_neg he] at hR
      have HE := Lib.hid he
      have HPG := Lib.hid (pgood_any W5 p q B a3 e3 sat false HS.out.cur (beq_eq_false_iff_ne.2 he))
      clear he
      have z32 : (0 : Int) ≤ 0 ∧ (0 : Int) ≤ 4294967295 := by omega
      have z8 : (0 : Int) ≤ 0 ∧ (0 : Int) ≤ 255 := by omega
      go_wp2_with fail
      refine HPG.out.mono ?_
      rintro E w' ⟨rfl, rfl⟩
      subst hR
      go_wp2_with fail
      refine bodyPost_ret (v := .agg #[.string nm, .string nn, .int .i64 kd, .int .u32 0, .int .u32 0, .int .u32 0, .bool false, .int .u8 0, .bool false]) (by simp [results, Tryz.results76, go_sem, o0, o1, o2, o3, o4, o5, o6, o7, o8, lo]) rfl ⟨⟨[.string nm, .string nn, .int .i64 kd, .int .u32 0, .int .u32 0, .int .u32 0, .bool false, .int .u8 0, .bool false], rfl, ?_⟩, St.fin (W := W) ?_⟩
      · exact imp_mk (x := ⟨nm, nn, kd, 0, (0, 0, false), (0, false)⟩) HKB.out z32 z32 z32 z8
      · (repeat (first | with_reducible exact HS.out | (with_reducible refine St.set ?_ _ _ _ ?_; rotate_left; omega) | with_reducible refine St.alloc ?_ _ | with_reducible refine St.drew ?_))
end Go.Proofs.YtofaiocffifhfaaGreat
end
section
namespace Go.Proofs.YtofaiocffifhfaaGreat
open Go.RowKit Go.Shelf YtofaiocffifhfaaGreatB Go.Proofs.YtofaiocffifhfaaGreatW.PrintWords
def backP (rs : Nat × Int) (n : Nat) : Int := if rs.2 = 0 then (if rs.1 < n then 105 else 0) else rs.2
def WholePost (Q : Nat → World → Prop) (W : World) (p q m : Nat) (B : List Int) (t : List Int × Nat × Int) (rs : Nat × Int) (E : Ending) (w' : World) : Prop :=
 E = .returned (.tuple #[]) ∧ (∃ p2, W.heap.size ≤ p2 ∧ Q p2 w') ∧ Cur w' p q B t.2.1 (backP rs t.1.length) ∧ G2 W w' p m
set_option maxRecDepth 100000 in
set_option maxHeartbeats 1000000 in
theorem wholeg_one (Q : Nat → World → Prop) (g : FuncId) (hent : Enters Tryz.prog g) (W : World) (p q m bm bn : Nat) (B : List Int) (a : Nat) (e : Int) (sat : Bool) (rs : Nat × Int) (hC : Cur W p q B a e) (hB : Byts B) (he : (pieceM B a e).2.2 = 0) (hbs : Byts (pieceM B a e).1) (hmW : m < W.heap.size) (hmp : m ≠ p) (hmq : 0 < B.length → m ≠ q)
  (hQ : ∀ p2 Y Z row, W.heap.size ≤ p2 → Q p2 Y → Y.grownBy Z row → (∀ k, row = some k → k = p ∨ k = p2) → Q p2 Z)
  (hcl : ∀ X p2 q2, W.heap.size ≤ p2 → p2 < X.heap.size → (0 < (pieceM B a e).1.length → W.heap.size ≤ q2) → Cur X p2 q2 (pieceM B a e).1 0 0 → W.grownBy X (some p) →
   Calls Tryz.prog g #[.agg #[.pointer (some ⟨p2, 0, none⟩), .bool sat], .pointer (some ⟨bm, 0, none⟩)] X fun E Y => E = .returned (.tuple #[]) ∧ Q p2 Y ∧ Cur Y p2 q2 (pieceM B a e).1 rs.1 rs.2 ∧ G2 X Y p2 m) :
  Calls Tryz.prog 42 #[.agg #[.pointer (some ⟨p, 0, none⟩), .bool sat], .func (.func g) #[] #[.pointer (some ⟨bm, 0, none⟩)]] W (WholePost Q W p q m B (pieceM B a e) rs) := by
 have hpl := hC.lt
 have hu := rdOf_u32' (a := a) (e := e) hB
 have hin : ∀ args w, Sem.run Tryz.prog (callFunc g args) w = .ok (.enter g args) w := hent
 have hC1 := hC.alloc (.cells #[.pointer (some ⟨p, 0, none⟩), .bool sat] 67)
 have HU := Lib.hid (fun X (h : Cur X p q B a e) => U32_any X p q B a e h hB)
 have hpm : pieceM B a e = rdL (takeM B (rdOf (u32M B a) a e).2.1 (rdOf (u32M B a) a e).1.toNat) (rdOf (u32M B a) a e).2.1 (rdOf (u32M B a) a e).2.2 := rfl
 rw [hpm] at he hbs hcl ⊢
 clear hpm
 generalize rdOf (u32M B a) a e = r at *
 obtain ⟨n, a1, e1⟩ := r
 dsimp only at hu he hbs hcl ⊢
 obtain ⟨k, rfl⟩ := Int.eq_ofNat_of_zero_le hu.1
 rw [Int.toNat_natCast] at he hbs hcl ⊢
 have HT := Lib.hid (fun X (h : Cur X p q B a1 e1) => Take_any X p q B a1 k e1 h hB (by omega))
 generalize rdL (takeM B a1 k) a1 e1 = t at *
 obtain ⟨bs, a2, e2⟩ := t
 dsimp only at he hbs hcl ⊢
 subst he
 have HBS := Lib.hid hbs
 have HC := Lib.hid hC1
 have hx := Blk.new W #[.pointer (some ⟨p, 0, none⟩), .bool sat] 67
 obtain ⟨X, hX⟩ : ∃ X, W.alloc (.cells #[.pointer (some ⟨p, 0, none⟩), .bool sat] 67) = X := ⟨_, rfl⟩
 rw [hX] at hx HC
 have HX := Lib.hid hx
 have hsX : W.heap.size < X.heap.size := hx.lt
 have HXE := Lib.hid hX
 have HGX := Lib.hid (hX ▸ World.grownBy_alloc W (.cells #[.pointer (some ⟨p, 0, none⟩), .bool sat] 67) (some p))
 have c0 : X.cell? ⟨W.heap.size, 0, none⟩ = some (.pointer (some ⟨p, 0, none⟩)) := hx.cell 0
 have c1 : X.cell? ⟨W.heap.size, 1, none⟩ = some (.bool sat) := hx.cell 1
 have hpx : p < X.heap.size := by omega
 have HNP := Lib.hid (show some W.heap.size ≠ some p from fun e => by injection e with e; omega)
 have HD := Lib.hid (fun Y (h : Blk Y W.heap.size #[.pointer (some ⟨p, 0, none⟩), .bool sat] 67) => h.cell 0 : ∀ Y, Blk Y W.heap.size #[.pointer (some ⟨p, 0, none⟩), .bool sat] 67 → Y.cell? ⟨W.heap.size, 0, none⟩ = some (.pointer (some ⟨p, 0, none⟩)))
 have HXG := Lib.hid (fun Y (h : X.drew.grownBy Y (some p)) => Blk.grown (Blk.drew hx) h HNP.out)
 have HMP := Lib.hid hmp
 have HQL := Lib.hid (fun hl => hC.qlt' hl : 0 < B.length → q < W.heap.size)
 have HML := Lib.hid hmW
 have HMQ := Lib.hid hmq
 have HQQ := Lib.hid hQ
 have HCL := Lib.hid hcl
 clear hC hC1 hB hu hX hx hbs hmp hmq hQ hcl hent hmW
 go_enter Tryz.func42, Tryz.ntmps42
 go_wp2_with fail
 rw [HXE.out]
 go_region_held3 (fun w' => w'.cell? ⟨W.heap.size, 0, none⟩ = some (.pointer (some ⟨p, 0, none⟩)))
  (first
   | exact c0
   | exact d2
   | exact d1)
  (first
   | (go_at_call 71; refine (HT.out _ hG1.1).mono ?_; rintro E W2 ⟨⟨v, rfl, hO⟩, hG2⟩; have hB2 := Blk.grown hB1 hG2.2 HNP.out; have d2 := HD.out _ hB2)
   | (go_at_call 34; refine (HU.out _ (HC.out.below ((Below.refl _ _).drew))).mono ?_; rintro E W1 ⟨rfl, hG1⟩; have hB1 := HXG.out _ hG1.2; have d1 := HD.out _ hB1))
 have x1 : W2.cell? ⟨W.heap.size, 1, none⟩ = some (.bool sat) := hB2.cell 1
 have hwl := hB2.lt
 have HPG := Lib.hid (pgood_any W2 p q B a2 0 sat true hG2.1 rfl)
 have HG := Lib.hid ((HGX.out.trans (⟨hG1.2.os, hG1.2.tape, hG1.2.output, hG1.2.size, hG1.2.block⟩ : X.grownBy W1 (some p))).trans hG2.2)
 have HGW := Lib.hid (show W.grownBy W2 (some p) from HG.out)
 have HC2 := Lib.hid hG2.1
 have HB2 := Lib.hid hB2
 obtain ⟨AV, kV, rfl, lV, FV⟩ := hO.reads
 have HFV := Lib.hid FV
 clear hG1 hB1 d1 hG2 hO hB2 FV
 go_wp2_with fail
 refine HPG.out.mono ?_
 rintro E w' ⟨rfl, rfl⟩
 go_wp2_with fail
 obtain ⟨W3, hW3⟩ : ∃ W3, W2.alloc (.cells #[.pointer (some ⟨p, 0, none⟩), .bool sat] 67) = W3 := ⟨_, rfl⟩
 have hB23 : Below W2.heap.size W2 W3 := hW3 ▸ (Below.refl _ _).alloc (Nat.le_refl _) _
 have HB23 := Lib.hid hB23
 have HRD := Lib.hid (fun Y (h : Below W3.heap.size W3 Y) => C_rdI (Kd.C_below HFV.out.now (hB23.trans (h.mono hB23.size))) (by have := HBS.out.1; omega))
 have HZ := Lib.hid (fun Y (h : Below (W3.alloc (.cells #[.pointer none, .bool false] 67)).drew.heap.size (W3.alloc (.cells #[.pointer none, .bool false] 67)).drew Y) => (by
  have hb := (Blk.drew (Blk.new W3 #[.pointer none, .bool false] 67)).below h (by show W3.heap.size < (W3.alloc _).heap.size; rw [World.size_alloc]; omega)
  exact ⟨hb.cell 0, hb.cell 1, hb.frozen 0, hb.frozen 1, hb.lt⟩ : Y.cell? ⟨W3.heap.size, 0, none⟩ = some (.pointer none) ∧ Y.cell? ⟨W3.heap.size, 1, none⟩ = some (.bool false) ∧ Y.frozen? ⟨W3.heap.size, 0, none⟩ = false ∧ Y.frozen? ⟨W3.heap.size, 1, none⟩ = false ∧ W3.heap.size < Y.heap.size))
 have HZ2 := Lib.hid (fun Y (h : Below (W3.alloc (.cells #[.pointer none, .bool false] 67)).drew.heap.size (W3.alloc (.cells #[.pointer none, .bool false] 67)).drew Y) => (Blk.drew (Blk.new W3 #[.pointer none, .bool false] 67)).below h (by show W3.heap.size < (W3.alloc _).heap.size; rw [World.size_alloc]; omega))
 have HS1 := Lib.hid (fun Y (h : Below W3.heap.size W3 Y) => pw_cell_below h (show W3.cell? ⟨W.heap.size, 1, none⟩ = some (.bool sat) from pw_cell_below hB23 x1))
 have y1 := HS1.out W3 (Below.refl _ _)
 have hw3 : W.heap.size < W3.heap.size := by have := hB23.size; omega
 have HBN := Lib.hid (⟨(Below.refl W3.heap.size W3).drew, ((Below.refl W3.heap.size W3).alloc (Nat.le_refl _) (.cells #[.pointer none, .bool false] 67)).drew⟩ : Below W3.heap.size W3 W3.drew ∧ Below W3.heap.size W3 (W3.alloc (.cells #[.pointer none, .bool false] 67)).drew)
 rw [hW3]
 clear hW3 hB23 x1 d2 hwl
 go_cut [5] (fun s5 wx => ∃ g5 p2 q2, s5 = .pointer (some ⟨g5, 0, none⟩) ∧ Hid (Blk wx g5 #[.pointer (some ⟨p2, 0, none⟩), .bool sat] 67 ∧ Cur wx p2 q2 bs 0 0 ∧ Below W3.heap.size W3 wx ∧ W3.heap.size ≤ g5 ∧ W3.heap.size ≤ p2 ∧ (0 < bs.length → W3.heap.size ≤ q2)))
 case first =>
  go_region_law (first
   | (go_simp; go_at_call 12; refine (New_own _ AV kV bs (HRD.out _ HBN.out.1) HBS.out).mono ?_; rintro E wn ⟨p2, q2, hp2, hq2, rfl, hC2n, hBn⟩; have hBw : Below W3.heap.size W3 wn := HBN.out.1.trans (hBn.mono HBN.out.1.size); have y2 := HS1.out wn hBw; have y3 := HS1.out _ (hBw.alloc hBw.size (.cells #[.pointer none, .bool false] 67)); have hzb := Blk.new wn #[.pointer none, .bool false] 67; have q0 := hzb.cell 0; have q1 := hzb.cell 1; have r0 := hzb.frozen 0; have r1 := hzb.frozen 1; have hzl := hzb.lt; have HZB := Lib.hid hzb; clear hzb)
   | (go_simp; go_at_call 12; refine (New_own _ AV kV bs (HRD.out _ HBN.out.2) HBS.out).mono ?_; rintro E wn ⟨p2, q2, hp2, hq2, rfl, hC2n, hBn⟩; have hBw : Below W3.heap.size W3 wn := HBN.out.2.trans (hBn.mono HBN.out.2.size); have y2 := HS1.out wn hBw; have hq := HZ.out wn hBn; have q0 := hq.1; have q1 := hq.2.1; have r0 := hq.2.2.1; have r1 := hq.2.2.2.1; have hzl := hq.2.2.2.2; clear hq; have HZB := Lib.hid (HZ2.out wn hBn)))
  all_goals go_wp2_with fail
  all_goals go_meet
  all_goals first
   | exact ⟨_, p2, q2, rfl, Lib.hid ⟨Blk.new wn _ _, hC2n.alloc _, hBw.alloc hBw.size _, hBw.size, hp2, hq2⟩⟩
   | skip
  all_goals
   have hs3 : W3.heap.size < (W3.alloc (.cells #[.pointer none, .bool false] 67)).heap.size := by rw [World.size_alloc]; omega
   have hlq : 0 < bs.length → W3.heap.size ≤ q2 := fun hl => Nat.le_trans (Nat.le_of_lt hs3) (hq2 hl)
   have hn : 0 < bs.length → W3.heap.size ≠ q2 := fun hl he => absurd (Nat.lt_of_lt_of_le hs3 (hq2 hl)) (by omega)
   have hne : W3.heap.size ≠ p2 := by
    have h9 : (W3.alloc (.cells #[.pointer none, .bool false] 67)).heap.size ≤ p2 := hp2
    rw [World.size_alloc] at h9; omega
   have hle : W3.heap.size ≤ p2 := by
    have h9 : (W3.alloc (.cells #[.pointer none, .bool false] 67)).heap.size ≤ p2 := hp2
    rw [World.size_alloc] at h9; omega
   exact ⟨_, p2, q2, rfl, Lib.hid ⟨(HZB.out.set 0 _).set 1 _, (hC2n.other _ _ _ hne hn).other _ _ _ hne hn, (hBw.grown (gset wn W3.heap.size 0 _) hBw.size (fun k hk => by cases hk; exact Nat.le_refl _)).grown (gset _ W3.heap.size 1 _) (by have := hBw.size; simpa [World.setCell] using this) (fun k hk => by cases hk; exact Nat.le_refl _), Nat.le_refl _, hle, hlq⟩⟩
 case rest =>
  obtain ⟨g5, p2, q2, rfl, HS⟩ := hcut
  have hpW := hpl
  have hB2c : Below W2.heap.size W2 wc := HB23.out.trans (HS.out.2.2.1.mono HB23.out.size)
  have hw2l : W.heap.size < W2.heap.size := HB2.out.lt
  have hGw : W.grownBy wc (some p) := HGW.out.trans (grown_below hB2c (some p))
  have hPc : Blk wc W.heap.size #[.pointer (some ⟨p, 0, none⟩), .bool sat] 67 := HB2.out.below hB2c hw2l
  have hml := HML.out
  have hw3l := HB23.out.size
  have hmp2 : m ≠ p2 := by have := HS.out.2.2.2.2.1; omega
  have HK := Lib.hid (HCL.out wc p2 q2 (by have := HS.out.2.2.2.2.1; omega) HS.out.2.1.lt (fun hl => by have := HS.out.2.2.2.2.2 hl; omega) HS.out.2.1 hGw)
  have HPC := Lib.hid hPc
  have HGW2 := Lib.hid hGw
  have s0 : wc.cell? ⟨g5, 0, none⟩ = some (.pointer (some ⟨p2, 0, none⟩)) := HS.out.1.cell 0
  have s1 : wc.cell? ⟨g5, 1, none⟩ = some (.bool sat) := HS.out.1.cell 1
  have hCc : Cur wc p q B a2 0 := HC2.out.below hB2c
  have HCC := Lib.hid hCc
  clear hB2c hw2l hGw hPc hCc
  go_wp2_with fail
  have hgp : g5 ≠ p2 := fun e => by
   subst e
   obtain ⟨_, _, A, c, _, h3, _⟩ := HS.out.2.1
   have h9 := HS.out.1.symm.trans h3
   injection h9 with h9; injection h9 with h9; simp at h9
  refine HK.out.mono ?_
  rintro E W4 ⟨rfl, hQ4, hC4, hG4⟩
  have hgm : g5 ≠ m := by have := HS.out.2.2.2.1; omega
  have hg4 : Blk W4 g5 #[.pointer (some ⟨p2, 0, none⟩), .bool sat] 67 := HS.out.1.g2 hG4 hgp hgm
  have hpp : p ≠ p2 := by have := HS.out.2.2.2.2.1; omega
  have hpW4 : Blk W4 W.heap.size #[.pointer (some ⟨p, 0, none⟩), .bool sat] 67 := HPC.out.g2 hG4 (by have := HS.out.2.2.2.2.1; omega) (by omega)
  have hCp : Cur W4 p q B a2 0 := Cur_g2 HCC.out hG4 hpp HMP.out.symm (fun hl => ⟨by have := HS.out.2.2.2.2.1; have := HQL.out hl; omega, fun e => HMQ.out hl e.symm⟩)
  have HQ4 := Lib.hid hQ4
  have HG4 := Lib.hid hG4
  have HC4 := Lib.hid hC4
  have HCP := Lib.hid hCp
  have t0 := hg4.cell 0
  have t1 := hg4.cell 1
  have HG5 := Lib.hid hg4
  have HP4 := Lib.hid hpW4
  clear hQ4 hG4 hC4 hCp s0 s1 HK hg4 hpW4
  have HBB := Lib.hid (⟨HS.out.2.1.lt, by have := HGW2.out.size; omega, HGW2.out.size, by have := HS.out.2.2.2.2.1; omega, G2_up (G2.of_grown HGW2.out (fun k e => by injection e with e; left; exact e.symm)) HG4.out (by have := HS.out.2.2.2.2.1; omega)⟩ : p2 < wc.heap.size ∧ p < wc.heap.size ∧ W.heap.size ≤ wc.heap.size ∧ W.heap.size ≤ p2 ∧ G2 W W4 p m)
  by_cases h0 : rs.2 = 0
  ·have HH0 := Lib.hid h0
   have HPG2 := Lib.hid (pgood_any W4 p2 q2 bs rs.1 rs.2 sat true HC4.out (by rw [h0]; rfl))
   clear h0
   have HL := Lib.hid (left_any _ p2 q2 bs rs.1 rs.2 (HC4.out.alloc (.cells #[.pointer (some ⟨p2, 0, none⟩), .bool sat] 67)) HBS.out)
   go_wp2_with fail
   refine HPG2.out.mono ?_
   rintro E w' ⟨rfl, rfl⟩
   have v0 := (HG5.out.alloc (.cells #[.pointer (some ⟨p2, 0, none⟩), .bool sat] 67)).cell 0
   go_wp2_with fail
   refine HL.out.mono ?_
   rintro E W5 ⟨rfl, hG5⟩
   have hP5 : Blk W5 W.heap.size #[.pointer (some ⟨p, 0, none⟩), .bool sat] 67 := (HP4.out.alloc _).grown hG5.2 (by have := HS.out.2.2.2.2.1; simp; omega)
   have hC5 : Cur W5 p q B a2 0 := (HCP.out.alloc _).grown' hG5.2 (by simpa using hpp) (fun hl => by have := HS.out.2.2.2.2.1; have := HQL.out hl; simp; omega)
   have z0 := hP5.cell 0
   have HF := Lib.hid (Fail_any W5 p q B a2 0 105 hC5 rfl)
   have HP5 := Lib.hid hP5
   have HC5 := Lib.hid hC5
   have HG6 := Lib.hid hG5
   clear v0 hG5 hP5 hC5 HL HPG2
   by_cases h7 : rs.1 < bs.length
   ·have h8 : decide ((bs.length : Int) - (rs.1 : Int) > 0) = true := by simp; omega
    have H7 := Lib.hid h7
    clear h7
    go_wp2_with fail
    refine HF.out.mono ?_
    rintro E W6 ⟨rfl, hG6⟩
    have HF6 := Lib.hid hG6
    clear hG6 HF
    go_wp2_with fail
    go_end0
    have hb := HBB.out
    unfold WholePost
    dsimp only
    refine ⟨rfl, ⟨p2, hb.2.2.2.1, (HQQ.out p2 _ _ _ hb.2.2.2.1 (HQQ.out p2 _ _ _ hb.2.2.2.1 (HQQ.out p2 _ _ none hb.2.2.2.1 HQ4.out (World.grownBy_alloc _ _ none) (fun k e => by cases e)) HG6.out.2 (fun k e => by injection e with e; exact .inr e.symm)) HF6.out.2 (fun k e => by injection e with e; exact .inl e.symm))⟩, ?_, ((hb.2.2.2.2.alloc _).grown HG6.out.2 (fun r e => by injection e with e; have := HS.out.2.2.2.2.1; right; right; omega)).grown HF6.out.2 (fun r e => by injection e with e; left; exact e.symm)⟩
    rw [show backP rs bs.length = 105 by simp [backP, HH0.out, H7.out]]
    exact HF6.out.1
   ·have h8 : decide ((bs.length : Int) - (rs.1 : Int) > 0) = false := by simp; omega
    have H7 := Lib.hid h7
    clear h7
    go_wp2_with fail
    go_end0
    have hb := HBB.out
    unfold WholePost
    dsimp only
    refine ⟨rfl, ⟨p2, hb.2.2.2.1, (HQQ.out p2 _ _ _ hb.2.2.2.1 (HQQ.out p2 _ _ none hb.2.2.2.1 HQ4.out (World.grownBy_alloc _ _ none) (fun k e => by cases e)) HG6.out.2 (fun k e => by injection e with e; exact .inr e.symm))⟩, ?_, (hb.2.2.2.2.alloc _).grown HG6.out.2 (fun r e => by injection e with e; have := HS.out.2.2.2.2.1; right; right; omega)⟩
    rw [show backP rs bs.length = 0 by simp [backP, HH0.out, H7.out]]
    exact HC5.out
  ·have HH0 := Lib.hid h0
   have HPG2 := Lib.hid (pgood_any W4 p2 q2 bs rs.1 rs.2 sat false HC4.out (by simp [h0]))
   clear h0
   have hC5 := HC4.out.alloc (.cells #[.pointer (some ⟨p2, 0, none⟩), .bool sat] 67)
   have hP5 := HCP.out.alloc (.cells #[.pointer (some ⟨p2, 0, none⟩), .bool sat] 67)
   have HE5 := Lib.hid (err_any _ p2 q2 bs rs.1 rs.2 (hC5.below ((Below.refl _ _).drew)))
   have HF5 := Lib.hid (Fail_any _ p q B a2 0 rs.2 (hP5.below ((Below.refl _ _).drew)) (by simp [HH0.out]))
   have v0 := (HG5.out.alloc (.cells #[.pointer (some ⟨p2, 0, none⟩), .bool sat] 67)).cell 0
   have v1 := (HP4.out.alloc (.cells #[.pointer (some ⟨p2, 0, none⟩), .bool sat] 67)).cell 0
   clear hC5 hP5
   go_wp2_with fail
   refine HPG2.out.mono ?_
   rintro E w' ⟨rfl, rfl⟩
   clear HPG2
   go_wp2_with fail
   go_region_law (first
    | (go_simp; go_at_call 15; refine HE5.out.mono ?_; rintro E wq ⟨rfl, rfl⟩)
    | (go_simp; go_at_call 36; refine HF5.out.mono ?_; rintro E W6 ⟨rfl, hG6⟩; have HF6 := Lib.hid hG6; clear hG6))
   all_goals
    go_wp2_with fail
    go_end0
    have hb := HBB.out
    unfold WholePost
    dsimp only
    refine ⟨rfl, ⟨p2, hb.2.2.2.1, (HQQ.out p2 _ _ _ hb.2.2.2.1 (HQQ.out p2 _ _ none hb.2.2.2.1 HQ4.out ((World.grownBy_alloc _ _ none).trans (grown_below ((Below.refl _ _).drew) none)) (fun k e => by cases e)) HF6.out.2 (fun k e => by injection e with e; exact .inl e.symm))⟩, ?_, ((hb.2.2.2.2.alloc _).grown (grown_below ((Below.refl _ _).drew) none) (fun r e => by cases e)).grown HF6.out.2 (fun r e => by injection e with e; left; exact e.symm)⟩
    rw [show backP rs bs.length = rs.2 by simp [backP, HH0.out]]
    exact HF6.out.1
set_option maxRecDepth 100000 in
set_option maxHeartbeats 1000000 in
theorem wholeg_two (Q : Nat → World → Prop) (g : FuncId) (hent : Enters Tryz.prog g) (W : World) (p q m bm bn : Nat) (B : List Int) (a : Nat) (e : Int) (sat : Bool) (rs : Nat × Int) (hC : Cur W p q B a e) (hB : Byts B) (he : (pieceM B a e).2.2 = 0) (hbs : Byts (pieceM B a e).1) (hmW : m < W.heap.size) (hmp : m ≠ p) (hmq : 0 < B.length → m ≠ q)
  (hQ : ∀ p2 Y Z row, W.heap.size ≤ p2 → Q p2 Y → Y.grownBy Z row → (∀ k, row = some k → k = p ∨ k = p2) → Q p2 Z)
  (hcl : ∀ X p2 q2, W.heap.size ≤ p2 → p2 < X.heap.size → (0 < (pieceM B a e).1.length → W.heap.size ≤ q2) → Cur X p2 q2 (pieceM B a e).1 0 0 → W.grownBy X (some p) →
   Calls Tryz.prog g #[.agg #[.pointer (some ⟨p2, 0, none⟩), .bool sat], .pointer (some ⟨bm, 0, none⟩), .pointer (some ⟨bn, 0, none⟩)] X fun E Y => E = .returned (.tuple #[]) ∧ Q p2 Y ∧ Cur Y p2 q2 (pieceM B a e).1 rs.1 rs.2 ∧ G2 X Y p2 m) :
  Calls Tryz.prog 42 #[.agg #[.pointer (some ⟨p, 0, none⟩), .bool sat], .func (.func g) #[] #[.pointer (some ⟨bm, 0, none⟩), .pointer (some ⟨bn, 0, none⟩)]] W (WholePost Q W p q m B (pieceM B a e) rs) := by
 have hpl := hC.lt
 have hu := rdOf_u32' (a := a) (e := e) hB
 have hin : ∀ args w, Sem.run Tryz.prog (callFunc g args) w = .ok (.enter g args) w := hent
 have hC1 := hC.alloc (.cells #[.pointer (some ⟨p, 0, none⟩), .bool sat] 67)
 have HU := Lib.hid (fun X (h : Cur X p q B a e) => U32_any X p q B a e h hB)
 have hpm : pieceM B a e = rdL (takeM B (rdOf (u32M B a) a e).2.1 (rdOf (u32M B a) a e).1.toNat) (rdOf (u32M B a) a e).2.1 (rdOf (u32M B a) a e).2.2 := rfl
 rw [hpm] at he hbs hcl ⊢
 clear hpm
 generalize rdOf (u32M B a) a e = r at *
 obtain ⟨n, a1, e1⟩ := r
 dsimp only at hu he hbs hcl ⊢
 obtain ⟨k, rfl⟩ := Int.eq_ofNat_of_zero_le hu.1
 rw [Int.toNat_natCast] at he hbs hcl ⊢
 have HT := Lib.hid (fun X (h : Cur X p q B a1 e1) => Take_any X p q B a1 k e1 h hB (by omega))
 generalize rdL (takeM B a1 k) a1 e1 = t at *
 obtain ⟨bs, a2, e2⟩ := t
 dsimp only at he hbs hcl ⊢
 subst he
 have HBS := Lib.hid hbs
 have HC := Lib.hid hC1
 have hx := Blk.new W #[.pointer (some ⟨p, 0, none⟩), .bool sat] 67
 obtain ⟨X, hX⟩ : ∃ X, W.alloc (.cells #[.pointer (some ⟨p, 0, none⟩), .bool sat] 67) = X := ⟨_, rfl⟩
 rw [hX] at hx HC
 have HX := Lib.hid hx
 have hsX : W.heap.size < X.heap.size := hx.lt
 have HXE := Lib.hid hX
 have HGX := Lib.hid (hX ▸ World.grownBy_alloc W (.cells #[.pointer (some ⟨p, 0, none⟩), .bool sat] 67) (some p))
 have c0 : X.cell? ⟨W.heap.size, 0, none⟩ = some (.pointer (some ⟨p, 0, none⟩)) := hx.cell 0
 have c1 : X.cell? ⟨W.heap.size, 1, none⟩ = some (.bool sat) := hx.cell 1
 have hpx : p < X.heap.size := by omega
 have HNP := Lib.hid (show some W.heap.size ≠ some p from fun e => by injection e with e; omega)
 have HD := Lib.hid (fun Y (h : Blk Y W.heap.size #[.pointer (some ⟨p, 0, none⟩), .bool sat] 67) => h.cell 0 : ∀ Y, Blk Y W.heap.size #[.pointer (some ⟨p, 0, none⟩), .bool sat] 67 → Y.cell? ⟨W.heap.size, 0, none⟩ = some (.pointer (some ⟨p, 0, none⟩)))
 have HXG := Lib.hid (fun Y (h : X.drew.grownBy Y (some p)) => Blk.grown (Blk.drew hx) h HNP.out)
 have HMP := Lib.hid hmp
 have HQL := Lib.hid (fun hl => hC.qlt' hl : 0 < B.length → q < W.heap.size)
 have HML := Lib.hid hmW
 have HMQ := Lib.hid hmq
 have HQQ := Lib.hid hQ
 have HCL := Lib.hid hcl
 clear hC hC1 hB hu hX hx hbs hmp hmq hQ hcl hent hmW
 go_enter Tryz.func42, Tryz.ntmps42
 go_wp2_with fail
 rw [HXE.out]
 go_region_held3 (fun w' => w'.cell? ⟨W.heap.size, 0, none⟩ = some (.pointer (some ⟨p, 0, none⟩)))
  (first
   | exact c0
   | exact d2
   | exact d1)
  (first
   | (go_at_call 71; refine (HT.out _ hG1.1).mono ?_; rintro E W2 ⟨⟨v, rfl, hO⟩, hG2⟩; have hB2 := Blk.grown hB1 hG2.2 HNP.out; have d2 := HD.out _ hB2)
   | (go_at_call 34; refine (HU.out _ (HC.out.below ((Below.refl _ _).drew))).mono ?_; rintro E W1 ⟨rfl, hG1⟩; have hB1 := HXG.out _ hG1.2; have d1 := HD.out _ hB1))
 have x1 : W2.cell? ⟨W.heap.size, 1, none⟩ = some (.bool sat) := hB2.cell 1
 have hwl := hB2.lt
 have HPG := Lib.hid (pgood_any W2 p q B a2 0 sat true hG2.1 rfl)
 have HG := Lib.hid ((HGX.out.trans (⟨hG1.2.os, hG1.2.tape, hG1.2.output, hG1.2.size, hG1.2.block⟩ : X.grownBy W1 (some p))).trans hG2.2)
 have HGW := Lib.hid (show W.grownBy W2 (some p) from HG.out)
 have HC2 := Lib.hid hG2.1
 have HB2 := Lib.hid hB2
 obtain ⟨AV, kV, rfl, lV, FV⟩ := hO.reads
 have HFV := Lib.hid FV
 clear hG1 hB1 d1 hG2 hO hB2 FV
 go_wp2_with fail
 refine HPG.out.mono ?_
 rintro E w' ⟨rfl, rfl⟩
 go_wp2_with fail
 obtain ⟨W3, hW3⟩ : ∃ W3, W2.alloc (.cells #[.pointer (some ⟨p, 0, none⟩), .bool sat] 67) = W3 := ⟨_, rfl⟩
 have hB23 : Below W2.heap.size W2 W3 := hW3 ▸ (Below.refl _ _).alloc (Nat.le_refl _) _
 have HB23 := Lib.hid hB23
 have HRD := Lib.hid (fun Y (h : Below W3.heap.size W3 Y) => C_rdI (Kd.C_below HFV.out.now (hB23.trans (h.mono hB23.size))) (by have := HBS.out.1; omega))
 have HZ := Lib.hid (fun Y (h : Below (W3.alloc (.cells #[.pointer none, .bool false] 67)).drew.heap.size (W3.alloc (.cells #[.pointer none, .bool false] 67)).drew Y) => (by
  have hb := (Blk.drew (Blk.new W3 #[.pointer none, .bool false] 67)).below h (by show W3.heap.size < (W3.alloc _).heap.size; rw [World.size_alloc]; omega)
  exact ⟨hb.cell 0, hb.cell 1, hb.frozen 0, hb.frozen 1, hb.lt⟩ : Y.cell? ⟨W3.heap.size, 0, none⟩ = some (.pointer none) ∧ Y.cell? ⟨W3.heap.size, 1, none⟩ = some (.bool false) ∧ Y.frozen? ⟨W3.heap.size, 0, none⟩ = false ∧ Y.frozen? ⟨W3.heap.size, 1, none⟩ = false ∧ W3.heap.size < Y.heap.size))
 have HZ2 := Lib.hid (fun Y (h : Below (W3.alloc (.cells #[.pointer none, .bool false] 67)).drew.heap.size (W3.alloc (.cells #[.pointer none, .bool false] 67)).drew Y) => (Blk.drew (Blk.new W3 #[.pointer none, .bool false] 67)).below h (by show W3.heap.size < (W3.alloc _).heap.size; rw [World.size_alloc]; omega))
 have HS1 := Lib.hid (fun Y (h : Below W3.heap.size W3 Y) => pw_cell_below h (show W3.cell? ⟨W.heap.size, 1, none⟩ = some (.bool sat) from pw_cell_below hB23 x1))
 have y1 := HS1.out W3 (Below.refl _ _)
 have hw3 : W.heap.size < W3.heap.size := by have := hB23.size; omega
 have HBN := Lib.hid (⟨(Below.refl W3.heap.size W3).drew, ((Below.refl W3.heap.size W3).alloc (Nat.le_refl _) (.cells #[.pointer none, .bool false] 67)).drew⟩ : Below W3.heap.size W3 W3.drew ∧ Below W3.heap.size W3 (W3.alloc (.cells #[.pointer none, .bool false] 67)).drew)
 rw [hW3]
 clear hW3 hB23 x1 d2 hwl
 go_cut [5] (fun s5 wx => ∃ g5 p2 q2, s5 = .pointer (some ⟨g5, 0, none⟩) ∧ Hid (Blk wx g5 #[.pointer (some ⟨p2, 0, none⟩), .bool sat] 67 ∧ Cur wx p2 q2 bs 0 0 ∧ Below W3.heap.size W3 wx ∧ W3.heap.size ≤ g5 ∧ W3.heap.size ≤ p2 ∧ (0 < bs.length → W3.heap.size ≤ q2)))
 case first =>
  go_region_law (first
   | (go_simp; go_at_call 12; refine (New_own _ AV kV bs (HRD.out _ HBN.out.1) HBS.out).mono ?_; rintro E wn ⟨p2, q2, hp2, hq2, rfl, hC2n, hBn⟩; have hBw : Below W3.heap.size W3 wn := HBN.out.1.trans (hBn.mono HBN.out.1.size); have y2 := HS1.out wn hBw; have y3 := HS1.out _ (hBw.alloc hBw.size (.cells #[.pointer none, .bool false] 67)); have hzb := Blk.new wn #[.pointer none, .bool false] 67; have q0 := hzb.cell 0; have q1 := hzb.cell 1; have r0 := hzb.frozen 0; have r1 := hzb.frozen 1; have hzl := hzb.lt; have HZB := Lib.hid hzb; clear hzb)
   | (go_simp; go_at_call 12; refine (New_own _ AV kV bs (HRD.out _ HBN.out.2) HBS.out).mono ?_; rintro E wn ⟨p2, q2, hp2, hq2, rfl, hC2n, hBn⟩; have hBw : Below W3.heap.size W3 wn := HBN.out.2.trans (hBn.mono HBN.out.2.size); have y2 := HS1.out wn hBw; have hq := HZ.out wn hBn; have q0 := hq.1; have q1 := hq.2.1; have r0 := hq.2.2.1; have r1 := hq.2.2.2.1; have hzl := hq.2.2.2.2; clear hq; have HZB := Lib.hid (HZ2.out wn hBn)))
  all_goals go_wp2_with fail
  all_goals go_meet
  all_goals first
   | exact ⟨_, p2, q2, rfl, Lib.hid ⟨Blk.new wn _ _, hC2n.alloc _, hBw.alloc hBw.size _, hBw.size, hp2, hq2⟩⟩
   | skip
  all_goals
   have hs3 : W3.heap.size < (W3.alloc (.cells #[.pointer none, .bool false] 67)).heap.size := by rw [World.size_alloc]; omega
   have hlq : 0 < bs.length → W3.heap.size ≤ q2 := fun hl => Nat.le_trans (Nat.le_of_lt hs3) (hq2 hl)
   have hn : 0 < bs.length → W3.heap.size ≠ q2 := fun hl he => absurd (Nat.lt_of_lt_of_le hs3 (hq2 hl)) (by omega)
   have hne : W3.heap.size ≠ p2 := by
    have h9 : (W3.alloc (.cells #[.pointer none, .bool false] 67)).heap.size ≤ p2 := hp2
    rw [World.size_alloc] at h9; omega
   have hle : W3.heap.size ≤ p2 := by
    have h9 : (W3.alloc (.cells #[.pointer none, .bool false] 67)).heap.size ≤ p2 := hp2
    rw [World.size_alloc] at h9; omega
   exact ⟨_, p2, q2, rfl, Lib.hid ⟨(HZB.out.set 0 _).set 1 _, (hC2n.other _ _ _ hne hn).other _ _ _ hne hn, (hBw.grown (gset wn W3.heap.size 0 _) hBw.size (fun k hk => by cases hk; exact Nat.le_refl _)).grown (gset _ W3.heap.size 1 _) (by have := hBw.size; simpa [World.setCell] using this) (fun k hk => by cases hk; exact Nat.le_refl _), Nat.le_refl _, hle, hlq⟩⟩
 case rest =>
  obtain ⟨g5, p2, q2, rfl, HS⟩ := hcut
  have hpW := hpl
  have hB2c : Below W2.heap.size W2 wc := HB23.out.trans (HS.out.2.2.1.mono HB23.out.size)
  have hw2l : W.heap.size < W2.heap.size := HB2.out.lt
  have hGw : W.grownBy wc (some p) := HGW.out.trans (grown_below hB2c (some p))
  have hPc : Blk wc W.heap.size #[.pointer (some ⟨p, 0, none⟩), .bool sat] 67 := HB2.out.below hB2c hw2l
  have hml := HML.out
  have hw3l := HB23.out.size
  have hmp2 : m ≠ p2 := by have := HS.out.2.2.2.2.1; omega
  have HK := Lib.hid (HCL.out wc p2 q2 (by have := HS.out.2.2.2.2.1; omega) HS.out.2.1.lt (fun hl => by have := HS.out.2.2.2.2.2 hl; omega) HS.out.2.1 hGw)
  have HPC := Lib.hid hPc
  have HGW2 := Lib.hid hGw
  have s0 : wc.cell? ⟨g5, 0, none⟩ = some (.pointer (some ⟨p2, 0, none⟩)) := HS.out.1.cell 0
  have s1 : wc.cell? ⟨g5, 1, none⟩ = some (.bool sat) := HS.out.1.cell 1
  have hCc : Cur wc p q B a2 0 := HC2.out.below hB2c
  have HCC := Lib.hid hCc
  clear hB2c hw2l hGw hPc hCc
  go_wp2_with fail
  have hgp : g5 ≠ p2 := fun e => by
   subst e
   obtain ⟨_, _, A, c, _, h3, _⟩ := HS.out.2.1
   have h9 := HS.out.1.symm.trans h3
   injection h9 with h9; injection h9 with h9; simp at h9
  refine HK.out.mono ?_
  rintro E W4 ⟨rfl, hQ4, hC4, hG4⟩
  have hgm : g5 ≠ m := by have := HS.out.2.2.2.1; omega
  have hg4 : Blk W4 g5 #[.pointer (some ⟨p2, 0, none⟩), .bool sat] 67 := HS.out.1.g2 hG4 hgp hgm
  have hpp : p ≠ p2 := by have := HS.out.2.2.2.2.1; omega
  have hpW4 : Blk W4 W.heap.size #[.pointer (some ⟨p, 0, none⟩), .bool sat] 67 := HPC.out.g2 hG4 (by have := HS.out.2.2.2.2.1; omega) (by omega)
  have hCp : Cur W4 p q B a2 0 := Cur_g2 HCC.out hG4 hpp HMP.out.symm (fun hl => ⟨by have := HS.out.2.2.2.2.1; have := HQL.out hl; omega, fun e => HMQ.out hl e.symm⟩)
  have HQ4 := Lib.hid hQ4
  have HG4 := Lib.hid hG4
  have HC4 := Lib.hid hC4
  have HCP := Lib.hid hCp
  have t0 := hg4.cell 0
  have t1 := hg4.cell 1
  have HG5 := Lib.hid hg4
  have HP4 := Lib.hid hpW4
  clear hQ4 hG4 hC4 hCp s0 s1 HK hg4 hpW4
  have HBB := Lib.hid (⟨HS.out.2.1.lt, by have := HGW2.out.size; omega, HGW2.out.size, by have := HS.out.2.2.2.2.1; omega, G2_up (G2.of_grown HGW2.out (fun k e => by injection e with e; left; exact e.symm)) HG4.out (by have := HS.out.2.2.2.2.1; omega)⟩ : p2 < wc.heap.size ∧ p < wc.heap.size ∧ W.heap.size ≤ wc.heap.size ∧ W.heap.size ≤ p2 ∧ G2 W W4 p m)
  by_cases h0 : rs.2 = 0
  ·have HH0 := Lib.hid h0
   have HPG2 := Lib.hid (pgood_any W4 p2 q2 bs rs.1 rs.2 sat true HC4.out (by rw [h0]; rfl))
   clear h0
   have HL := Lib.hid (left_any _ p2 q2 bs rs.1 rs.2 (HC4.out.alloc (.cells #[.pointer (some ⟨p2, 0, none⟩), .bool sat] 67)) HBS.out)
   go_wp2_with fail
   refine HPG2.out.mono ?_
   rintro E w' ⟨rfl, rfl⟩
   have v0 := (HG5.out.alloc (.cells #[.pointer (some ⟨p2, 0, none⟩), .bool sat] 67)).cell 0
   go_wp2_with fail
   refine HL.out.mono ?_
   rintro E W5 ⟨rfl, hG5⟩
   have hP5 : Blk W5 W.heap.size #[.pointer (some ⟨p, 0, none⟩), .bool sat] 67 := (HP4.out.alloc _).grown hG5.2 (by have := HS.out.2.2.2.2.1; simp; omega)
   have hC5 : Cur W5 p q B a2 0 := (HCP.out.alloc _).grown' hG5.2 (by simpa using hpp) (fun hl => by have := HS.out.2.2.2.2.1; have := HQL.out hl; simp; omega)
   have z0 := hP5.cell 0
   have HF := Lib.hid (Fail_any W5 p q B a2 0 105 hC5 rfl)
   have HP5 := Lib.hid hP5
   have HC5 := Lib.hid hC5
   have HG6 := Lib.hid hG5
   clear v0 hG5 hP5 hC5 HL HPG2
   by_cases h7 : rs.1 < bs.length
   ·have h8 : decide ((bs.length : Int) - (rs.1 : Int) > 0) = true := by simp; omega
    have H7 := Lib.hid h7
    clear h7
    go_wp2_with fail
    refine HF.out.mono ?_
    rintro E W6 ⟨rfl, hG6⟩
    have HF6 := Lib.hid hG6
    clear hG6 HF
    go_wp2_with fail
    go_end0
    have hb := HBB.out
    unfold WholePost
    dsimp only
    refine ⟨rfl, ⟨p2, hb.2.2.2.1, (HQQ.out p2 _ _ _ hb.2.2.2.1 (HQQ.out p2 _ _ _ hb.2.2.2.1 (HQQ.out p2 _ _ none hb.2.2.2.1 HQ4.out (World.grownBy_alloc _ _ none) (fun k e => by cases e)) HG6.out.2 (fun k e => by injection e with e; exact .inr e.symm)) HF6.out.2 (fun k e => by injection e with e; exact .inl e.symm))⟩, ?_, ((hb.2.2.2.2.alloc _).grown HG6.out.2 (fun r e => by injection e with e; have := HS.out.2.2.2.2.1; right; right; omega)).grown HF6.out.2 (fun r e => by injection e with e; left; exact e.symm)⟩
    rw [show backP rs bs.length = 105 by simp [backP, HH0.out, H7.out]]
    exact HF6.out.1
   ·have h8 : decide ((bs.length : Int) - (rs.1 : Int) > 0) = false := by simp; omega
    have H7 := Lib.hid h7
    clear h7
    go_wp2_with fail
    go_end0
    have hb := HBB.out
    unfold WholePost
    dsimp only
    refine ⟨rfl, ⟨p2, hb.2.2.2.1, (HQQ.out p2 _ _ _ hb.2.2.2.1 (HQQ.out p2 _ _ none hb.2.2.2.1 HQ4.out (World.grownBy_alloc _ _ none) (fun k e => by cases e)) HG6.out.2 (fun k e => by injection e with e; exact .inr e.symm))⟩, ?_, (hb.2.2.2.2.alloc _).grown HG6.out.2 (fun r e => by injection e with e; have := HS.out.2.2.2.2.1; right; right; omega)⟩
    rw [show backP rs bs.length = 0 by simp [backP, HH0.out, H7.out]]
    exact HC5.out
  ·have HH0 := Lib.hid h0
   have HPG2 := Lib.hid (pgood_any W4 p2 q2 bs rs.1 rs.2 sat false HC4.out (by simp [h0]))
   clear h0
   have hC5 := HC4.out.alloc (.cells #[.pointer (some ⟨p2, 0, none⟩), .bool sat] 67)
   have hP5 := HCP.out.alloc (.cells #[.pointer (some ⟨p2, 0, none⟩), .bool sat] 67)
   have HE5 := Lib.hid (err_any _ p2 q2 bs rs.1 rs.2 (hC5.below ((Below.refl _ _).drew)))
   have HF5 := Lib.hid (Fail_any _ p q B a2 0 rs.2 (hP5.below ((Below.refl _ _).drew)) (by simp [HH0.out]))
   have v0 := (HG5.out.alloc (.cells #[.pointer (some ⟨p2, 0, none⟩), .bool sat] 67)).cell 0
   have v1 := (HP4.out.alloc (.cells #[.pointer (some ⟨p2, 0, none⟩), .bool sat] 67)).cell 0
   clear hC5 hP5
   go_wp2_with fail
   refine HPG2.out.mono ?_
   rintro E w' ⟨rfl, rfl⟩
   clear HPG2
   go_wp2_with fail
   go_region_law (first
    | (go_simp; go_at_call 15; refine HE5.out.mono ?_; rintro E wq ⟨rfl, rfl⟩)
    | (go_simp; go_at_call 36; refine HF5.out.mono ?_; rintro E W6 ⟨rfl, hG6⟩; have HF6 := Lib.hid hG6; clear hG6))
   all_goals
    go_wp2_with fail
    go_end0
    have hb := HBB.out
    unfold WholePost
    dsimp only
    refine ⟨rfl, ⟨p2, hb.2.2.2.1, (HQQ.out p2 _ _ _ hb.2.2.2.1 (HQQ.out p2 _ _ none hb.2.2.2.1 HQ4.out ((World.grownBy_alloc _ _ none).trans (grown_below ((Below.refl _ _).drew) none)) (fun k e => by cases e)) HF6.out.2 (fun k e => by injection e with e; exact .inl e.symm))⟩, ?_, ((hb.2.2.2.2.alloc _).grown (grown_below ((Below.refl _ _).drew) none) (fun r e => by cases e)).grown HF6.out.2 (fun r e => by injection e with e; left; exact e.symm)⟩
    rw [show backP rs bs.length = rs.2 by simp [backP, HH0.out]]
    exact HF6.out.1
end Go.Proofs.YtofaiocffifhfaaGreat
end
section
namespace Go.Proofs.YtofaiocffifhfaaGreat
open Go.RowKit Go.Shelf YtofaiocffifhfaaGreatB Go.Proofs.YtofaiocffifhfaaGreatW.PrintWords
theorem Locals_any (W : World) (p q : Nat) (B : List Int) (a : Nat) (e : Int) (hC : Cur W p q B a e) (hB : Byts B) :
  Calls Tryz.prog 13 #[.pointer (some ⟨p, 0, none⟩)] W (LocPost W p q B (locM B a e)) := by
 rcases hC.qlt with h | h
 ·subst h
  have hplt := hC.lt
  refine (Locals_q W p (W.heap.size + 2) [] a e (hC.anyq (by omega)) hB (by omega)).mono ?_
  rintro E w' ⟨h1, h2, h3⟩
  exact ⟨h1, h2.anyq hC.1, h3⟩
 ·exact Locals_q W p q B a e hC hB (by omega)
end Go.Proofs.YtofaiocffifhfaaGreat
end
section
namespace Go.Proofs.YtofaiocffifhfaaGreat
open Go.RowKit Go.Shelf YtofaiocffifhfaaGreatB Go.Proofs.YtofaiocffifhfaaGreatW.PrintWords
def bod1M (sat : Bool) (B : List Int) : (List Int × List Ins) × Nat × Int :=
 let l := locM B 0 0
 let x := exprM sat B l.2.1 l.2.2
 ((l.1, x.1), x.2)
def FnBlk (ok : Nat → Prop) (X : World) (bf : Nat) (x : List Int × List Ins) : Prop :=
 ∃ A1 c1 A2 c2, Blk X bf #[.int .u32 0, .slice A1 x.1.length c1, .slice A2 x.2.length c2] 75 ∧ x.1.length ≤ c1 ∧ x.2.length ≤ c2 ∧ FC (rng .u8) X ok A1 x.1 ∧ FC kI X ok A2 x.2
def Bod1Post (W : World) (p q bf : Nat) (B : List Int) (r : (List Int × List Ins) × Nat × Int) (E : Ending) (Y : World) : Prop :=
 E = .returned (.tuple #[]) ∧ FnBlk (fun k => W.heap.size ≤ k) Y bf r.1 ∧ Cur Y p q B r.2.1 r.2.2 ∧ G2 W Y p bf
set_option maxRecDepth 100000 in
set_option maxHeartbeats 1000000 in
theorem body1_any (W : World) (p q bf : Nat) (B : List Int) (sat : Bool) (hC : Cur W p q B 0 0) (hB : Byts B) (hb : Blk W bf #[.int .u32 0, .slice none 0 0, .slice none 0 0] 75) (hbp : bf ≠ p) (hbq : 0 < B.length → bf ≠ q) :
  Calls Tryz.prog 115 #[.agg #[.pointer (some ⟨p, 0, none⟩), .bool sat], .pointer (some ⟨bf, 0, none⟩)] W (Bod1Post W p q bf B (bod1M sat B)) := by
 have hpl := hC.lt
 have hbl := hb.lt
 have HP := Lib.hid (Lc.new (p := p) W #[.pointer (some ⟨p, 0, none⟩), .bool sat] 67 hpl)
 have HF := Lib.hid ((⟨hb, hbp⟩ : Lc p W bf #[.int .u32 0, .slice none 0 0, .slice none 0 0] 75).alloc (.cells #[.pointer (some ⟨p, 0, none⟩), .bool sat] 67))
 have H1 := Lib.hid (Locals_any _ p q B 0 0 (hC.alloc (.cells #[.pointer (some ⟨p, 0, none⟩), .bool sat] 67)) hB)
 obtain ⟨R, hR⟩ : ∃ R, R = bod1M sat B := ⟨_, rfl⟩
 rw [← hR]
 unfold bod1M at hR
 generalize locM B 0 0 = r0 at *
 obtain ⟨l1, a1, e1⟩ := r0
 dsimp only at hR
 have H2 := Lib.hid (fun X (h : Cur X p q B a1 e1) => pexpr_any X p q B a1 e1 sat h hB)
 generalize exprM sat B a1 e1 = r1 at *
 obtain ⟨l2, a2, e2⟩ := r1
 dsimp only at hR
 subst hR
 have HBP := Lib.hid hbp
 have HBQ := Lib.hid hbq
 have p0 := HP.out.c0
 have p1 := HP.out.c1
 clear hC hB hb hbp hbq
 go_enter Tryz.func115, Tryz.ntmps115
 go_wp2_with fail
 refine H1.out.mono ?_
 rintro E W1 ⟨⟨v, rfl, hO⟩, hG⟩
 have hz1 := hG.2.size
 rw [World.size_alloc] at hz1
 obtain ⟨A1, c1, rfl, hl1, hF1⟩ := hO.reads
 replace HP := Lib.hid (HP.out.goes hG)
 replace HF := Lib.hid (HF.out.goes hG)
 have HG1 := Lib.hid (((G2.refl W p bf).alloc (.cells #[.pointer (some ⟨p, 0, none⟩), .bool sat] 67)).grown hG.2 (fun r e => by injection e with e; exact .inl e.symm))
 have HC1 := Lib.hid hG.1
 have HF1 := Lib.hid (fc_mono hF1 (ok' := fun k => W.heap.size < k) (fun k hk => by rw [World.size_alloc] at hk; have hk := hk.elim (fun h => h.elim) id; omega))
 have HL1 := Lib.hid hl1
 have f1 := HF.out.c1
 have ff1 := HF.out.fz 1
 have fl := HF.out.lt
 replace p0 := HP.out.c0
 replace p1 := HP.out.c1
 have pl := HP.out.lt
 have hne : bf ≠ W.heap.size := by omega
 clear hG hO hF1 hl1 H1
 go_wp2_with fail
 have HC2 := Lib.hid (HC1.out.other bf 1 (.slice A1 l1.length c1) HBP.out HBQ.out)
 have HG2 := Lib.hid (HG1.out.set bf 1 (.slice A1 l1.length c1) (.inr (.inl rfl)))
 have HP2 := Lib.hid (HP.out.other bf 1 (.slice A1 l1.length c1) hne.symm)
 have HF2 := Lib.hid (HF.out.s1 (.slice A1 l1.length c1))
 have HR2 := Lib.hid (fc_set HF1.out bf 1 (.slice A1 l1.length c1) (fun k (hk : W.heap.size < k) => by omega))
 refine (H2.out _ HC2.out).mono ?_
 rintro E W3 ⟨⟨A2, c2, rfl, hl2, hF2⟩, hG⟩
 have hz3 : W1.heap.size ≤ W3.heap.size := by have := hG.2.size; simpa [World.setCell] using this
 have HC3 := Lib.hid hG.1
 have HG3 := Lib.hid (HG2.out.grown hG.2 (fun r e => by injection e with e; exact .inl e.symm))
 have HF3 := Lib.hid (HF2.out.goes hG)
 have HR3 := Lib.hid (fc_goes HR2.out hG (fun k (hk : W.heap.size < k) => by omega))
 have HR4 := Lib.hid (fc_mono hF2 (ok' := fun k => W.heap.size < k) (fun k hk => by have hk : W1.heap.size ≤ k := (by simpa [World.setCell] using hk); omega))
 have HL2 := Lib.hid hl2
 have g2 := HF3.out.c2
 have gf2 := HF3.out.fz 2
 have gl := HF3.out.lt
 clear hG hF2 hl2 H2 HF HP HC1 f1 ff1 p0 p1
 go_wp2_with fail
 go_end0
 refine ⟨rfl, ⟨A1, c1, A2, c2, (HF3.out.s2 (.slice A2 l2.length c2)).blk, HL1.out, HL2.out, ?_, ?_⟩, HC3.out.other bf 2 _ HBP.out HBQ.out, HG3.out.set bf 2 _ (.inr (.inl rfl))⟩
 ·exact fc_mono (fc_set HR3.out bf 2 _ (fun k (hk : W.heap.size < k) => by omega)) (fun k hk => by omega)
 ·exact fc_mono (fc_set HR4.out bf 2 _ (fun k (hk : W.heap.size < k) => by omega)) (fun k hk => by omega)
end Go.Proofs.YtofaiocffifhfaaGreat
end
section
namespace Go.Proofs.YtofaiocffifhfaaGreat
open Go.RowKit Go.Shelf YtofaiocffifhfaaGreatB Go.Proofs.YtofaiocffifhfaaGreatW.PrintWords
theorem St.g2 {W X Y : World} {p q b : Nat} {B : List Int} {a a' : Nat} {e e' : Int} (h : St W X p q B a e) (hG : G2 X Y p b) (hb : W.heap.size ≤ b) (hC : Cur Y p q B a' e') : St W Y p q B a' e' :=
 ⟨hC, ⟨hG.os.trans h.g.os, hG.tape.trans h.g.tape, hG.output.trans h.g.output, Nat.le_trans h.g.size hG.size, fun k hk hkp => (hG.block k (Nat.lt_of_lt_of_le hk h.g.size) (fun e => hkp (by rw [e])) (by omega)).trans (h.g.block k hk hkp)⟩, h.hp, h.hq⟩
theorem Lc.g2 {p : Nat} {X Y : World} {b b' : Nat} {cs : Array Value} {t : TypeId} (h : Lc p X b cs t) (hG : G2 X Y p b') (hb : b ≠ b') : Lc p Y b cs t := ⟨h.blk.g2 hG h.ne hb, h.ne⟩
theorem ent_body1 : Enters Tryz.prog 115 := enters_of Tryz.func115 (by kernel_rfl) rfl
theorem FnBlk.grown {ok : Nat → Prop} {X Y : World} {bf : Nat} {x : List Int × List Ins} (h : FnBlk ok X bf x) {row : Option Nat} (hg : X.grownBy Y row) (hb : some bf ≠ row) (hr : ∀ k, ok k → some k ≠ row) : FnBlk ok Y bf x := by
 obtain ⟨A1, c1, A2, c2, h1, h2, h3, h4, h5⟩ := h
 exact ⟨A1, c1, A2, c2, h1.grown hg hb, h2, h3, h4.grown hg hr, h5.grown hg hr⟩
theorem FnBlk.mono {ok ok' : Nat → Prop} {X : World} {bf : Nat} {x : List Int × List Ins} (h : FnBlk ok X bf x) (hr : ∀ k, ok k → ok' k) : FnBlk ok' X bf x := by
 obtain ⟨A1, c1, A2, c2, h1, h2, h3, h4, h5⟩ := h
 exact ⟨A1, c1, A2, c2, h1, h2, h3, fc_mono h4 hr, fc_mono h5 hr⟩
def bodM (sat : Bool) (B : List Int) (a : Nat) (e : Int) : FnD × Nat × Int :=
 let t := pieceM B a e
 if t.2.2 = 0 then (⟨0, (bod1M sat t.1).1.1, (bod1M sat t.1).1.2⟩, t.2.1, backP (bod1M sat t.1).2 t.1.length) else (⟨0, [], []⟩, t.2.1, t.2.2)
set_option maxRecDepth 100000 in
set_option maxHeartbeats 1000000 in
theorem body_any (W : World) (p q : Nat) (B : List Int) (sat : Bool) (a : Nat) (e : Int) (hC : Cur W p q B a e) (hB : Byts B) :
  Calls Tryz.prog 88 #[.agg #[.pointer (some ⟨p, 0, none⟩), .bool sat]] W (RdPost kFn W p q B (bodM sat B a e)) := by
 have hpl := hC.lt
 have HS := Lib.hid ((((St.start hC).alloc (.cells #[.pointer (some ⟨p, 0, none⟩), .bool sat] 67)).alloc (.cells #[.int .u32 0, .slice none 0 0, .slice none 0 0] 75)).alloc (.cells #[.int .u32 0, .slice none 0 0, .slice none 0 0] 75))
 have hs1 : (W.alloc (.cells #[.pointer (some ⟨p, 0, none⟩), .bool sat] 67)).heap.size = W.heap.size + 1 := World.size_alloc _ _
 have hs2 : ((W.alloc (.cells #[.pointer (some ⟨p, 0, none⟩), .bool sat] 67)).alloc (.cells #[.int .u32 0, .slice none 0 0, .slice none 0 0] 75)).heap.size = W.heap.size + 2 := by rw [World.size_alloc, hs1]
 have HP := Lib.hid (((Lc.new (p := p) W #[.pointer (some ⟨p, 0, none⟩), .bool sat] 67 hpl).alloc (.cells #[.int .u32 0, .slice none 0 0, .slice none 0 0] 75)).alloc (.cells #[.int .u32 0, .slice none 0 0, .slice none 0 0] 75))
 have HO := Lib.hid ((Lc.newAt (p := p) (W.alloc (.cells #[.pointer (some ⟨p, 0, none⟩), .bool sat] 67)) #[.int .u32 0, .slice none 0 0, .slice none 0 0] 75 (by omega) hs1).alloc (.cells #[.int .u32 0, .slice none 0 0, .slice none 0 0] 75))
 have HT := Lib.hid (Lc.newAt (p := p) ((W.alloc (.cells #[.pointer (some ⟨p, 0, none⟩), .bool sat] 67)).alloc (.cells #[.int .u32 0, .slice none 0 0, .slice none 0 0] 75)) #[.int .u32 0, .slice none 0 0, .slice none 0 0] 75 (by omega) hs2)
 have hpb := piece_byts hB a e
 obtain ⟨R, hR⟩ : ∃ R, R = bodM sat B a e := ⟨_, rfl⟩
 rw [← hR]
 unfold bodM at hR
 dsimp only at hR
 have HB := Lib.hid hB
 have HPB := Lib.hid hpb
 clear hC hB hpb hs1 hs2
 go_enter Tryz.func88, Tryz.ntmps88
 go_upto_region 2 with (fail)
 generalize ((W.alloc (.cells #[.pointer (some ⟨p, 0, none⟩), .bool sat] 67)).alloc (.cells #[.int .u32 0, .slice none 0 0, .slice none 0 0] 75)).alloc (.cells #[.int .u32 0, .slice none 0 0, .slice none 0 0] 75) = W1 at *
 have p0 := HP.out.c0
 have p1 := HP.out.c1
 have tl := HT.out.lt
 by_cases he : (pieceM B a e).2.2 = 0
 ·rw [if_pos he] at hR
  have HE := Lib.hid he
  have HW := Lib.hid (wholeg_one (fun p2 Y => FnBlk (fun k => W1.heap.size ≤ k ∧ k ≠ p2) Y (W.heap.size + 2) (bod1M sat (pieceM B a e).1).1) 115 ent_body1 W1 p q (W.heap.size + 2) (W.heap.size + 2) 0 B a e sat (bod1M sat (pieceM B a e).1).2 HS.out.cur HB.out he HPB.out tl HT.out.ne (fun hl => by have := HS.out.hq hl; omega)
   (fun p2 Y Z row hp2 hQ hg hr => hQ.grown hg (fun e => by rcases hr _ e.symm with h | h <;> omega) (fun k hk e => by rcases hr _ e.symm with h | h <;> omega))
   (fun X p2 q2 hp2 hpX hq2 hC2 hg => by
    have ht : Blk X (W.heap.size + 2) #[.int .u32 0, .slice none 0 0, .slice none 0 0] 75 := HT.out.blk.grown hg (fun e => by injection e with e; exact HT.out.ne e)
    refine (body1_any X p2 q2 (W.heap.size + 2) (pieceM B a e).1 sat hC2 HPB.out ht (by omega) (fun hl => by have := hq2 hl; omega)).mono ?_
    rintro E Y ⟨rfl, h1, h2, h3⟩
    exact ⟨rfl, h1.mono (fun k hk => by have := hg.size; omega), h2, h3⟩))
  generalize bod1M sat (pieceM B a e).1 = r at *
  obtain ⟨⟨l1, l2⟩, rs⟩ := r
  dsimp only at hR HW
  clear he
  go_wp2_with fail
  refine HW.out.mono ?_
  rintro E W2 ⟨rfl, ⟨p2, hp2, A1, c1, A2, c2, hb, hl1, hl2, hF1, hF2⟩, hC2, hG⟩
  have HT2 := Lib.hid (⟨hb, HT.out.ne⟩ : Lc p W2 (W.heap.size + 2) #[.int .u32 0, .slice A1 l1.length c1, .slice A2 l2.length c2] 75)
  have HS2 := Lib.hid (HS.out.g2 hG (by omega) hC2)
  have HO2 := Lib.hid (HO.out.g2 hG (by omega))
  have HF1 := Lib.hid (fc_mono hF1 (ok' := fun k => W.heap.size + 1 < k) (fun k hk => by omega))
  have HF2 := Lib.hid (fc_mono hF2 (ok' := fun k => W.heap.size + 1 < k) (fun k hk => by omega))
  have HL1 := Lib.hid hl1
  have HL2 := Lib.hid hl2
  have t0 := HT2.out.c0
  have t1 := HT2.out.c1
  have t2 := HT2.out.c2
  have o0 := HO2.out.c0
  have o1 := HO2.out.c1
  have o2 := HO2.out.c2
  have fo0 := HO2.out.fz 0
  have fo1 := HO2.out.fz 1
  have fo2 := HO2.out.fz 2
  have lo := HO2.out.lt
  clear hb hl1 hl2 hF1 hF2 hC2 hG p0 p1 HW HT HS HO HP
  subst hR
  go_wp2_with fail
  refine bodyPost_ret (v := .agg #[.int .u32 0, .slice A1 l1.length c1, .slice A2 l2.length c2]) (by simp [results, Tryz.results88, go_sem, o0, o1, o2, lo]) rfl ⟨⟨[.int .u32 0, .slice A1 l1.length c1, .slice A2 l2.length c2], rfl, ?_⟩, St.fin (W := W) ?_⟩
  ·exact fn_mk (x := ⟨0, l1, l2⟩) (by omega : (0 : Int) ≤ 0 ∧ (0 : Int) ≤ 4294967295) (fc_mono (by (repeat (first | with_reducible exact HF1.out | (with_reducible refine fc_set ?_ _ _ _ ?_; rotate_left; exact (fun k (hk : _ < k) => by omega)) | with_reducible refine fc_alloc ?_ _ | with_reducible refine fc_drew ?_)) : FC (rng .u8) _ (fun k => W.heap.size + 1 < k) A1 l1) (fun k hk => by omega)) HL1.out (fc_mono (by (repeat (first | with_reducible exact HF2.out | (with_reducible refine fc_set ?_ _ _ _ ?_; rotate_left; exact (fun k (hk : _ < k) => by omega)) | with_reducible refine fc_alloc ?_ _ | with_reducible refine fc_drew ?_)) : FC kI _ (fun k => W.heap.size + 1 < k) A2 l2) (fun k hk => by omega)) HL2.out
  ·(repeat (first | with_reducible exact HS2.out | (with_reducible refine St.set ?_ _ _ _ ?_; rotate_left; omega) | with_reducible refine St.alloc ?_ _ | with_reducible refine St.drew ?_))
 ·rw [if_neg he] at hR
  have HW := Lib.hid (whole_bad W1 p q B a e sat (.func (.func 115) #[] #[.pointer (some ⟨W.heap.size + 2, 0, none⟩)]) HS.out.cur HB.out (beq_eq_false_iff_ne.2 he))
  clear he
  go_wp2_with fail
  refine HW.out.mono ?_
  rintro E W2 ⟨rfl, hG⟩
  have HT2 := Lib.hid (HT.out.goes hG)
  have HS2 := Lib.hid (HS.out.goes hG)
  have HO2 := Lib.hid (HO.out.goes hG)
  have t0 := HT2.out.c0
  have t1 := HT2.out.c1
  have t2 := HT2.out.c2
  have o0 := HO2.out.c0
  have o1 := HO2.out.c1
  have o2 := HO2.out.c2
  have fo0 := HO2.out.fz 0
  have fo1 := HO2.out.fz 1
  have fo2 := HO2.out.fz 2
  have lo := HO2.out.lt
  clear hG p0 p1 HW HT HS HO HP
  subst hR
  go_wp2_with fail
  refine bodyPost_ret (v := .agg #[.int .u32 0, .slice none 0 0, .slice none 0 0]) (by simp [results, Tryz.results88, go_sem, o0, o1, o2, lo]) rfl ⟨⟨[.int .u32 0, .slice none 0 0, .slice none 0 0], rfl, ?_⟩, St.fin (W := W) ?_⟩
  ·exact fn_mk (x := ⟨0, [], []⟩) (by omega : (0 : Int) ≤ 0 ∧ (0 : Int) ≤ 4294967295) FC.nil (Nat.le_refl _) FC.nil (Nat.le_refl _)
  ·(repeat (first | with_reducible exact HS2.out | (with_reducible refine St.set ?_ _ _ _ ?_; rotate_left; omega) | with_reducible refine St.alloc ?_ _ | with_reducible refine St.drew ?_))
end Go.Proofs.YtofaiocffifhfaaGreat
end
section
namespace Go.Proofs.YtofaiocffifhfaaGreat
open Go.RowKit Go.Shelf YtofaiocffifhfaaGreatB Go.Proofs.YtofaiocffifhfaaGreatW.PrintWords
section
variable (W : World) (p q : Nat) (B : List Int) (sat : Bool) (a : Nat) (e : Int) (hC : Cur W p q B a e) (hB : Byts B)
include hC hB
theorem ftys_any : Calls Tryz.prog 73 #[.agg #[.pointer (some ⟨p, 0, none⟩), .bool sat], .func (.func 74) #[.pointer (some ⟨p, 0, none⟩)] #[]] W (ListPost kFt 98 W p q B (lsOf (funM B) B a e)) :=
 list_fty _ (enters_of Tryz.func74 (by kernel_rfl) rfl) (funM B) W p q B a e sat hC hB (fun X a h _ => (Func_any X p q B a 0 h hB).mono fun E w' ⟨⟨v1, v2, g1, g2, g3⟩, g4⟩ => by
  obtain ⟨A1, c1, rfl, l1, F1⟩ := g2.reads
  obtain ⟨A2, c2, rfl, l2, F2⟩ := g3.reads
  exact ⟨⟨_, g1, ft_FK (Ft.mono F1 (fun k hk => hk.elim (fun h => h.elim) id)) (Ft.mono F2 (fun k hk => hk.elim (fun h => h.elim) id)) l1 l2⟩, g4⟩)
theorem imps_any : Calls Tryz.prog 75 #[.agg #[.pointer (some ⟨p, 0, none⟩), .bool sat], .func (.func 76) #[.agg #[.pointer (some ⟨p, 0, none⟩), .bool sat]] #[]] W (ListPost kImp 105 W p q B (lsOf (impM B) B a e)) :=
 list_imp _ (enters_of Tryz.func76 (by kernel_rfl) rfl) (impM B) W p q B a e sat hC hB (fun X a h _ => imported_any X p q B sat a 0 h hB)
theorem tabs_any : Calls Tryz.prog 78 #[.agg #[.pointer (some ⟨p, 0, none⟩), .bool sat], .func (.func 79) #[.pointer (some ⟨p, 0, none⟩)] #[]] W (ListPost kLim 101 W p q B (lsOf (tabM B) B a e)) :=
 list_lim _ (enters_of Tryz.func79 (by kernel_rfl) rfl) (tabM B) W p q B a e sat hC hB (fun X a h _ => (Table_any X p q B a 0 h hB).mono fun E w' ⟨g1, g2⟩ => ⟨⟨_, g1, lim_mk (tabM_b hB a 0).1 (tabM_b hB a 0).2⟩, g2⟩)
theorem mems_any : Calls Tryz.prog 78 #[.agg #[.pointer (some ⟨p, 0, none⟩), .bool sat], .func (.func 80) #[.pointer (some ⟨p, 0, none⟩)] #[]] W (ListPost kLim 101 W p q B (lsOf (limM B) B a e)) :=
 list_lim _ (enters_of Tryz.func80 (by kernel_rfl) rfl) (limM B) W p q B a e sat hC hB (fun X a h _ => (Limits_any X p q B a 0 h hB).mono fun E w' ⟨g1, g2⟩ => ⟨⟨_, g1, lim_mk (limM_b hB a 0).1 (limM_b hB a 0).2⟩, g2⟩)
theorem glbs_any : Calls Tryz.prog 81 #[.agg #[.pointer (some ⟨p, 0, none⟩), .bool sat], .func (.func 82) #[.agg #[.pointer (some ⟨p, 0, none⟩), .bool sat]] #[]] W (ListPost kCell 114 W p q B (lsOf (cellM sat B) B a e)) :=
 list_cell _ (enters_of Tryz.func82 (by kernel_rfl) rfl) (cellM sat B) W p q B a e sat hC hB (fun X a h _ => global_any X p q B sat a 0 h hB)
theorem exps_any : Calls Tryz.prog 83 #[.agg #[.pointer (some ⟨p, 0, none⟩), .bool sat], .func (.func 84) #[.agg #[.pointer (some ⟨p, 0, none⟩), .bool sat]] #[]] W (ListPost kExp 110 W p q B (lsOf (expM B) B a e)) :=
 list_exp _ (enters_of Tryz.func84 (by kernel_rfl) rfl) (expM B) W p q B a e sat hC hB (fun X a h _ => exported_any X p q B sat a 0 h hB)
theorem elms_any : Calls Tryz.prog 85 #[.agg #[.pointer (some ⟨p, 0, none⟩), .bool sat], .func (.func 86) #[.agg #[.pointer (some ⟨p, 0, none⟩), .bool sat]] #[]] W (ListPost kElem 118 W p q B (lsOf (elemM sat B) B a e)) :=
 list_elem _ (enters_of Tryz.func86 (by kernel_rfl) rfl) (elemM sat B) W p q B a e sat hC hB (fun X a h _ => elem_any X p q B sat a 0 h hB)
theorem bods_any : Calls Tryz.prog 87 #[.agg #[.pointer (some ⟨p, 0, none⟩), .bool sat], .func (.func 88) #[.agg #[.pointer (some ⟨p, 0, none⟩), .bool sat]] #[]] W (ListPost kFn 75 W p q B (lsOf (bodM sat B) B a e)) :=
 list_fn _ (enters_of Tryz.func88 (by kernel_rfl) rfl) (bodM sat B) W p q B a e sat hC hB (fun X a h _ => body_any X p q B sat a 0 h hB)
theorem dats_any : Calls Tryz.prog 89 #[.agg #[.pointer (some ⟨p, 0, none⟩), .bool sat], .func (.func 90) #[.agg #[.pointer (some ⟨p, 0, none⟩), .bool sat]] #[]] W (ListPost kData 120 W p q B (lsOf (dataM sat B) B a e)) :=
 list_data _ (enters_of Tryz.func90 (by kernel_rfl) rfl) (dataM sat B) W p q B a e sat hC hB (fun X a h _ => data_any X p q B sat a 0 h hB)
end
end Go.Proofs.YtofaiocffifhfaaGreat
end
section
namespace Go.Proofs.YtofaiocffifhfaaGreat
open Go.RowKit Go.Shelf YtofaiocffifhfaaGreatB Go.Proofs.YtofaiocffifhfaaGreatW.PrintWords
def ContPost {α : Type} (d : Kd α) (t : TypeId) (W : World) (p q m : Nat) (B : List Int) (mc : Array Value) (i : Nat) (r : List α × Nat × Int) (E : Ending) (w' : World) : Prop :=
 E = .returned (.tuple #[]) ∧ (∃ v, Own d t w' W.heap.size (fun k => W.heap.size ≤ k) v r.1 ∧ Blk w' m (mc.setIfInBounds i v) 71) ∧ Cur w' p q B r.2.1 r.2.2 ∧ G2 W w' p m
set_option maxRecDepth 100000 in
set_option maxHeartbeats 1000000 in
theorem cont_1 (W : World) (p q m : Nat) (B : List Int) (a : Nat) (e : Int) (sat : Bool) (mc : Array Value) (v0 : Value) (hC : Cur W p q B a e) (hB : Byts B) (hm : Blk W m mc 71) (hm0 : mc[0]? = some v0) (hmp : m ≠ p) (hmq : 0 < B.length → m ≠ q) :
  Calls Tryz.prog 44 #[.pointer (some ⟨m, 0, none⟩), .int .u8 1, .agg #[.pointer (some ⟨p, 0, none⟩), .bool sat]] W (ContPost kFt 98 W p q m B mc 0 (lsOf (funM B) B a e)) := by
 have hpl := hC.lt
 have hml := hm.lt
 have H0 := Lib.hid (show Calls Tryz.prog 73 #[.agg #[.pointer (some ⟨p, 0, none⟩), .bool sat], .func (.func 74) #[.pointer (some ⟨p, 0, none⟩)] #[]] (W.alloc (.cells #[.pointer (some ⟨p, 0, none⟩), .bool sat] 67)) (ListPost kFt 98 (W.alloc (.cells #[.pointer (some ⟨p, 0, none⟩), .bool sat] 67)) p q B (lsOf (funM B) B a e)) from ftys_any _ p q B sat a e (hC.alloc _) hB)
 have HM := Lib.hid (hm.alloc (.cells #[.pointer (some ⟨p, 0, none⟩), .bool sat] 67))
 have HM0 := Lib.hid hm0
 have HMP := Lib.hid hmp
 have HMQ := Lib.hid hmq
 generalize lsOf (funM B) B a e = r at *
 clear hC hB hm hm0 hmp hmq
 go_enter Tryz.func44, Tryz.ntmps44
 go_wp2_with fail
 refine H0.out.mono ?_
 rintro E W1 ⟨⟨v, rfl, hO⟩, hG⟩
 have hz := hG.2.size
 rw [World.size_alloc] at hz
 have hm1 := HM.out.grown hG.2 (fun e => HMP.out (by injection e))
 have HM1 := Lib.hid hm1
 have c0 : W1.cell? ⟨m, 0, none⟩ = some v0 := by rw [hm1.cell 0]; exact HM0.out
 have f0 := hm1.frozen 0
 have hml1 := hm1.lt
 obtain ⟨A1, k1, rfl, _, _⟩ := hO.reads
 have HO := Lib.hid (Own_lower hO (show W.heap.size ≤ _ by simp) |>.mono (ok' := fun k => W.heap.size ≤ k) (fun k hk => by rw [World.size_alloc] at hk; omega))
 have HG := Lib.hid hG
 clear hO hG hm1
 go_wp2_with fail
 have nm : (Value.slice A1 r.1.length k1).ownBlock ≠ some m := fun e => by
  have := (Own.block HO.out e).1
  omega
 go_end0
 refine ⟨rfl, ⟨_, HO.out.grown (gset _ _ _ _) (.inr nm) (fun k hk e => by injection e with e; omega), HM1.out.set 0 _⟩, HG.out.1.other _ _ _ HMP.out HMQ.out, ?_⟩
 exact (((G2.refl W p m).alloc _).grown HG.out.2 (fun r e => by injection e with e; omega)).set m 0 _ (by omega)
set_option maxRecDepth 100000 in
set_option maxHeartbeats 1000000 in
theorem cont_2 (W : World) (p q m : Nat) (B : List Int) (a : Nat) (e : Int) (sat : Bool) (mc : Array Value) (v0 : Value) (hC : Cur W p q B a e) (hB : Byts B) (hm : Blk W m mc 71) (hm0 : mc[1]? = some v0) (hmp : m ≠ p) (hmq : 0 < B.length → m ≠ q) :
  Calls Tryz.prog 44 #[.pointer (some ⟨m, 0, none⟩), .int .u8 2, .agg #[.pointer (some ⟨p, 0, none⟩), .bool sat]] W (ContPost kImp 105 W p q m B mc 1 (lsOf (impM B) B a e)) := by
 have hpl := hC.lt
 have hml := hm.lt
 have H0 := Lib.hid (show Calls Tryz.prog 75 #[.agg #[.pointer (some ⟨p, 0, none⟩), .bool sat], .func (.func 76) #[.agg #[.pointer (some ⟨p, 0, none⟩), .bool sat]] #[]] (W.alloc (.cells #[.pointer (some ⟨p, 0, none⟩), .bool sat] 67)) (ListPost kImp 105 (W.alloc (.cells #[.pointer (some ⟨p, 0, none⟩), .bool sat] 67)) p q B (lsOf (impM B) B a e)) from imps_any _ p q B sat a e (hC.alloc _) hB)
 have HM := Lib.hid (hm.alloc (.cells #[.pointer (some ⟨p, 0, none⟩), .bool sat] 67))
 have HM0 := Lib.hid hm0
 have HMP := Lib.hid hmp
 have HMQ := Lib.hid hmq
 generalize lsOf (impM B) B a e = r at *
 clear hC hB hm hm0 hmp hmq
 go_enter Tryz.func44, Tryz.ntmps44
 go_wp2_with fail
 refine H0.out.mono ?_
 rintro E W1 ⟨⟨v, rfl, hO⟩, hG⟩
 have hz := hG.2.size
 rw [World.size_alloc] at hz
 have hm1 := HM.out.grown hG.2 (fun e => HMP.out (by injection e))
 have HM1 := Lib.hid hm1
 have c0 : W1.cell? ⟨m, 1, none⟩ = some v0 := by rw [hm1.cell 1]; exact HM0.out
 have f0 := hm1.frozen 1
 have hml1 := hm1.lt
 obtain ⟨A1, k1, rfl, _, _⟩ := hO.reads
 have HO := Lib.hid (Own_lower hO (show W.heap.size ≤ _ by simp) |>.mono (ok' := fun k => W.heap.size ≤ k) (fun k hk => by rw [World.size_alloc] at hk; omega))
 have HG := Lib.hid hG
 clear hO hG hm1
 go_wp2_with fail
 have nm : (Value.slice A1 r.1.length k1).ownBlock ≠ some m := fun e => by
  have := (Own.block HO.out e).1
  omega
 go_end0
 refine ⟨rfl, ⟨_, HO.out.grown (gset _ _ _ _) (.inr nm) (fun k hk e => by injection e with e; omega), HM1.out.set 1 _⟩, HG.out.1.other _ _ _ HMP.out HMQ.out, ?_⟩
 exact (((G2.refl W p m).alloc _).grown HG.out.2 (fun r e => by injection e with e; omega)).set m 1 _ (by omega)
set_option maxRecDepth 100000 in
set_option maxHeartbeats 1000000 in
theorem cont_3 (W : World) (p q m : Nat) (B : List Int) (a : Nat) (e : Int) (sat : Bool) (mc : Array Value) (v0 : Value) (hC : Cur W p q B a e) (hB : Byts B) (hm : Blk W m mc 71) (hm0 : mc[11]? = some v0) (hmp : m ≠ p) (hmq : 0 < B.length → m ≠ q) :
  Calls Tryz.prog 44 #[.pointer (some ⟨m, 0, none⟩), .int .u8 3, .agg #[.pointer (some ⟨p, 0, none⟩), .bool sat]] W (ContPost (rng .u32) 30 W p q m B mc 11 (lsOf (u32R B) B a e)) := by
 have hpl := hC.lt
 have hml := hm.lt
 have H0 := Lib.hid (show Calls Tryz.prog 77 #[.agg #[.pointer (some ⟨p, 0, none⟩), .bool sat], .func (.func 34) #[.pointer (some ⟨p, 0, none⟩)] #[]] (W.alloc (.cells #[.pointer (some ⟨p, 0, none⟩), .bool sat] 67)) (ListPost (rng .u32) 30 (W.alloc (.cells #[.pointer (some ⟨p, 0, none⟩), .bool sat] 67)) p q B (lsOf (u32R B) B a e)) from u32s_any _ p q B sat a e (hC.alloc _) hB)
 have HM := Lib.hid (hm.alloc (.cells #[.pointer (some ⟨p, 0, none⟩), .bool sat] 67))
 have HM0 := Lib.hid hm0
 have HMP := Lib.hid hmp
 have HMQ := Lib.hid hmq
 generalize lsOf (u32R B) B a e = r at *
 clear hC hB hm hm0 hmp hmq
 go_enter Tryz.func44, Tryz.ntmps44
 go_wp2_with fail
 refine H0.out.mono ?_
 rintro E W1 ⟨⟨v, rfl, hO⟩, hG⟩
 have hz := hG.2.size
 rw [World.size_alloc] at hz
 have hm1 := HM.out.grown hG.2 (fun e => HMP.out (by injection e))
 have HM1 := Lib.hid hm1
 have c0 : W1.cell? ⟨m, 11, none⟩ = some v0 := by rw [hm1.cell 11]; exact HM0.out
 have f0 := hm1.frozen 11
 have hml1 := hm1.lt
 obtain ⟨A1, k1, rfl, _, _⟩ := hO.reads
 have HO := Lib.hid (Own_lower hO (show W.heap.size ≤ _ by simp) |>.mono (ok' := fun k => W.heap.size ≤ k) (fun k hk => by rw [World.size_alloc] at hk; omega))
 have HG := Lib.hid hG
 clear hO hG hm1
 go_wp2_with fail
 have nm : (Value.slice A1 r.1.length k1).ownBlock ≠ some m := fun e => by
  have := (Own.block HO.out e).1
  omega
 go_end0
 refine ⟨rfl, ⟨_, HO.out.grown (gset _ _ _ _) (.inr nm) (fun k hk e => by injection e with e; omega), HM1.out.set 11 _⟩, HG.out.1.other _ _ _ HMP.out HMQ.out, ?_⟩
 exact (((G2.refl W p m).alloc _).grown HG.out.2 (fun r e => by injection e with e; omega)).set m 11 _ (by omega)
set_option maxRecDepth 100000 in
set_option maxHeartbeats 1000000 in
theorem cont_4 (W : World) (p q m : Nat) (B : List Int) (a : Nat) (e : Int) (sat : Bool) (mc : Array Value) (v0 : Value) (hC : Cur W p q B a e) (hB : Byts B) (hm : Blk W m mc 71) (hm0 : mc[3]? = some v0) (hmp : m ≠ p) (hmq : 0 < B.length → m ≠ q) :
  Calls Tryz.prog 44 #[.pointer (some ⟨m, 0, none⟩), .int .u8 4, .agg #[.pointer (some ⟨p, 0, none⟩), .bool sat]] W (ContPost kLim 101 W p q m B mc 3 (lsOf (tabM B) B a e)) := by
 have hpl := hC.lt
 have hml := hm.lt
 have H0 := Lib.hid (show Calls Tryz.prog 78 #[.agg #[.pointer (some ⟨p, 0, none⟩), .bool sat], .func (.func 79) #[.pointer (some ⟨p, 0, none⟩)] #[]] (W.alloc (.cells #[.pointer (some ⟨p, 0, none⟩), .bool sat] 67)) (ListPost kLim 101 (W.alloc (.cells #[.pointer (some ⟨p, 0, none⟩), .bool sat] 67)) p q B (lsOf (tabM B) B a e)) from tabs_any _ p q B sat a e (hC.alloc _) hB)
 have HM := Lib.hid (hm.alloc (.cells #[.pointer (some ⟨p, 0, none⟩), .bool sat] 67))
 have HM0 := Lib.hid hm0
 have HMP := Lib.hid hmp
 have HMQ := Lib.hid hmq
 generalize lsOf (tabM B) B a e = r at *
 clear hC hB hm hm0 hmp hmq
 go_enter Tryz.func44, Tryz.ntmps44
 go_wp2_with fail
 refine H0.out.mono ?_
 rintro E W1 ⟨⟨v, rfl, hO⟩, hG⟩
 have hz := hG.2.size
 rw [World.size_alloc] at hz
 have hm1 := HM.out.grown hG.2 (fun e => HMP.out (by injection e))
 have HM1 := Lib.hid hm1
 have c0 : W1.cell? ⟨m, 3, none⟩ = some v0 := by rw [hm1.cell 3]; exact HM0.out
 have f0 := hm1.frozen 3
 have hml1 := hm1.lt
 obtain ⟨A1, k1, rfl, _, _⟩ := hO.reads
 have HO := Lib.hid (Own_lower hO (show W.heap.size ≤ _ by simp) |>.mono (ok' := fun k => W.heap.size ≤ k) (fun k hk => by rw [World.size_alloc] at hk; omega))
 have HG := Lib.hid hG
 clear hO hG hm1
 go_wp2_with fail
 have nm : (Value.slice A1 r.1.length k1).ownBlock ≠ some m := fun e => by
  have := (Own.block HO.out e).1
  omega
 go_end0
 refine ⟨rfl, ⟨_, HO.out.grown (gset _ _ _ _) (.inr nm) (fun k hk e => by injection e with e; omega), HM1.out.set 3 _⟩, HG.out.1.other _ _ _ HMP.out HMQ.out, ?_⟩
 exact (((G2.refl W p m).alloc _).grown HG.out.2 (fun r e => by injection e with e; omega)).set m 3 _ (by omega)
set_option maxRecDepth 100000 in
set_option maxHeartbeats 1000000 in
theorem cont_5 (W : World) (p q m : Nat) (B : List Int) (a : Nat) (e : Int) (sat : Bool) (mc : Array Value) (v0 : Value) (hC : Cur W p q B a e) (hB : Byts B) (hm : Blk W m mc 71) (hm0 : mc[4]? = some v0) (hmp : m ≠ p) (hmq : 0 < B.length → m ≠ q) :
  Calls Tryz.prog 44 #[.pointer (some ⟨m, 0, none⟩), .int .u8 5, .agg #[.pointer (some ⟨p, 0, none⟩), .bool sat]] W (ContPost kLim 101 W p q m B mc 4 (lsOf (limM B) B a e)) := by
 have hpl := hC.lt
 have hml := hm.lt
 have H0 := Lib.hid (show Calls Tryz.prog 78 #[.agg #[.pointer (some ⟨p, 0, none⟩), .bool sat], .func (.func 80) #[.pointer (some ⟨p, 0, none⟩)] #[]] (W.alloc (.cells #[.pointer (some ⟨p, 0, none⟩), .bool sat] 67)) (ListPost kLim 101 (W.alloc (.cells #[.pointer (some ⟨p, 0, none⟩), .bool sat] 67)) p q B (lsOf (limM B) B a e)) from mems_any _ p q B sat a e (hC.alloc _) hB)
 have HM := Lib.hid (hm.alloc (.cells #[.pointer (some ⟨p, 0, none⟩), .bool sat] 67))
 have HM0 := Lib.hid hm0
 have HMP := Lib.hid hmp
 have HMQ := Lib.hid hmq
 generalize lsOf (limM B) B a e = r at *
 clear hC hB hm hm0 hmp hmq
 go_enter Tryz.func44, Tryz.ntmps44
 go_wp2_with fail
 refine H0.out.mono ?_
 rintro E W1 ⟨⟨v, rfl, hO⟩, hG⟩
 have hz := hG.2.size
 rw [World.size_alloc] at hz
 have hm1 := HM.out.grown hG.2 (fun e => HMP.out (by injection e))
 have HM1 := Lib.hid hm1
 have c0 : W1.cell? ⟨m, 4, none⟩ = some v0 := by rw [hm1.cell 4]; exact HM0.out
 have f0 := hm1.frozen 4
 have hml1 := hm1.lt
 obtain ⟨A1, k1, rfl, _, _⟩ := hO.reads
 have HO := Lib.hid (Own_lower hO (show W.heap.size ≤ _ by simp) |>.mono (ok' := fun k => W.heap.size ≤ k) (fun k hk => by rw [World.size_alloc] at hk; omega))
 have HG := Lib.hid hG
 clear hO hG hm1
 go_wp2_with fail
 have nm : (Value.slice A1 r.1.length k1).ownBlock ≠ some m := fun e => by
  have := (Own.block HO.out e).1
  omega
 go_end0
 refine ⟨rfl, ⟨_, HO.out.grown (gset _ _ _ _) (.inr nm) (fun k hk e => by injection e with e; omega), HM1.out.set 4 _⟩, HG.out.1.other _ _ _ HMP.out HMQ.out, ?_⟩
 exact (((G2.refl W p m).alloc _).grown HG.out.2 (fun r e => by injection e with e; omega)).set m 4 _ (by omega)
set_option maxRecDepth 100000 in
set_option maxHeartbeats 1000000 in
theorem cont_6 (W : World) (p q m : Nat) (B : List Int) (a : Nat) (e : Int) (sat : Bool) (mc : Array Value) (v0 : Value) (hC : Cur W p q B a e) (hB : Byts B) (hm : Blk W m mc 71) (hm0 : mc[5]? = some v0) (hmp : m ≠ p) (hmq : 0 < B.length → m ≠ q) :
  Calls Tryz.prog 44 #[.pointer (some ⟨m, 0, none⟩), .int .u8 6, .agg #[.pointer (some ⟨p, 0, none⟩), .bool sat]] W (ContPost kCell 114 W p q m B mc 5 (lsOf (cellM sat B) B a e)) := by
 have hpl := hC.lt
 have hml := hm.lt
 have H0 := Lib.hid (show Calls Tryz.prog 81 #[.agg #[.pointer (some ⟨p, 0, none⟩), .bool sat], .func (.func 82) #[.agg #[.pointer (some ⟨p, 0, none⟩), .bool sat]] #[]] (W.alloc (.cells #[.pointer (some ⟨p, 0, none⟩), .bool sat] 67)) (ListPost kCell 114 (W.alloc (.cells #[.pointer (some ⟨p, 0, none⟩), .bool sat] 67)) p q B (lsOf (cellM sat B) B a e)) from glbs_any _ p q B sat a e (hC.alloc _) hB)
 have HM := Lib.hid (hm.alloc (.cells #[.pointer (some ⟨p, 0, none⟩), .bool sat] 67))
 have HM0 := Lib.hid hm0
 have HMP := Lib.hid hmp
 have HMQ := Lib.hid hmq
 generalize lsOf (cellM sat B) B a e = r at *
 clear hC hB hm hm0 hmp hmq
 go_enter Tryz.func44, Tryz.ntmps44
 go_wp2_with fail
 refine H0.out.mono ?_
 rintro E W1 ⟨⟨v, rfl, hO⟩, hG⟩
 have hz := hG.2.size
 rw [World.size_alloc] at hz
 have hm1 := HM.out.grown hG.2 (fun e => HMP.out (by injection e))
 have HM1 := Lib.hid hm1
 have c0 : W1.cell? ⟨m, 5, none⟩ = some v0 := by rw [hm1.cell 5]; exact HM0.out
 have f0 := hm1.frozen 5
 have hml1 := hm1.lt
 obtain ⟨A1, k1, rfl, _, _⟩ := hO.reads
 have HO := Lib.hid (Own_lower hO (show W.heap.size ≤ _ by simp) |>.mono (ok' := fun k => W.heap.size ≤ k) (fun k hk => by rw [World.size_alloc] at hk; omega))
 have HG := Lib.hid hG
 clear hO hG hm1
 go_wp2_with fail
 have nm : (Value.slice A1 r.1.length k1).ownBlock ≠ some m := fun e => by
  have := (Own.block HO.out e).1
  omega
 go_end0
 refine ⟨rfl, ⟨_, HO.out.grown (gset _ _ _ _) (.inr nm) (fun k hk e => by injection e with e; omega), HM1.out.set 5 _⟩, HG.out.1.other _ _ _ HMP.out HMQ.out, ?_⟩
 exact (((G2.refl W p m).alloc _).grown HG.out.2 (fun r e => by injection e with e; omega)).set m 5 _ (by omega)
set_option maxRecDepth 100000 in
set_option maxHeartbeats 1000000 in
theorem cont_7 (W : World) (p q m : Nat) (B : List Int) (a : Nat) (e : Int) (sat : Bool) (mc : Array Value) (v0 : Value) (hC : Cur W p q B a e) (hB : Byts B) (hm : Blk W m mc 71) (hm0 : mc[6]? = some v0) (hmp : m ≠ p) (hmq : 0 < B.length → m ≠ q) :
  Calls Tryz.prog 44 #[.pointer (some ⟨m, 0, none⟩), .int .u8 7, .agg #[.pointer (some ⟨p, 0, none⟩), .bool sat]] W (ContPost kExp 110 W p q m B mc 6 (lsOf (expM B) B a e)) := by
 have hpl := hC.lt
 have hml := hm.lt
 have H0 := Lib.hid (show Calls Tryz.prog 83 #[.agg #[.pointer (some ⟨p, 0, none⟩), .bool sat], .func (.func 84) #[.agg #[.pointer (some ⟨p, 0, none⟩), .bool sat]] #[]] (W.alloc (.cells #[.pointer (some ⟨p, 0, none⟩), .bool sat] 67)) (ListPost kExp 110 (W.alloc (.cells #[.pointer (some ⟨p, 0, none⟩), .bool sat] 67)) p q B (lsOf (expM B) B a e)) from exps_any _ p q B sat a e (hC.alloc _) hB)
 have HM := Lib.hid (hm.alloc (.cells #[.pointer (some ⟨p, 0, none⟩), .bool sat] 67))
 have HM0 := Lib.hid hm0
 have HMP := Lib.hid hmp
 have HMQ := Lib.hid hmq
 generalize lsOf (expM B) B a e = r at *
 clear hC hB hm hm0 hmp hmq
 go_enter Tryz.func44, Tryz.ntmps44
 go_wp2_with fail
 refine H0.out.mono ?_
 rintro E W1 ⟨⟨v, rfl, hO⟩, hG⟩
 have hz := hG.2.size
 rw [World.size_alloc] at hz
 have hm1 := HM.out.grown hG.2 (fun e => HMP.out (by injection e))
 have HM1 := Lib.hid hm1
 have c0 : W1.cell? ⟨m, 6, none⟩ = some v0 := by rw [hm1.cell 6]; exact HM0.out
 have f0 := hm1.frozen 6
 have hml1 := hm1.lt
 obtain ⟨A1, k1, rfl, _, _⟩ := hO.reads
 have HO := Lib.hid (Own_lower hO (show W.heap.size ≤ _ by simp) |>.mono (ok' := fun k => W.heap.size ≤ k) (fun k hk => by rw [World.size_alloc] at hk; omega))
 have HG := Lib.hid hG
 clear hO hG hm1
 go_wp2_with fail
 have nm : (Value.slice A1 r.1.length k1).ownBlock ≠ some m := fun e => by
  have := (Own.block HO.out e).1
  omega
 go_end0
 refine ⟨rfl, ⟨_, HO.out.grown (gset _ _ _ _) (.inr nm) (fun k hk e => by injection e with e; omega), HM1.out.set 6 _⟩, HG.out.1.other _ _ _ HMP.out HMQ.out, ?_⟩
 exact (((G2.refl W p m).alloc _).grown HG.out.2 (fun r e => by injection e with e; omega)).set m 6 _ (by omega)
set_option maxRecDepth 100000 in
set_option maxHeartbeats 1000000 in
theorem cont_9 (W : World) (p q m : Nat) (B : List Int) (a : Nat) (e : Int) (sat : Bool) (mc : Array Value) (v0 : Value) (hC : Cur W p q B a e) (hB : Byts B) (hm : Blk W m mc 71) (hm0 : mc[9]? = some v0) (hmp : m ≠ p) (hmq : 0 < B.length → m ≠ q) :
  Calls Tryz.prog 44 #[.pointer (some ⟨m, 0, none⟩), .int .u8 9, .agg #[.pointer (some ⟨p, 0, none⟩), .bool sat]] W (ContPost kElem 118 W p q m B mc 9 (lsOf (elemM sat B) B a e)) := by
 have hpl := hC.lt
 have hml := hm.lt
 have H0 := Lib.hid (show Calls Tryz.prog 85 #[.agg #[.pointer (some ⟨p, 0, none⟩), .bool sat], .func (.func 86) #[.agg #[.pointer (some ⟨p, 0, none⟩), .bool sat]] #[]] (W.alloc (.cells #[.pointer (some ⟨p, 0, none⟩), .bool sat] 67)) (ListPost kElem 118 (W.alloc (.cells #[.pointer (some ⟨p, 0, none⟩), .bool sat] 67)) p q B (lsOf (elemM sat B) B a e)) from elms_any _ p q B sat a e (hC.alloc _) hB)
 have HM := Lib.hid (hm.alloc (.cells #[.pointer (some ⟨p, 0, none⟩), .bool sat] 67))
 have HM0 := Lib.hid hm0
 have HMP := Lib.hid hmp
 have HMQ := Lib.hid hmq
 generalize lsOf (elemM sat B) B a e = r at *
 clear hC hB hm hm0 hmp hmq
 go_enter Tryz.func44, Tryz.ntmps44
 go_wp2_with fail
 refine H0.out.mono ?_
 rintro E W1 ⟨⟨v, rfl, hO⟩, hG⟩
 have hz := hG.2.size
 rw [World.size_alloc] at hz
 have hm1 := HM.out.grown hG.2 (fun e => HMP.out (by injection e))
 have HM1 := Lib.hid hm1
 have c0 : W1.cell? ⟨m, 9, none⟩ = some v0 := by rw [hm1.cell 9]; exact HM0.out
 have f0 := hm1.frozen 9
 have hml1 := hm1.lt
 obtain ⟨A1, k1, rfl, _, _⟩ := hO.reads
 have HO := Lib.hid (Own_lower hO (show W.heap.size ≤ _ by simp) |>.mono (ok' := fun k => W.heap.size ≤ k) (fun k hk => by rw [World.size_alloc] at hk; omega))
 have HG := Lib.hid hG
 clear hO hG hm1
 go_wp2_with fail
 have nm : (Value.slice A1 r.1.length k1).ownBlock ≠ some m := fun e => by
  have := (Own.block HO.out e).1
  omega
 go_end0
 refine ⟨rfl, ⟨_, HO.out.grown (gset _ _ _ _) (.inr nm) (fun k hk e => by injection e with e; omega), HM1.out.set 9 _⟩, HG.out.1.other _ _ _ HMP.out HMQ.out, ?_⟩
 exact (((G2.refl W p m).alloc _).grown HG.out.2 (fun r e => by injection e with e; omega)).set m 9 _ (by omega)
set_option maxRecDepth 100000 in
set_option maxHeartbeats 1000000 in
theorem cont_10 (W : World) (p q m : Nat) (B : List Int) (a : Nat) (e : Int) (sat : Bool) (mc : Array Value) (v0 : Value) (hC : Cur W p q B a e) (hB : Byts B) (hm : Blk W m mc 71) (hm0 : mc[12]? = some v0) (hmp : m ≠ p) (hmq : 0 < B.length → m ≠ q) :
  Calls Tryz.prog 44 #[.pointer (some ⟨m, 0, none⟩), .int .u8 10, .agg #[.pointer (some ⟨p, 0, none⟩), .bool sat]] W (ContPost kFn 75 W p q m B mc 12 (lsOf (bodM sat B) B a e)) := by
 have hpl := hC.lt
 have hml := hm.lt
 have H0 := Lib.hid (show Calls Tryz.prog 87 #[.agg #[.pointer (some ⟨p, 0, none⟩), .bool sat], .func (.func 88) #[.agg #[.pointer (some ⟨p, 0, none⟩), .bool sat]] #[]] (W.alloc (.cells #[.pointer (some ⟨p, 0, none⟩), .bool sat] 67)) (ListPost kFn 75 (W.alloc (.cells #[.pointer (some ⟨p, 0, none⟩), .bool sat] 67)) p q B (lsOf (bodM sat B) B a e)) from bods_any _ p q B sat a e (hC.alloc _) hB)
 have HM := Lib.hid (hm.alloc (.cells #[.pointer (some ⟨p, 0, none⟩), .bool sat] 67))
 have HM0 := Lib.hid hm0
 have HMP := Lib.hid hmp
 have HMQ := Lib.hid hmq
 generalize lsOf (bodM sat B) B a e = r at *
 clear hC hB hm hm0 hmp hmq
 go_enter Tryz.func44, Tryz.ntmps44
 go_wp2_with fail
 refine H0.out.mono ?_
 rintro E W1 ⟨⟨v, rfl, hO⟩, hG⟩
 have hz := hG.2.size
 rw [World.size_alloc] at hz
 have hm1 := HM.out.grown hG.2 (fun e => HMP.out (by injection e))
 have HM1 := Lib.hid hm1
 have c0 : W1.cell? ⟨m, 12, none⟩ = some v0 := by rw [hm1.cell 12]; exact HM0.out
 have f0 := hm1.frozen 12
 have hml1 := hm1.lt
 obtain ⟨A1, k1, rfl, _, _⟩ := hO.reads
 have HO := Lib.hid (Own_lower hO (show W.heap.size ≤ _ by simp) |>.mono (ok' := fun k => W.heap.size ≤ k) (fun k hk => by rw [World.size_alloc] at hk; omega))
 have HG := Lib.hid hG
 clear hO hG hm1
 go_wp2_with fail
 have nm : (Value.slice A1 r.1.length k1).ownBlock ≠ some m := fun e => by
  have := (Own.block HO.out e).1
  omega
 go_end0
 refine ⟨rfl, ⟨_, HO.out.grown (gset _ _ _ _) (.inr nm) (fun k hk e => by injection e with e; omega), HM1.out.set 12 _⟩, HG.out.1.other _ _ _ HMP.out HMQ.out, ?_⟩
 exact (((G2.refl W p m).alloc _).grown HG.out.2 (fun r e => by injection e with e; omega)).set m 12 _ (by omega)
set_option maxRecDepth 100000 in
set_option maxHeartbeats 1000000 in
theorem cont_11 (W : World) (p q m : Nat) (B : List Int) (a : Nat) (e : Int) (sat : Bool) (mc : Array Value) (v0 : Value) (hC : Cur W p q B a e) (hB : Byts B) (hm : Blk W m mc 71) (hm0 : mc[10]? = some v0) (hmp : m ≠ p) (hmq : 0 < B.length → m ≠ q) :
  Calls Tryz.prog 44 #[.pointer (some ⟨m, 0, none⟩), .int .u8 11, .agg #[.pointer (some ⟨p, 0, none⟩), .bool sat]] W (ContPost kData 120 W p q m B mc 10 (lsOf (dataM sat B) B a e)) := by
 have hpl := hC.lt
 have hml := hm.lt
 have H0 := Lib.hid (show Calls Tryz.prog 89 #[.agg #[.pointer (some ⟨p, 0, none⟩), .bool sat], .func (.func 90) #[.agg #[.pointer (some ⟨p, 0, none⟩), .bool sat]] #[]] (W.alloc (.cells #[.pointer (some ⟨p, 0, none⟩), .bool sat] 67)) (ListPost kData 120 (W.alloc (.cells #[.pointer (some ⟨p, 0, none⟩), .bool sat] 67)) p q B (lsOf (dataM sat B) B a e)) from dats_any _ p q B sat a e (hC.alloc _) hB)
 have HM := Lib.hid (hm.alloc (.cells #[.pointer (some ⟨p, 0, none⟩), .bool sat] 67))
 have HM0 := Lib.hid hm0
 have HMP := Lib.hid hmp
 have HMQ := Lib.hid hmq
 generalize lsOf (dataM sat B) B a e = r at *
 clear hC hB hm hm0 hmp hmq
 go_enter Tryz.func44, Tryz.ntmps44
 go_wp2_with fail
 refine H0.out.mono ?_
 rintro E W1 ⟨⟨v, rfl, hO⟩, hG⟩
 have hz := hG.2.size
 rw [World.size_alloc] at hz
 have hm1 := HM.out.grown hG.2 (fun e => HMP.out (by injection e))
 have HM1 := Lib.hid hm1
 have c0 : W1.cell? ⟨m, 10, none⟩ = some v0 := by rw [hm1.cell 10]; exact HM0.out
 have f0 := hm1.frozen 10
 have hml1 := hm1.lt
 obtain ⟨A1, k1, rfl, _, _⟩ := hO.reads
 have HO := Lib.hid (Own_lower hO (show W.heap.size ≤ _ by simp) |>.mono (ok' := fun k => W.heap.size ≤ k) (fun k hk => by rw [World.size_alloc] at hk; omega))
 have HG := Lib.hid hG
 clear hO hG hm1
 go_wp2_with fail
 have nm : (Value.slice A1 r.1.length k1).ownBlock ≠ some m := fun e => by
  have := (Own.block HO.out e).1
  omega
 go_end0
 refine ⟨rfl, ⟨_, HO.out.grown (gset _ _ _ _) (.inr nm) (fun k hk e => by injection e with e; omega), HM1.out.set 10 _⟩, HG.out.1.other _ _ _ HMP.out HMQ.out, ?_⟩
 exact (((G2.refl W p m).alloc _).grown HG.out.2 (fun r e => by injection e with e; omega)).set m 10 _ (by omega)
end Go.Proofs.YtofaiocffifhfaaGreat
end
