/- Lemmas towards this claim's statement: what the functions named here come to, each under the conditions that it states itself. -/
import Derived.Test.YtofaiocffifhfaaGreatCu2
import Derived.Shelf.Abstract
section
namespace Go.Proofs.YtofaiocffifhfaaGreat
open Go.RowKit Go.Shelf YtofaiocffifhfaaGreatB Go.Proofs.YtofaiocffifhfaaGreatW.PrintWords
def firstM (op b s g : Int) : Int × Int × Int × Bool := if 0 ≤ op - b ∧ op - b < s then (g, op - b, 32, true) else if s ≤ op - b ∧ op - b < 2 * s then (g, op - b - s, 64, true) else (0, 0, 0, false)
set_option maxRecDepth 100000 in
theorem first_any (W : World) (op b s g : Int) (r : Int × Int × Int × Bool) (hr : firstM op b s g = r) (h0 : -9223372036854775808 ≤ op) (h1 : op ≤ 9223372036854775807) (hb : 0 ≤ b ∧ b ≤ 1000) (hs : 1 ≤ s ∧ s ≤ 100) :
  Calls Tryz.prog 170 #[.int .i64 op, .int .i64 b, .int .i64 s, .int .i64 g] W fun E w' => E = .returned (.tuple #[.agg #[.int .i64 r.1, .int .i64 r.2.1, .int .i64 r.2.2.1], .bool r.2.2.2]) ∧ Below W.heap.size W w' := by
 subst hr
 obtain ⟨hb0, hb1⟩ := hb
 obtain ⟨hs0, hs1⟩ := hs
 by_cases hlo : op - b < -9223372036854775808
 ·have HV := Lib.hid (show firstM op b s g = (0, 0, 0, false) from by rw [firstM, if_neg (by omega), if_neg (by omega)])
  obtain ⟨m, hm, hm2⟩ : ∃ m : Int, wrap64 (op - b) = m ∧ 1000 ≤ m := ⟨_, rfl, by unfold wrap64; omega⟩
  have h5 : ¬ m < s := by omega
  have h6 : ¬ m < 2 * s := by omega
  have h7 : 0 ≤ m := by omega
  clear h0 hlo
  go_enter Tryz.func170, Tryz.ntmps170
  go_wp2_with fail
  rw [HV.out]
  exact bodyPost_ret (v := .tuple #[.agg #[.int .i64 0, .int .i64 0, .int .i64 0], .bool false]) (by simp [results, Tryz.results170, go_sem]) rfl ⟨rfl, by (repeat (first | exact (Below.refl _ _) | refine Below.setCell ?_ (by first | (simp; done) | (simp; omega)) _ | refine Below.alloc ?_ (by first | (simp; done) | (simp [World.setCell]; omega)) _))⟩
 by_cases h2 : 0 ≤ op - b
 ·by_cases h3 : op - b < s
  ·have HV := Lib.hid (show firstM op b s g = (g, op - b, 32, true) from if_pos ⟨h2, h3⟩)
   go_enter Tryz.func170, Tryz.ntmps170
   go_wp2_with fail
   rw [HV.out]
   exact bodyPost_ret (v := .tuple #[.agg #[.int .i64 g, .int .i64 (op - b), .int .i64 32], .bool true]) (by simp [results, Tryz.results170, go_sem]) rfl ⟨rfl, by (repeat (first | exact (Below.refl _ _) | refine Below.setCell ?_ (by first | (simp; done) | (simp; omega)) _ | refine Below.alloc ?_ (by first | (simp; done) | (simp [World.setCell]; omega)) _))⟩
  ·by_cases h4 : op - b < 2 * s
   ·have HV := Lib.hid (show firstM op b s g = (g, op - b - s, 64, true) from by rw [firstM, if_neg (fun h => h3 h.2), if_pos ⟨by omega, h4⟩])
    go_enter Tryz.func170, Tryz.ntmps170
    go_wp2_with fail
    rw [HV.out]
    exact bodyPost_ret (v := .tuple #[.agg #[.int .i64 g, .int .i64 (op - b - s), .int .i64 64], .bool true]) (by simp [results, Tryz.results170, go_sem]) rfl ⟨rfl, by (repeat (first | exact (Below.refl _ _) | refine Below.setCell ?_ (by first | (simp; done) | (simp; omega)) _ | refine Below.alloc ?_ (by first | (simp; done) | (simp [World.setCell]; omega)) _))⟩
   ·have HV := Lib.hid (show firstM op b s g = (0, 0, 0, false) from by rw [firstM, if_neg (fun h => h3 h.2), if_neg (fun h => h4 h.2)])
    go_enter Tryz.func170, Tryz.ntmps170
    go_wp2_with fail
    rw [HV.out]
    exact bodyPost_ret (v := .tuple #[.agg #[.int .i64 0, .int .i64 0, .int .i64 0], .bool false]) (by simp [results, Tryz.results170, go_sem]) rfl ⟨rfl, by (repeat (first | exact (Below.refl _ _) | refine Below.setCell ?_ (by first | (simp; done) | (simp; omega)) _ | refine Below.alloc ?_ (by first | (simp; done) | (simp [World.setCell]; omega)) _))⟩
 ·have HV := Lib.hid (show firstM op b s g = (0, 0, 0, false) from by rw [firstM, if_neg (fun h => h2 h.1), if_neg (fun h => by omega)])
  go_enter Tryz.func170, Tryz.ntmps170
  go_wp2_with fail
  rw [HV.out]
  exact bodyPost_ret (v := .tuple #[.agg #[.int .i64 0, .int .i64 0, .int .i64 0], .bool false]) (by simp [results, Tryz.results170, go_sem]) rfl ⟨rfl, by (repeat (first | exact (Below.refl _ _) | refine Below.setCell ?_ (by first | (simp; done) | (simp; omega)) _ | refine Below.alloc ?_ (by first | (simp; done) | (simp [World.setCell]; omega)) _))⟩
def FindPost (W : World) (r : Int × Int × Int) (E : Ending) (w' : World) : Prop := E = .returned (.agg #[.int .i64 r.1, .int .i64 r.2.1, .int .i64 r.2.2]) ∧ Below W.heap.size W w'
theorem find_step {A B C D : World} {g : Nat} {cs : Array Value} {t : TypeId} (h : Below g A B) (hb : Blk B g cs t) (hz : g < B.heap.size) (h' : Below D.heap.size D C) (hD : Below B.heap.size B D := by first | exact Below.refl _ _ | exact (Below.refl _ _).alloc (Nat.le_refl _) _ | exact ((Below.refl _ _).alloc (Nat.le_refl _) _).alloc (by simp) _ | exact (((Below.refl _ _).alloc (Nat.le_refl _) _).alloc (by simp) _).alloc (by simp; omega) _) : Below g A C ∧ Blk C g cs t ∧ g < C.heap.size := by
 have h2 := hD.trans (h'.mono hD.size)
 have := h2.size
 exact ⟨h.trans (h2.mono (by omega)), hb.below h2 hz, by omega⟩
theorem fin_cells {V : World} {g : Nat} {a b c : Value} {t : TypeId} (hb : Blk V g #[a, b, c] t) (hz : g < V.heap.size) (x y z : Value) :
  (∀ o, ((((V.setCell ⟨g, 0, none⟩ x).setCell ⟨g, 1, none⟩ y).setCell ⟨g, 2, none⟩ z).alloc o).cell? ⟨g, 0, none⟩ = some x) ∧ (∀ o, ((((V.setCell ⟨g, 0, none⟩ x).setCell ⟨g, 1, none⟩ y).setCell ⟨g, 2, none⟩ z).alloc o).cell? ⟨g, 1, none⟩ = some y) ∧ (∀ o, ((((V.setCell ⟨g, 0, none⟩ x).setCell ⟨g, 1, none⟩ y).setCell ⟨g, 2, none⟩ z).alloc o).cell? ⟨g, 2, none⟩ = some z) := by
 have h := ((hb.set 0 x).set 1 y).set 2 z
 exact ⟨fun o => by rw [(h.alloc o).cell]; rfl, fun o => by rw [(h.alloc o).cell]; rfl, fun o => by rw [(h.alloc o).cell]; rfl⟩
theorem find_cells {B : World} {g : Nat} {a b c : Value} {t : TypeId} (hb : Blk B g #[a, b, c] t) : B.cell? ⟨g, 0, none⟩ = some a ∧ B.cell? ⟨g, 1, none⟩ = some b ∧ B.cell? ⟨g, 2, none⟩ = some c ∧ B.frozen? ⟨g, 0, none⟩ = false ∧ B.frozen? ⟨g, 1, none⟩ = false ∧ B.frozen? ⟨g, 2, none⟩ = false :=
 ⟨by rw [hb.cell]; rfl, by rw [hb.cell]; rfl, by rw [hb.cell]; rfl, hb.frozen 0, hb.frozen 1, hb.frozen 2⟩
set_option maxRecDepth 100000 in
set_option maxHeartbeats 1000000 in
theorem find_69 (W : World) : Calls Tryz.prog 165 #[.int .i64 69] W (FindPost W (1, 0, 32)) := by
 have q0 := Lib.hid (fun X => first_any X 69 69 11 2 (2, 0, 32, true) (by decide) (by omega) (by omega) (by omega) (by omega))
 go_enter Tryz.func165, Tryz.ntmps165
 have hB0 := (Below.refl W.heap.size W).alloc (Nat.le_refl _) (.cells #[.int .i64 0, .int .i64 0, .int .i64 0] 239)
 have hb0 := Blk.new W #[.int .i64 0, .int .i64 0, .int .i64 0] 239
 have hz0 : W.heap.size < (W.alloc (.cells #[.int .i64 0, .int .i64 0, .int .i64 0] 239)).heap.size := by simp
 go_wp2_with fail
 refine (q0.out _).mono ?_
 rintro E0 V1 ⟨rfl, hq0⟩
 obtain ⟨hB1, hb1, hz1⟩ := find_step hB0 hb0 hz0 hq0
 clear hq0 hB0 hb0 hz0 q0
 obtain ⟨f0, f1, f2, i0, i1, i2⟩ := find_cells hb1
 have hbf := Lib.hid hb1
 clear hb1
 go_wp2_with fail
 all_goals
  obtain ⟨e0, e1, e2⟩ := fin_cells hbf.out hz1 (.int .i64 1) (.int .i64 0) (.int .i64 32)
  exact bodyPost_ret (v := .agg #[.int .i64 1, .int .i64 0, .int .i64 32]) (by simp [results, Tryz.results165, go_sem, e0, e1, e2]) rfl ⟨rfl, by (repeat (first | exact hB1 | refine Below.setCell ?_ (by first | (simp; done) | (simp; omega)) _ | refine Below.alloc ?_ (by first | (simp; done) | (simp [World.setCell]; omega)) _))⟩
set_option maxRecDepth 100000 in
set_option maxHeartbeats 1000000 in
theorem find_70 (W : World) (op : Int) (h0 : 70 ≤ op) (h1 : op ≤ 79) : Calls Tryz.prog 165 #[.int .i64 op] W (FindPost W (2, op - 69, 32)) := by
 have q0 := Lib.hid (fun X => first_any X op 69 11 2 (2, op - 69, 32, true) (by rw [firstM, if_pos (by omega)]) (by omega) (by omega) (by omega) (by omega))
 go_enter Tryz.func165, Tryz.ntmps165
 have hB0 := (Below.refl W.heap.size W).alloc (Nat.le_refl _) (.cells #[.int .i64 0, .int .i64 0, .int .i64 0] 239)
 have hb0 := Blk.new W #[.int .i64 0, .int .i64 0, .int .i64 0] 239
 have hz0 : W.heap.size < (W.alloc (.cells #[.int .i64 0, .int .i64 0, .int .i64 0] 239)).heap.size := by simp
 go_wp2_with fail
 refine (q0.out _).mono ?_
 rintro E0 V1 ⟨rfl, hq0⟩
 obtain ⟨hB1, hb1, hz1⟩ := find_step hB0 hb0 hz0 hq0
 clear hq0 hB0 hb0 hz0 q0
 obtain ⟨f0, f1, f2, i0, i1, i2⟩ := find_cells hb1
 have hbf := Lib.hid hb1
 clear hb1
 go_wp2_with fail
 all_goals
  obtain ⟨e0, e1, e2⟩ := fin_cells hbf.out hz1 (.int .i64 2) (.int .i64 (op - 69)) (.int .i64 32)
  exact bodyPost_ret (v := .agg #[.int .i64 2, .int .i64 (op - 69), .int .i64 32]) (by simp [results, Tryz.results165, go_sem, e0, e1, e2]) rfl ⟨rfl, by (repeat (first | exact hB1 | refine Below.setCell ?_ (by first | (simp; done) | (simp; omega)) _ | refine Below.alloc ?_ (by first | (simp; done) | (simp [World.setCell]; omega)) _))⟩
set_option maxRecDepth 100000 in
set_option maxHeartbeats 1000000 in
theorem find_80 (W : World) : Calls Tryz.prog 165 #[.int .i64 80] W (FindPost W (1, 0, 64)) := by
 have q0 := Lib.hid (fun X => first_any X 80 69 11 2 (2, 0, 64, true) (by decide) (by omega) (by omega) (by omega) (by omega))
 go_enter Tryz.func165, Tryz.ntmps165
 have hB0 := (Below.refl W.heap.size W).alloc (Nat.le_refl _) (.cells #[.int .i64 0, .int .i64 0, .int .i64 0] 239)
 have hb0 := Blk.new W #[.int .i64 0, .int .i64 0, .int .i64 0] 239
 have hz0 : W.heap.size < (W.alloc (.cells #[.int .i64 0, .int .i64 0, .int .i64 0] 239)).heap.size := by simp
 go_wp2_with fail
 refine (q0.out _).mono ?_
 rintro E0 V1 ⟨rfl, hq0⟩
 obtain ⟨hB1, hb1, hz1⟩ := find_step hB0 hb0 hz0 hq0
 clear hq0 hB0 hb0 hz0 q0
 obtain ⟨f0, f1, f2, i0, i1, i2⟩ := find_cells hb1
 have hbf := Lib.hid hb1
 clear hb1
 go_wp2_with fail
 all_goals
  obtain ⟨e0, e1, e2⟩ := fin_cells hbf.out hz1 (.int .i64 1) (.int .i64 0) (.int .i64 64)
  exact bodyPost_ret (v := .agg #[.int .i64 1, .int .i64 0, .int .i64 64]) (by simp [results, Tryz.results165, go_sem, e0, e1, e2]) rfl ⟨rfl, by (repeat (first | exact hB1 | refine Below.setCell ?_ (by first | (simp; done) | (simp; omega)) _ | refine Below.alloc ?_ (by first | (simp; done) | (simp [World.setCell]; omega)) _))⟩
set_option maxRecDepth 100000 in
set_option maxHeartbeats 1000000 in
theorem find_81 (W : World) (op : Int) (h0 : 81 ≤ op) (h1 : op ≤ 90) : Calls Tryz.prog 165 #[.int .i64 op] W (FindPost W (2, op - 69 - 11, 64)) := by
 have q0 := Lib.hid (fun X => first_any X op 69 11 2 (2, op - 69 - 11, 64, true) (by rw [firstM, if_neg (by omega), if_pos (by omega)]) (by omega) (by omega) (by omega) (by omega))
 go_enter Tryz.func165, Tryz.ntmps165
 have hB0 := (Below.refl W.heap.size W).alloc (Nat.le_refl _) (.cells #[.int .i64 0, .int .i64 0, .int .i64 0] 239)
 have hb0 := Blk.new W #[.int .i64 0, .int .i64 0, .int .i64 0] 239
 have hz0 : W.heap.size < (W.alloc (.cells #[.int .i64 0, .int .i64 0, .int .i64 0] 239)).heap.size := by simp
 go_wp2_with fail
 refine (q0.out _).mono ?_
 rintro E0 V1 ⟨rfl, hq0⟩
 obtain ⟨hB1, hb1, hz1⟩ := find_step hB0 hb0 hz0 hq0
 clear hq0 hB0 hb0 hz0 q0
 obtain ⟨f0, f1, f2, i0, i1, i2⟩ := find_cells hb1
 have hbf := Lib.hid hb1
 clear hb1
 go_wp2_with fail
 all_goals
  obtain ⟨e0, e1, e2⟩ := fin_cells hbf.out hz1 (.int .i64 2) (.int .i64 (op - 69 - 11)) (.int .i64 64)
  exact bodyPost_ret (v := .agg #[.int .i64 2, .int .i64 (op - 69 - 11), .int .i64 64]) (by simp [results, Tryz.results165, go_sem, e0, e1, e2]) rfl ⟨rfl, by (repeat (first | exact hB1 | refine Below.setCell ?_ (by first | (simp; done) | (simp; omega)) _ | refine Below.alloc ?_ (by first | (simp; done) | (simp [World.setCell]; omega)) _))⟩
set_option maxRecDepth 100000 in
set_option maxHeartbeats 1000000 in
theorem find_91 (W : World) (op : Int) (h0 : 91 ≤ op) (h1 : op ≤ 96) : Calls Tryz.prog 165 #[.int .i64 op] W (FindPost W (3, op - 91, 32)) := by
 have q0 := Lib.hid (fun X => first_any X op 69 11 2 (0, 0, 0, false) (by rw [firstM, if_neg (by omega), if_neg (by omega)]) (by omega) (by omega) (by omega) (by omega))
 have q1 := Lib.hid (fun X => first_any X op 91 6 3 (3, op - 91, 32, true) (by rw [firstM, if_pos (by omega)]) (by omega) (by omega) (by omega) (by omega))
 go_enter Tryz.func165, Tryz.ntmps165
 have hB0 := (Below.refl W.heap.size W).alloc (Nat.le_refl _) (.cells #[.int .i64 0, .int .i64 0, .int .i64 0] 239)
 have hb0 := Blk.new W #[.int .i64 0, .int .i64 0, .int .i64 0] 239
 have hz0 : W.heap.size < (W.alloc (.cells #[.int .i64 0, .int .i64 0, .int .i64 0] 239)).heap.size := by simp
 go_wp2_with fail
 refine (q0.out _).mono ?_
 rintro E0 V1 ⟨rfl, hq0⟩
 obtain ⟨hB1, hb1, hz1⟩ := find_step hB0 hb0 hz0 hq0
 clear hq0 hB0 hb0 hz0 q0
 go_wp2_with fail
 refine (q1.out _).mono ?_
 rintro E1 V2 ⟨rfl, hq1⟩
 obtain ⟨hB2, hb2, hz2⟩ := find_step hB1 hb1 hz1 hq1
 clear hq1 hB1 hb1 hz1 q1
 obtain ⟨f0, f1, f2, i0, i1, i2⟩ := find_cells hb2
 have hbf := Lib.hid hb2
 clear hb2
 go_wp2_with fail
 all_goals
  obtain ⟨e0, e1, e2⟩ := fin_cells hbf.out hz2 (.int .i64 3) (.int .i64 (op - 91)) (.int .i64 32)
  exact bodyPost_ret (v := .agg #[.int .i64 3, .int .i64 (op - 91), .int .i64 32]) (by simp [results, Tryz.results165, go_sem, e0, e1, e2]) rfl ⟨rfl, by (repeat (first | exact hB2 | refine Below.setCell ?_ (by first | (simp; done) | (simp; omega)) _ | refine Below.alloc ?_ (by first | (simp; done) | (simp [World.setCell]; omega)) _))⟩
set_option maxRecDepth 100000 in
set_option maxHeartbeats 1000000 in
theorem find_97 (W : World) (op : Int) (h0 : 97 ≤ op) (h1 : op ≤ 102) : Calls Tryz.prog 165 #[.int .i64 op] W (FindPost W (3, op - 91 - 6, 64)) := by
 have q0 := Lib.hid (fun X => first_any X op 69 11 2 (0, 0, 0, false) (by rw [firstM, if_neg (by omega), if_neg (by omega)]) (by omega) (by omega) (by omega) (by omega))
 have q1 := Lib.hid (fun X => first_any X op 91 6 3 (3, op - 91 - 6, 64, true) (by rw [firstM, if_neg (by omega), if_pos (by omega)]) (by omega) (by omega) (by omega) (by omega))
 go_enter Tryz.func165, Tryz.ntmps165
 have hB0 := (Below.refl W.heap.size W).alloc (Nat.le_refl _) (.cells #[.int .i64 0, .int .i64 0, .int .i64 0] 239)
 have hb0 := Blk.new W #[.int .i64 0, .int .i64 0, .int .i64 0] 239
 have hz0 : W.heap.size < (W.alloc (.cells #[.int .i64 0, .int .i64 0, .int .i64 0] 239)).heap.size := by simp
 go_wp2_with fail
 refine (q0.out _).mono ?_
 rintro E0 V1 ⟨rfl, hq0⟩
 obtain ⟨hB1, hb1, hz1⟩ := find_step hB0 hb0 hz0 hq0
 clear hq0 hB0 hb0 hz0 q0
 go_wp2_with fail
 refine (q1.out _).mono ?_
 rintro E1 V2 ⟨rfl, hq1⟩
 obtain ⟨hB2, hb2, hz2⟩ := find_step hB1 hb1 hz1 hq1
 clear hq1 hB1 hb1 hz1 q1
 obtain ⟨f0, f1, f2, i0, i1, i2⟩ := find_cells hb2
 have hbf := Lib.hid hb2
 clear hb2
 go_wp2_with fail
 all_goals
  obtain ⟨e0, e1, e2⟩ := fin_cells hbf.out hz2 (.int .i64 3) (.int .i64 (op - 91 - 6)) (.int .i64 64)
  exact bodyPost_ret (v := .agg #[.int .i64 3, .int .i64 (op - 91 - 6), .int .i64 64]) (by simp [results, Tryz.results165, go_sem, e0, e1, e2]) rfl ⟨rfl, by (repeat (first | exact hB2 | refine Below.setCell ?_ (by first | (simp; done) | (simp; omega)) _ | refine Below.alloc ?_ (by first | (simp; done) | (simp [World.setCell]; omega)) _))⟩
set_option maxRecDepth 100000 in
set_option maxHeartbeats 1000000 in
theorem find_103 (W : World) (op : Int) (h0 : 103 ≤ op) (h1 : op ≤ 105) : Calls Tryz.prog 165 #[.int .i64 op] W (FindPost W (4, op - 103, 32)) := by
 have q0 := Lib.hid (fun X => first_any X op 69 11 2 (0, 0, 0, false) (by rw [firstM, if_neg (by omega), if_neg (by omega)]) (by omega) (by omega) (by omega) (by omega))
 have q1 := Lib.hid (fun X => first_any X op 91 6 3 (0, 0, 0, false) (by rw [firstM, if_neg (by omega), if_neg (by omega)]) (by omega) (by omega) (by omega) (by omega))
 have q2 := Lib.hid (fun X => first_any X op 103 18 5 (5, op - 103, 32, true) (by rw [firstM, if_pos (by omega)]) (by omega) (by omega) (by omega) (by omega))
 go_enter Tryz.func165, Tryz.ntmps165
 have hB0 := (Below.refl W.heap.size W).alloc (Nat.le_refl _) (.cells #[.int .i64 0, .int .i64 0, .int .i64 0] 239)
 have hb0 := Blk.new W #[.int .i64 0, .int .i64 0, .int .i64 0] 239
 have hz0 : W.heap.size < (W.alloc (.cells #[.int .i64 0, .int .i64 0, .int .i64 0] 239)).heap.size := by simp
 go_wp2_with fail
 refine (q0.out _).mono ?_
 rintro E0 V1 ⟨rfl, hq0⟩
 obtain ⟨hB1, hb1, hz1⟩ := find_step hB0 hb0 hz0 hq0
 clear hq0 hB0 hb0 hz0 q0
 go_wp2_with fail
 refine (q1.out _).mono ?_
 rintro E1 V2 ⟨rfl, hq1⟩
 obtain ⟨hB2, hb2, hz2⟩ := find_step hB1 hb1 hz1 hq1
 clear hq1 hB1 hb1 hz1 q1
 go_wp2_with fail
 refine (q2.out _).mono ?_
 rintro E2 V3 ⟨rfl, hq2⟩
 obtain ⟨hB3, hb3, hz3⟩ := find_step hB2 hb2 hz2 hq2
 clear hq2 hB2 hb2 hz2 q2
 obtain ⟨f0, f1, f2, i0, i1, i2⟩ := find_cells hb3
 have hbf := Lib.hid hb3
 clear hb3
 go_wp2_with fail
 all_goals
  obtain ⟨e0, e1, e2⟩ := fin_cells hbf.out hz3 (.int .i64 4) (.int .i64 (op - 103)) (.int .i64 32)
  exact bodyPost_ret (v := .agg #[.int .i64 4, .int .i64 (op - 103), .int .i64 32]) (by simp [results, Tryz.results165, go_sem, e0, e1, e2]) rfl ⟨rfl, by (repeat (first | exact hB3 | refine Below.setCell ?_ (by first | (simp; done) | (simp; omega)) _ | refine Below.alloc ?_ (by first | (simp; done) | (simp [World.setCell]; omega)) _))⟩
set_option maxRecDepth 100000 in
set_option maxHeartbeats 1000000 in
theorem find_106 (W : World) (op : Int) (h0 : 106 ≤ op) (h1 : op ≤ 120) : Calls Tryz.prog 165 #[.int .i64 op] W (FindPost W (5, op - 103, 32)) := by
 have q0 := Lib.hid (fun X => first_any X op 69 11 2 (0, 0, 0, false) (by rw [firstM, if_neg (by omega), if_neg (by omega)]) (by omega) (by omega) (by omega) (by omega))
 have q1 := Lib.hid (fun X => first_any X op 91 6 3 (0, 0, 0, false) (by rw [firstM, if_neg (by omega), if_neg (by omega)]) (by omega) (by omega) (by omega) (by omega))
 have q2 := Lib.hid (fun X => first_any X op 103 18 5 (5, op - 103, 32, true) (by rw [firstM, if_pos (by omega)]) (by omega) (by omega) (by omega) (by omega))
 go_enter Tryz.func165, Tryz.ntmps165
 have hB0 := (Below.refl W.heap.size W).alloc (Nat.le_refl _) (.cells #[.int .i64 0, .int .i64 0, .int .i64 0] 239)
 have hb0 := Blk.new W #[.int .i64 0, .int .i64 0, .int .i64 0] 239
 have hz0 : W.heap.size < (W.alloc (.cells #[.int .i64 0, .int .i64 0, .int .i64 0] 239)).heap.size := by simp
 go_wp2_with fail
 refine (q0.out _).mono ?_
 rintro E0 V1 ⟨rfl, hq0⟩
 obtain ⟨hB1, hb1, hz1⟩ := find_step hB0 hb0 hz0 hq0
 clear hq0 hB0 hb0 hz0 q0
 go_wp2_with fail
 refine (q1.out _).mono ?_
 rintro E1 V2 ⟨rfl, hq1⟩
 obtain ⟨hB2, hb2, hz2⟩ := find_step hB1 hb1 hz1 hq1
 clear hq1 hB1 hb1 hz1 q1
 go_wp2_with fail
 refine (q2.out _).mono ?_
 rintro E2 V3 ⟨rfl, hq2⟩
 obtain ⟨hB3, hb3, hz3⟩ := find_step hB2 hb2 hz2 hq2
 clear hq2 hB2 hb2 hz2 q2
 obtain ⟨f0, f1, f2, i0, i1, i2⟩ := find_cells hb3
 have hbf := Lib.hid hb3
 clear hb3
 go_wp2_with fail
 all_goals
  obtain ⟨e0, e1, e2⟩ := fin_cells hbf.out hz3 (.int .i64 5) (.int .i64 (op - 103)) (.int .i64 32)
  exact bodyPost_ret (v := .agg #[.int .i64 5, .int .i64 (op - 103), .int .i64 32]) (by simp [results, Tryz.results165, go_sem, e0, e1, e2]) rfl ⟨rfl, by (repeat (first | exact hB3 | refine Below.setCell ?_ (by first | (simp; done) | (simp; omega)) _ | refine Below.alloc ?_ (by first | (simp; done) | (simp [World.setCell]; omega)) _))⟩
set_option maxRecDepth 100000 in
set_option maxHeartbeats 1000000 in
theorem find_121 (W : World) (op : Int) (h0 : 121 ≤ op) (h1 : op ≤ 123) : Calls Tryz.prog 165 #[.int .i64 op] W (FindPost W (4, op - 103 - 18, 64)) := by
 have q0 := Lib.hid (fun X => first_any X op 69 11 2 (0, 0, 0, false) (by rw [firstM, if_neg (by omega), if_neg (by omega)]) (by omega) (by omega) (by omega) (by omega))
 have q1 := Lib.hid (fun X => first_any X op 91 6 3 (0, 0, 0, false) (by rw [firstM, if_neg (by omega), if_neg (by omega)]) (by omega) (by omega) (by omega) (by omega))
 have q2 := Lib.hid (fun X => first_any X op 103 18 5 (5, op - 103 - 18, 64, true) (by rw [firstM, if_neg (by omega), if_pos (by omega)]) (by omega) (by omega) (by omega) (by omega))
 go_enter Tryz.func165, Tryz.ntmps165
 have hB0 := (Below.refl W.heap.size W).alloc (Nat.le_refl _) (.cells #[.int .i64 0, .int .i64 0, .int .i64 0] 239)
 have hb0 := Blk.new W #[.int .i64 0, .int .i64 0, .int .i64 0] 239
 have hz0 : W.heap.size < (W.alloc (.cells #[.int .i64 0, .int .i64 0, .int .i64 0] 239)).heap.size := by simp
 go_wp2_with fail
 refine (q0.out _).mono ?_
 rintro E0 V1 ⟨rfl, hq0⟩
 obtain ⟨hB1, hb1, hz1⟩ := find_step hB0 hb0 hz0 hq0
 clear hq0 hB0 hb0 hz0 q0
 go_wp2_with fail
 refine (q1.out _).mono ?_
 rintro E1 V2 ⟨rfl, hq1⟩
 obtain ⟨hB2, hb2, hz2⟩ := find_step hB1 hb1 hz1 hq1
 clear hq1 hB1 hb1 hz1 q1
 go_wp2_with fail
 refine (q2.out _).mono ?_
 rintro E2 V3 ⟨rfl, hq2⟩
 obtain ⟨hB3, hb3, hz3⟩ := find_step hB2 hb2 hz2 hq2
 clear hq2 hB2 hb2 hz2 q2
 obtain ⟨f0, f1, f2, i0, i1, i2⟩ := find_cells hb3
 have hbf := Lib.hid hb3
 clear hb3
 go_wp2_with fail
 all_goals
  obtain ⟨e0, e1, e2⟩ := fin_cells hbf.out hz3 (.int .i64 4) (.int .i64 (op - 103 - 18)) (.int .i64 64)
  exact bodyPost_ret (v := .agg #[.int .i64 4, .int .i64 (op - 103 - 18), .int .i64 64]) (by simp [results, Tryz.results165, go_sem, e0, e1, e2]) rfl ⟨rfl, by (repeat (first | exact hB3 | refine Below.setCell ?_ (by first | (simp; done) | (simp; omega)) _ | refine Below.alloc ?_ (by first | (simp; done) | (simp [World.setCell]; omega)) _))⟩
set_option maxRecDepth 100000 in
set_option maxHeartbeats 1000000 in
theorem find_124 (W : World) (op : Int) (h0 : 124 ≤ op) (h1 : op ≤ 138) : Calls Tryz.prog 165 #[.int .i64 op] W (FindPost W (5, op - 103 - 18, 64)) := by
 have q0 := Lib.hid (fun X => first_any X op 69 11 2 (0, 0, 0, false) (by rw [firstM, if_neg (by omega), if_neg (by omega)]) (by omega) (by omega) (by omega) (by omega))
 have q1 := Lib.hid (fun X => first_any X op 91 6 3 (0, 0, 0, false) (by rw [firstM, if_neg (by omega), if_neg (by omega)]) (by omega) (by omega) (by omega) (by omega))
 have q2 := Lib.hid (fun X => first_any X op 103 18 5 (5, op - 103 - 18, 64, true) (by rw [firstM, if_neg (by omega), if_pos (by omega)]) (by omega) (by omega) (by omega) (by omega))
 go_enter Tryz.func165, Tryz.ntmps165
 have hB0 := (Below.refl W.heap.size W).alloc (Nat.le_refl _) (.cells #[.int .i64 0, .int .i64 0, .int .i64 0] 239)
 have hb0 := Blk.new W #[.int .i64 0, .int .i64 0, .int .i64 0] 239
 have hz0 : W.heap.size < (W.alloc (.cells #[.int .i64 0, .int .i64 0, .int .i64 0] 239)).heap.size := by simp
 go_wp2_with fail
 refine (q0.out _).mono ?_
 rintro E0 V1 ⟨rfl, hq0⟩
 obtain ⟨hB1, hb1, hz1⟩ := find_step hB0 hb0 hz0 hq0
 clear hq0 hB0 hb0 hz0 q0
 go_wp2_with fail
 refine (q1.out _).mono ?_
 rintro E1 V2 ⟨rfl, hq1⟩
 obtain ⟨hB2, hb2, hz2⟩ := find_step hB1 hb1 hz1 hq1
 clear hq1 hB1 hb1 hz1 q1
 go_wp2_with fail
 refine (q2.out _).mono ?_
 rintro E2 V3 ⟨rfl, hq2⟩
 obtain ⟨hB3, hb3, hz3⟩ := find_step hB2 hb2 hz2 hq2
 clear hq2 hB2 hb2 hz2 q2
 obtain ⟨f0, f1, f2, i0, i1, i2⟩ := find_cells hb3
 have hbf := Lib.hid hb3
 clear hb3
 go_wp2_with fail
 all_goals
  obtain ⟨e0, e1, e2⟩ := fin_cells hbf.out hz3 (.int .i64 5) (.int .i64 (op - 103 - 18)) (.int .i64 64)
  exact bodyPost_ret (v := .agg #[.int .i64 5, .int .i64 (op - 103 - 18), .int .i64 64]) (by simp [results, Tryz.results165, go_sem, e0, e1, e2]) rfl ⟨rfl, by (repeat (first | exact hB3 | refine Below.setCell ?_ (by first | (simp; done) | (simp; omega)) _ | refine Below.alloc ?_ (by first | (simp; done) | (simp [World.setCell]; omega)) _))⟩
set_option maxRecDepth 100000 in
set_option maxHeartbeats 1000000 in
theorem find_139 (W : World) (op : Int) (h0 : 139 ≤ op) (h1 : op ≤ 145) : Calls Tryz.prog 165 #[.int .i64 op] W (FindPost W (6, op - 139, 32)) := by
 have q0 := Lib.hid (fun X => first_any X op 69 11 2 (0, 0, 0, false) (by rw [firstM, if_neg (by omega), if_neg (by omega)]) (by omega) (by omega) (by omega) (by omega))
 have q1 := Lib.hid (fun X => first_any X op 91 6 3 (0, 0, 0, false) (by rw [firstM, if_neg (by omega), if_neg (by omega)]) (by omega) (by omega) (by omega) (by omega))
 have q2 := Lib.hid (fun X => first_any X op 103 18 5 (0, 0, 0, false) (by rw [firstM, if_neg (by omega), if_neg (by omega)]) (by omega) (by omega) (by omega) (by omega))
 have q3 := Lib.hid (fun X => first_any X op 139 14 7 (7, op - 139, 32, true) (by rw [firstM, if_pos (by omega)]) (by omega) (by omega) (by omega) (by omega))
 go_enter Tryz.func165, Tryz.ntmps165
 have hB0 := (Below.refl W.heap.size W).alloc (Nat.le_refl _) (.cells #[.int .i64 0, .int .i64 0, .int .i64 0] 239)
 have hb0 := Blk.new W #[.int .i64 0, .int .i64 0, .int .i64 0] 239
 have hz0 : W.heap.size < (W.alloc (.cells #[.int .i64 0, .int .i64 0, .int .i64 0] 239)).heap.size := by simp
 go_wp2_with fail
 refine (q0.out _).mono ?_
 rintro E0 V1 ⟨rfl, hq0⟩
 obtain ⟨hB1, hb1, hz1⟩ := find_step hB0 hb0 hz0 hq0
 clear hq0 hB0 hb0 hz0 q0
 go_wp2_with fail
 refine (q1.out _).mono ?_
 rintro E1 V2 ⟨rfl, hq1⟩
 obtain ⟨hB2, hb2, hz2⟩ := find_step hB1 hb1 hz1 hq1
 clear hq1 hB1 hb1 hz1 q1
 go_wp2_with fail
 refine (q2.out _).mono ?_
 rintro E2 V3 ⟨rfl, hq2⟩
 obtain ⟨hB3, hb3, hz3⟩ := find_step hB2 hb2 hz2 hq2
 clear hq2 hB2 hb2 hz2 q2
 go_wp2_with fail
 refine (q3.out _).mono ?_
 rintro E3 V4 ⟨rfl, hq3⟩
 obtain ⟨hB4, hb4, hz4⟩ := find_step hB3 hb3 hz3 hq3
 clear hq3 hB3 hb3 hz3 q3
 obtain ⟨f0, f1, f2, i0, i1, i2⟩ := find_cells hb4
 have hbf := Lib.hid hb4
 clear hb4
 go_wp2_with fail
 all_goals
  obtain ⟨e0, e1, e2⟩ := fin_cells hbf.out hz4 (.int .i64 6) (.int .i64 (op - 139)) (.int .i64 32)
  exact bodyPost_ret (v := .agg #[.int .i64 6, .int .i64 (op - 139), .int .i64 32]) (by simp [results, Tryz.results165, go_sem, e0, e1, e2]) rfl ⟨rfl, by (repeat (first | exact hB4 | refine Below.setCell ?_ (by first | (simp; done) | (simp; omega)) _ | refine Below.alloc ?_ (by first | (simp; done) | (simp [World.setCell]; omega)) _))⟩
set_option maxRecDepth 100000 in
set_option maxHeartbeats 1000000 in
theorem find_146 (W : World) (op : Int) (h0 : 146 ≤ op) (h1 : op ≤ 152) : Calls Tryz.prog 165 #[.int .i64 op] W (FindPost W (7, op - 139, 32)) := by
 have q0 := Lib.hid (fun X => first_any X op 69 11 2 (0, 0, 0, false) (by rw [firstM, if_neg (by omega), if_neg (by omega)]) (by omega) (by omega) (by omega) (by omega))
 have q1 := Lib.hid (fun X => first_any X op 91 6 3 (0, 0, 0, false) (by rw [firstM, if_neg (by omega), if_neg (by omega)]) (by omega) (by omega) (by omega) (by omega))
 have q2 := Lib.hid (fun X => first_any X op 103 18 5 (0, 0, 0, false) (by rw [firstM, if_neg (by omega), if_neg (by omega)]) (by omega) (by omega) (by omega) (by omega))
 have q3 := Lib.hid (fun X => first_any X op 139 14 7 (7, op - 139, 32, true) (by rw [firstM, if_pos (by omega)]) (by omega) (by omega) (by omega) (by omega))
 go_enter Tryz.func165, Tryz.ntmps165
 have hB0 := (Below.refl W.heap.size W).alloc (Nat.le_refl _) (.cells #[.int .i64 0, .int .i64 0, .int .i64 0] 239)
 have hb0 := Blk.new W #[.int .i64 0, .int .i64 0, .int .i64 0] 239
 have hz0 : W.heap.size < (W.alloc (.cells #[.int .i64 0, .int .i64 0, .int .i64 0] 239)).heap.size := by simp
 go_wp2_with fail
 refine (q0.out _).mono ?_
 rintro E0 V1 ⟨rfl, hq0⟩
 obtain ⟨hB1, hb1, hz1⟩ := find_step hB0 hb0 hz0 hq0
 clear hq0 hB0 hb0 hz0 q0
 go_wp2_with fail
 refine (q1.out _).mono ?_
 rintro E1 V2 ⟨rfl, hq1⟩
 obtain ⟨hB2, hb2, hz2⟩ := find_step hB1 hb1 hz1 hq1
 clear hq1 hB1 hb1 hz1 q1
 go_wp2_with fail
 refine (q2.out _).mono ?_
 rintro E2 V3 ⟨rfl, hq2⟩
 obtain ⟨hB3, hb3, hz3⟩ := find_step hB2 hb2 hz2 hq2
 clear hq2 hB2 hb2 hz2 q2
 go_wp2_with fail
 refine (q3.out _).mono ?_
 rintro E3 V4 ⟨rfl, hq3⟩
 obtain ⟨hB4, hb4, hz4⟩ := find_step hB3 hb3 hz3 hq3
 clear hq3 hB3 hb3 hz3 q3
 obtain ⟨f0, f1, f2, i0, i1, i2⟩ := find_cells hb4
 have hbf := Lib.hid hb4
 clear hb4
 go_wp2_with fail
 all_goals
  obtain ⟨e0, e1, e2⟩ := fin_cells hbf.out hz4 (.int .i64 7) (.int .i64 (op - 139)) (.int .i64 32)
  exact bodyPost_ret (v := .agg #[.int .i64 7, .int .i64 (op - 139), .int .i64 32]) (by simp [results, Tryz.results165, go_sem, e0, e1, e2]) rfl ⟨rfl, by (repeat (first | exact hB4 | refine Below.setCell ?_ (by first | (simp; done) | (simp; omega)) _ | refine Below.alloc ?_ (by first | (simp; done) | (simp [World.setCell]; omega)) _))⟩
set_option maxRecDepth 100000 in
set_option maxHeartbeats 1000000 in
theorem find_153 (W : World) (op : Int) (h0 : 153 ≤ op) (h1 : op ≤ 159) : Calls Tryz.prog 165 #[.int .i64 op] W (FindPost W (6, op - 139 - 14, 64)) := by
 have q0 := Lib.hid (fun X => first_any X op 69 11 2 (0, 0, 0, false) (by rw [firstM, if_neg (by omega), if_neg (by omega)]) (by omega) (by omega) (by omega) (by omega))
 have q1 := Lib.hid (fun X => first_any X op 91 6 3 (0, 0, 0, false) (by rw [firstM, if_neg (by omega), if_neg (by omega)]) (by omega) (by omega) (by omega) (by omega))
 have q2 := Lib.hid (fun X => first_any X op 103 18 5 (0, 0, 0, false) (by rw [firstM, if_neg (by omega), if_neg (by omega)]) (by omega) (by omega) (by omega) (by omega))
 have q3 := Lib.hid (fun X => first_any X op 139 14 7 (7, op - 139 - 14, 64, true) (by rw [firstM, if_neg (by omega), if_pos (by omega)]) (by omega) (by omega) (by omega) (by omega))
 go_enter Tryz.func165, Tryz.ntmps165
 have hB0 := (Below.refl W.heap.size W).alloc (Nat.le_refl _) (.cells #[.int .i64 0, .int .i64 0, .int .i64 0] 239)
 have hb0 := Blk.new W #[.int .i64 0, .int .i64 0, .int .i64 0] 239
 have hz0 : W.heap.size < (W.alloc (.cells #[.int .i64 0, .int .i64 0, .int .i64 0] 239)).heap.size := by simp
 go_wp2_with fail
 refine (q0.out _).mono ?_
 rintro E0 V1 ⟨rfl, hq0⟩
 obtain ⟨hB1, hb1, hz1⟩ := find_step hB0 hb0 hz0 hq0
 clear hq0 hB0 hb0 hz0 q0
 go_wp2_with fail
 refine (q1.out _).mono ?_
 rintro E1 V2 ⟨rfl, hq1⟩
 obtain ⟨hB2, hb2, hz2⟩ := find_step hB1 hb1 hz1 hq1
 clear hq1 hB1 hb1 hz1 q1
 go_wp2_with fail
 refine (q2.out _).mono ?_
 rintro E2 V3 ⟨rfl, hq2⟩
 obtain ⟨hB3, hb3, hz3⟩ := find_step hB2 hb2 hz2 hq2
 clear hq2 hB2 hb2 hz2 q2
 go_wp2_with fail
 refine (q3.out _).mono ?_
 rintro E3 V4 ⟨rfl, hq3⟩
 obtain ⟨hB4, hb4, hz4⟩ := find_step hB3 hb3 hz3 hq3
 clear hq3 hB3 hb3 hz3 q3
 obtain ⟨f0, f1, f2, i0, i1, i2⟩ := find_cells hb4
 have hbf := Lib.hid hb4
 clear hb4
 go_wp2_with fail
 all_goals
  obtain ⟨e0, e1, e2⟩ := fin_cells hbf.out hz4 (.int .i64 6) (.int .i64 (op - 139 - 14)) (.int .i64 64)
  exact bodyPost_ret (v := .agg #[.int .i64 6, .int .i64 (op - 139 - 14), .int .i64 64]) (by simp [results, Tryz.results165, go_sem, e0, e1, e2]) rfl ⟨rfl, by (repeat (first | exact hB4 | refine Below.setCell ?_ (by first | (simp; done) | (simp; omega)) _ | refine Below.alloc ?_ (by first | (simp; done) | (simp [World.setCell]; omega)) _))⟩
set_option maxRecDepth 100000 in
set_option maxHeartbeats 1000000 in
theorem find_160 (W : World) (op : Int) (h0 : 160 ≤ op) (h1 : op ≤ 166) : Calls Tryz.prog 165 #[.int .i64 op] W (FindPost W (7, op - 139 - 14, 64)) := by
 have q0 := Lib.hid (fun X => first_any X op 69 11 2 (0, 0, 0, false) (by rw [firstM, if_neg (by omega), if_neg (by omega)]) (by omega) (by omega) (by omega) (by omega))
 have q1 := Lib.hid (fun X => first_any X op 91 6 3 (0, 0, 0, false) (by rw [firstM, if_neg (by omega), if_neg (by omega)]) (by omega) (by omega) (by omega) (by omega))
 have q2 := Lib.hid (fun X => first_any X op 103 18 5 (0, 0, 0, false) (by rw [firstM, if_neg (by omega), if_neg (by omega)]) (by omega) (by omega) (by omega) (by omega))
 have q3 := Lib.hid (fun X => first_any X op 139 14 7 (7, op - 139 - 14, 64, true) (by rw [firstM, if_neg (by omega), if_pos (by omega)]) (by omega) (by omega) (by omega) (by omega))
 go_enter Tryz.func165, Tryz.ntmps165
 have hB0 := (Below.refl W.heap.size W).alloc (Nat.le_refl _) (.cells #[.int .i64 0, .int .i64 0, .int .i64 0] 239)
 have hb0 := Blk.new W #[.int .i64 0, .int .i64 0, .int .i64 0] 239
 have hz0 : W.heap.size < (W.alloc (.cells #[.int .i64 0, .int .i64 0, .int .i64 0] 239)).heap.size := by simp
 go_wp2_with fail
 refine (q0.out _).mono ?_
 rintro E0 V1 ⟨rfl, hq0⟩
 obtain ⟨hB1, hb1, hz1⟩ := find_step hB0 hb0 hz0 hq0
 clear hq0 hB0 hb0 hz0 q0
 go_wp2_with fail
 refine (q1.out _).mono ?_
 rintro E1 V2 ⟨rfl, hq1⟩
 obtain ⟨hB2, hb2, hz2⟩ := find_step hB1 hb1 hz1 hq1
 clear hq1 hB1 hb1 hz1 q1
 go_wp2_with fail
 refine (q2.out _).mono ?_
 rintro E2 V3 ⟨rfl, hq2⟩
 obtain ⟨hB3, hb3, hz3⟩ := find_step hB2 hb2 hz2 hq2
 clear hq2 hB2 hb2 hz2 q2
 go_wp2_with fail
 refine (q3.out _).mono ?_
 rintro E3 V4 ⟨rfl, hq3⟩
 obtain ⟨hB4, hb4, hz4⟩ := find_step hB3 hb3 hz3 hq3
 clear hq3 hB3 hb3 hz3 q3
 obtain ⟨f0, f1, f2, i0, i1, i2⟩ := find_cells hb4
 have hbf := Lib.hid hb4
 clear hb4
 go_wp2_with fail
 all_goals
  obtain ⟨e0, e1, e2⟩ := fin_cells hbf.out hz4 (.int .i64 7) (.int .i64 (op - 139 - 14)) (.int .i64 64)
  exact bodyPost_ret (v := .agg #[.int .i64 7, .int .i64 (op - 139 - 14), .int .i64 64]) (by simp [results, Tryz.results165, go_sem, e0, e1, e2]) rfl ⟨rfl, by (repeat (first | exact hB4 | refine Below.setCell ?_ (by first | (simp; done) | (simp; omega)) _ | refine Below.alloc ?_ (by first | (simp; done) | (simp [World.setCell]; omega)) _))⟩
set_option maxRecDepth 100000 in
set_option maxHeartbeats 1000000 in
theorem find_167 (W : World) (op : Int) (h0 : 167 ≤ op) (h1 : op ≤ 191) : Calls Tryz.prog 165 #[.int .i64 op] W (FindPost W (8, op - 167, 0)) := by
 have q0 := Lib.hid (fun X => first_any X op 69 11 2 (0, 0, 0, false) (by rw [firstM, if_neg (by omega), if_neg (by omega)]) (by omega) (by omega) (by omega) (by omega))
 have q1 := Lib.hid (fun X => first_any X op 91 6 3 (0, 0, 0, false) (by rw [firstM, if_neg (by omega), if_neg (by omega)]) (by omega) (by omega) (by omega) (by omega))
 have q2 := Lib.hid (fun X => first_any X op 103 18 5 (0, 0, 0, false) (by rw [firstM, if_neg (by omega), if_neg (by omega)]) (by omega) (by omega) (by omega) (by omega))
 have q3 := Lib.hid (fun X => first_any X op 139 14 7 (0, 0, 0, false) (by rw [firstM, if_neg (by omega), if_neg (by omega)]) (by omega) (by omega) (by omega) (by omega))
 go_enter Tryz.func165, Tryz.ntmps165
 have hB0 := (Below.refl W.heap.size W).alloc (Nat.le_refl _) (.cells #[.int .i64 0, .int .i64 0, .int .i64 0] 239)
 have hb0 := Blk.new W #[.int .i64 0, .int .i64 0, .int .i64 0] 239
 have hz0 : W.heap.size < (W.alloc (.cells #[.int .i64 0, .int .i64 0, .int .i64 0] 239)).heap.size := by simp
 go_wp2_with fail
 refine (q0.out _).mono ?_
 rintro E0 V1 ⟨rfl, hq0⟩
 obtain ⟨hB1, hb1, hz1⟩ := find_step hB0 hb0 hz0 hq0
 clear hq0 hB0 hb0 hz0 q0
 go_wp2_with fail
 refine (q1.out _).mono ?_
 rintro E1 V2 ⟨rfl, hq1⟩
 obtain ⟨hB2, hb2, hz2⟩ := find_step hB1 hb1 hz1 hq1
 clear hq1 hB1 hb1 hz1 q1
 go_wp2_with fail
 refine (q2.out _).mono ?_
 rintro E2 V3 ⟨rfl, hq2⟩
 obtain ⟨hB3, hb3, hz3⟩ := find_step hB2 hb2 hz2 hq2
 clear hq2 hB2 hb2 hz2 q2
 go_wp2_with fail
 refine (q3.out _).mono ?_
 rintro E3 V4 ⟨rfl, hq3⟩
 obtain ⟨hB4, hb4, hz4⟩ := find_step hB3 hb3 hz3 hq3
 clear hq3 hB3 hb3 hz3 q3
 obtain ⟨f0, f1, f2, i0, i1, i2⟩ := find_cells hb4
 have hbf := Lib.hid hb4
 clear hb4
 go_wp2_with fail
 all_goals
  obtain ⟨e0, e1, e2⟩ := fin_cells hbf.out hz4 (.int .i64 8) (.int .i64 (op - 167)) (.int .i64 0)
  exact bodyPost_ret (v := .agg #[.int .i64 8, .int .i64 (op - 167), .int .i64 0]) (by simp [results, Tryz.results165, go_sem, e0, e1, e2]) rfl ⟨rfl, by (repeat (first | exact hB4 | refine Below.setCell ?_ (by first | (simp; done) | (simp; omega)) _ | refine Below.alloc ?_ (by first | (simp; done) | (simp [World.setCell]; omega)) _))⟩
set_option maxRecDepth 100000 in
set_option maxHeartbeats 1000000 in
theorem find_64512 (W : World) (op : Int) (h0 : 64512 ≤ op) (h1 : op ≤ 64519) : Calls Tryz.prog 165 #[.int .i64 op] W (FindPost W (9, op - 64512, 0)) := by
 have q0 := Lib.hid (fun X => first_any X op 69 11 2 (0, 0, 0, false) (by rw [firstM, if_neg (by omega), if_neg (by omega)]) (by omega) (by omega) (by omega) (by omega))
 have q1 := Lib.hid (fun X => first_any X op 91 6 3 (0, 0, 0, false) (by rw [firstM, if_neg (by omega), if_neg (by omega)]) (by omega) (by omega) (by omega) (by omega))
 have q2 := Lib.hid (fun X => first_any X op 103 18 5 (0, 0, 0, false) (by rw [firstM, if_neg (by omega), if_neg (by omega)]) (by omega) (by omega) (by omega) (by omega))
 have q3 := Lib.hid (fun X => first_any X op 139 14 7 (0, 0, 0, false) (by rw [firstM, if_neg (by omega), if_neg (by omega)]) (by omega) (by omega) (by omega) (by omega))
 go_enter Tryz.func165, Tryz.ntmps165
 have hB0 := (Below.refl W.heap.size W).alloc (Nat.le_refl _) (.cells #[.int .i64 0, .int .i64 0, .int .i64 0] 239)
 have hb0 := Blk.new W #[.int .i64 0, .int .i64 0, .int .i64 0] 239
 have hz0 : W.heap.size < (W.alloc (.cells #[.int .i64 0, .int .i64 0, .int .i64 0] 239)).heap.size := by simp
 go_wp2_with fail
 refine (q0.out _).mono ?_
 rintro E0 V1 ⟨rfl, hq0⟩
 obtain ⟨hB1, hb1, hz1⟩ := find_step hB0 hb0 hz0 hq0
 clear hq0 hB0 hb0 hz0 q0
 go_wp2_with fail
 refine (q1.out _).mono ?_
 rintro E1 V2 ⟨rfl, hq1⟩
 obtain ⟨hB2, hb2, hz2⟩ := find_step hB1 hb1 hz1 hq1
 clear hq1 hB1 hb1 hz1 q1
 go_wp2_with fail
 refine (q2.out _).mono ?_
 rintro E2 V3 ⟨rfl, hq2⟩
 obtain ⟨hB3, hb3, hz3⟩ := find_step hB2 hb2 hz2 hq2
 clear hq2 hB2 hb2 hz2 q2
 go_wp2_with fail
 refine (q3.out _).mono ?_
 rintro E3 V4 ⟨rfl, hq3⟩
 obtain ⟨hB4, hb4, hz4⟩ := find_step hB3 hb3 hz3 hq3
 clear hq3 hB3 hb3 hz3 q3
 obtain ⟨f0, f1, f2, i0, i1, i2⟩ := find_cells hb4
 have hbf := Lib.hid hb4
 clear hb4
 go_wp2_with fail
 all_goals
  obtain ⟨e0, e1, e2⟩ := fin_cells hbf.out hz4 (.int .i64 9) (.int .i64 (op - 64512)) (.int .i64 0)
  exact bodyPost_ret (v := .agg #[.int .i64 9, .int .i64 (op - 64512), .int .i64 0]) (by simp [results, Tryz.results165, go_sem, e0, e1, e2]) rfl ⟨rfl, by (repeat (first | exact hB4 | refine Below.setCell ?_ (by first | (simp; done) | (simp; omega)) _ | refine Below.alloc ?_ (by first | (simp; done) | (simp [World.setCell]; omega)) _))⟩
set_option maxRecDepth 100000 in
set_option maxHeartbeats 1000000 in
theorem find_none (W : World) (op : Int) (h0 : -9223372036854775808 ≤ op) (h1 : op ≤ 9223372036854775807) (h2 : op < 69 ∨ 191 < op) (h3 : op < 64512 ∨ 64519 < op) : Calls Tryz.prog 165 #[.int .i64 op] W (FindPost W (0, 0, 0)) := by
 have q0 := Lib.hid (fun X => first_any X op 69 11 2 (0, 0, 0, false) (by rw [firstM, if_neg (by omega), if_neg (by omega)]) (by omega) (by omega) (by omega) (by omega))
 have q1 := Lib.hid (fun X => first_any X op 91 6 3 (0, 0, 0, false) (by rw [firstM, if_neg (by omega), if_neg (by omega)]) (by omega) (by omega) (by omega) (by omega))
 have q2 := Lib.hid (fun X => first_any X op 103 18 5 (0, 0, 0, false) (by rw [firstM, if_neg (by omega), if_neg (by omega)]) (by omega) (by omega) (by omega) (by omega))
 have q3 := Lib.hid (fun X => first_any X op 139 14 7 (0, 0, 0, false) (by rw [firstM, if_neg (by omega), if_neg (by omega)]) (by omega) (by omega) (by omega) (by omega))
 go_enter Tryz.func165, Tryz.ntmps165
 have hB0 := (Below.refl W.heap.size W).alloc (Nat.le_refl _) (.cells #[.int .i64 0, .int .i64 0, .int .i64 0] 239)
 have hb0 := Blk.new W #[.int .i64 0, .int .i64 0, .int .i64 0] 239
 have hz0 : W.heap.size < (W.alloc (.cells #[.int .i64 0, .int .i64 0, .int .i64 0] 239)).heap.size := by simp
 go_wp2_with fail
 refine (q0.out _).mono ?_
 rintro E0 V1 ⟨rfl, hq0⟩
 obtain ⟨hB1, hb1, hz1⟩ := find_step hB0 hb0 hz0 hq0
 clear hq0 hB0 hb0 hz0 q0
 go_wp2_with fail
 refine (q1.out _).mono ?_
 rintro E1 V2 ⟨rfl, hq1⟩
 obtain ⟨hB2, hb2, hz2⟩ := find_step hB1 hb1 hz1 hq1
 clear hq1 hB1 hb1 hz1 q1
 go_wp2_with fail
 refine (q2.out _).mono ?_
 rintro E2 V3 ⟨rfl, hq2⟩
 obtain ⟨hB3, hb3, hz3⟩ := find_step hB2 hb2 hz2 hq2
 clear hq2 hB2 hb2 hz2 q2
 go_wp2_with fail
 refine (q3.out _).mono ?_
 rintro E3 V4 ⟨rfl, hq3⟩
 obtain ⟨hB4, hb4, hz4⟩ := find_step hB3 hb3 hz3 hq3
 clear hq3 hB3 hb3 hz3 q3
 obtain ⟨f0, f1, f2, i0, i1, i2⟩ := find_cells hb4
 have hbf := Lib.hid hb4
 clear hb4
 go_wp2_with fail
 all_goals
  obtain ⟨e0, e1, e2⟩ := fin_cells hbf.out hz4 (.int .i64 0) (.int .i64 0) (.int .i64 0)
  exact bodyPost_ret (v := .agg #[.int .i64 0, .int .i64 0, .int .i64 0]) (by simp [results, Tryz.results165, go_sem, e0, e1, e2]) rfl ⟨rfl, by (repeat (first | exact hB4 | refine Below.setCell ?_ (by first | (simp; done) | (simp; omega)) _ | refine Below.alloc ?_ (by first | (simp; done) | (simp [World.setCell]; omega)) _))⟩
end Go.Proofs.YtofaiocffifhfaaGreat
end
section
namespace Go.Proofs.YtofaiocffifhfaaGreat
open Go.RowKit Go.Shelf YtofaiocffifhfaaGreatB Go.Proofs.YtofaiocffifhfaaGreatW.PrintWords
theorem results_tmp4 {fn : Func} {t u v x : Tmp} (h : fn.results = #[.tmp t, .tmp u, .tmp v, .tmp x]) (tmps : Array Value) (P : Program) (w : World) :
  (results fn tmps).run P w = .ok (.tuple #[tmps.getD t undef, tmps.getD u undef, tmps.getD v undef, tmps.getD x undef]) w := by simp [results, h]
def intT (w : Int) : Int := if w = 32 then 127 else 126
def floT (w : Int) : Int := if w = 32 then 125 else 124
theorem integer_any (W : World) (w : Int) : Calls Tryz.prog 166 #[.int .i64 w] W fun E w' => E = .returned (.int .u8 (intT w)) ∧ W = w' := by
 by_cases h : w = 32
 ·subst h
  go_enter Tryz.func166, Tryz.ntmps166
  go_wp2_with fail
  go_ret
  exact ⟨rfl, rfl⟩
 ·have h2 : (w == 32) = false := by simpa using h
  rw [intT, if_neg h]
  clear h
  go_enter Tryz.func166, Tryz.ntmps166
  go_wp2_with fail
  go_ret
  exact ⟨rfl, rfl⟩
theorem float_any (W : World) (w : Int) : Calls Tryz.prog 167 #[.int .i64 w] W fun E w' => E = .returned (.int .u8 (floT w)) ∧ W = w' := by
 by_cases h : w = 32
 ·subst h
  go_enter Tryz.func167, Tryz.ntmps167
  go_wp2_with fail
  go_ret
  exact ⟨rfl, rfl⟩
 ·have h2 : (w == 32) = false := by simpa using h
  rw [floT, if_neg h]
  clear h
  go_enter Tryz.func167, Tryz.ntmps167
  go_wp2_with fail
  go_ret
  exact ⟨rfl, rfl⟩
def turnM (at_ : Int) : Int × Int :=
 if at_ = 0 then (126, 127) else if at_ ≤ 2 then (125, 127) else if at_ ≤ 4 then (124, 127) else if at_ ≤ 6 then (127, 126) else if at_ ≤ 8 then (125, 126) else if at_ ≤ 10 then (124, 126) else
 if at_ = 15 then (124, 125) else if at_ = 20 then (125, 124) else if at_ ≤ 12 then (127, 125) else if at_ ≤ 14 then (126, 125) else if at_ ≤ 17 then (127, 124) else if at_ ≤ 19 then (126, 124) else
 if at_ = 21 then (125, 127) else if at_ = 22 then (124, 126) else if at_ = 23 then (127, 125) else (126, 124)
def TurnPost (W : World) (r : Int × Int) (E : Ending) (w' : World) : Prop := E = .returned (.tuple #[.int .u8 r.1, .int .u8 r.2]) ∧ W = w'
set_option maxRecDepth 100000 in
theorem turned_0 (W : World) : Calls Tryz.prog 168 #[.int .i64 0] W (TurnPost W (turnM 0)) := by
 go_enter Tryz.func168, Tryz.ntmps168
 go_wp2_with (first | (go_at_call 166; refine (integer_any _ _).mono ?_; rintro e w' ⟨rfl, rfl⟩) | (go_at_call 167; refine (float_any _ _).mono ?_; rintro e w' ⟨rfl, rfl⟩))
 go_ret2
 exact ⟨rfl, rfl⟩
set_option maxRecDepth 100000 in
theorem turned_1 (W : World) : Calls Tryz.prog 168 #[.int .i64 1] W (TurnPost W (turnM 1)) := by
 go_enter Tryz.func168, Tryz.ntmps168
 go_wp2_with (first | (go_at_call 166; refine (integer_any _ _).mono ?_; rintro e w' ⟨rfl, rfl⟩) | (go_at_call 167; refine (float_any _ _).mono ?_; rintro e w' ⟨rfl, rfl⟩))
 go_ret2
 exact ⟨rfl, rfl⟩
set_option maxRecDepth 100000 in
theorem turned_2 (W : World) : Calls Tryz.prog 168 #[.int .i64 2] W (TurnPost W (turnM 2)) := by
 go_enter Tryz.func168, Tryz.ntmps168
 go_wp2_with (first | (go_at_call 166; refine (integer_any _ _).mono ?_; rintro e w' ⟨rfl, rfl⟩) | (go_at_call 167; refine (float_any _ _).mono ?_; rintro e w' ⟨rfl, rfl⟩))
 go_ret2
 exact ⟨rfl, rfl⟩
set_option maxRecDepth 100000 in
theorem turned_3 (W : World) : Calls Tryz.prog 168 #[.int .i64 3] W (TurnPost W (turnM 3)) := by
 go_enter Tryz.func168, Tryz.ntmps168
 go_wp2_with (first | (go_at_call 166; refine (integer_any _ _).mono ?_; rintro e w' ⟨rfl, rfl⟩) | (go_at_call 167; refine (float_any _ _).mono ?_; rintro e w' ⟨rfl, rfl⟩))
 go_ret2
 exact ⟨rfl, rfl⟩
set_option maxRecDepth 100000 in
theorem turned_4 (W : World) : Calls Tryz.prog 168 #[.int .i64 4] W (TurnPost W (turnM 4)) := by
 go_enter Tryz.func168, Tryz.ntmps168
 go_wp2_with (first | (go_at_call 166; refine (integer_any _ _).mono ?_; rintro e w' ⟨rfl, rfl⟩) | (go_at_call 167; refine (float_any _ _).mono ?_; rintro e w' ⟨rfl, rfl⟩))
 go_ret2
 exact ⟨rfl, rfl⟩
set_option maxRecDepth 100000 in
theorem turned_5 (W : World) : Calls Tryz.prog 168 #[.int .i64 5] W (TurnPost W (turnM 5)) := by
 go_enter Tryz.func168, Tryz.ntmps168
 go_wp2_with (first | (go_at_call 166; refine (integer_any _ _).mono ?_; rintro e w' ⟨rfl, rfl⟩) | (go_at_call 167; refine (float_any _ _).mono ?_; rintro e w' ⟨rfl, rfl⟩))
 go_ret2
 exact ⟨rfl, rfl⟩
set_option maxRecDepth 100000 in
theorem turned_6 (W : World) : Calls Tryz.prog 168 #[.int .i64 6] W (TurnPost W (turnM 6)) := by
 go_enter Tryz.func168, Tryz.ntmps168
 go_wp2_with (first | (go_at_call 166; refine (integer_any _ _).mono ?_; rintro e w' ⟨rfl, rfl⟩) | (go_at_call 167; refine (float_any _ _).mono ?_; rintro e w' ⟨rfl, rfl⟩))
 go_ret2
 exact ⟨rfl, rfl⟩
set_option maxRecDepth 100000 in
theorem turned_7 (W : World) : Calls Tryz.prog 168 #[.int .i64 7] W (TurnPost W (turnM 7)) := by
 go_enter Tryz.func168, Tryz.ntmps168
 go_wp2_with (first | (go_at_call 166; refine (integer_any _ _).mono ?_; rintro e w' ⟨rfl, rfl⟩) | (go_at_call 167; refine (float_any _ _).mono ?_; rintro e w' ⟨rfl, rfl⟩))
 go_ret2
 exact ⟨rfl, rfl⟩
set_option maxRecDepth 100000 in
theorem turned_8 (W : World) : Calls Tryz.prog 168 #[.int .i64 8] W (TurnPost W (turnM 8)) := by
 go_enter Tryz.func168, Tryz.ntmps168
 go_wp2_with (first | (go_at_call 166; refine (integer_any _ _).mono ?_; rintro e w' ⟨rfl, rfl⟩) | (go_at_call 167; refine (float_any _ _).mono ?_; rintro e w' ⟨rfl, rfl⟩))
 go_ret2
 exact ⟨rfl, rfl⟩
set_option maxRecDepth 100000 in
theorem turned_9 (W : World) : Calls Tryz.prog 168 #[.int .i64 9] W (TurnPost W (turnM 9)) := by
 go_enter Tryz.func168, Tryz.ntmps168
 go_wp2_with (first | (go_at_call 166; refine (integer_any _ _).mono ?_; rintro e w' ⟨rfl, rfl⟩) | (go_at_call 167; refine (float_any _ _).mono ?_; rintro e w' ⟨rfl, rfl⟩))
 go_ret2
 exact ⟨rfl, rfl⟩
set_option maxRecDepth 100000 in
theorem turned_10 (W : World) : Calls Tryz.prog 168 #[.int .i64 10] W (TurnPost W (turnM 10)) := by
 go_enter Tryz.func168, Tryz.ntmps168
 go_wp2_with (first | (go_at_call 166; refine (integer_any _ _).mono ?_; rintro e w' ⟨rfl, rfl⟩) | (go_at_call 167; refine (float_any _ _).mono ?_; rintro e w' ⟨rfl, rfl⟩))
 go_ret2
 exact ⟨rfl, rfl⟩
set_option maxRecDepth 100000 in
theorem turned_11 (W : World) : Calls Tryz.prog 168 #[.int .i64 11] W (TurnPost W (turnM 11)) := by
 go_enter Tryz.func168, Tryz.ntmps168
 go_wp2_with (first | (go_at_call 166; refine (integer_any _ _).mono ?_; rintro e w' ⟨rfl, rfl⟩) | (go_at_call 167; refine (float_any _ _).mono ?_; rintro e w' ⟨rfl, rfl⟩))
 go_ret2
 exact ⟨rfl, rfl⟩
set_option maxRecDepth 100000 in
theorem turned_12 (W : World) : Calls Tryz.prog 168 #[.int .i64 12] W (TurnPost W (turnM 12)) := by
 go_enter Tryz.func168, Tryz.ntmps168
 go_wp2_with (first | (go_at_call 166; refine (integer_any _ _).mono ?_; rintro e w' ⟨rfl, rfl⟩) | (go_at_call 167; refine (float_any _ _).mono ?_; rintro e w' ⟨rfl, rfl⟩))
 go_ret2
 exact ⟨rfl, rfl⟩
set_option maxRecDepth 100000 in
theorem turned_13 (W : World) : Calls Tryz.prog 168 #[.int .i64 13] W (TurnPost W (turnM 13)) := by
 go_enter Tryz.func168, Tryz.ntmps168
 go_wp2_with (first | (go_at_call 166; refine (integer_any _ _).mono ?_; rintro e w' ⟨rfl, rfl⟩) | (go_at_call 167; refine (float_any _ _).mono ?_; rintro e w' ⟨rfl, rfl⟩))
 go_ret2
 exact ⟨rfl, rfl⟩
set_option maxRecDepth 100000 in
theorem turned_14 (W : World) : Calls Tryz.prog 168 #[.int .i64 14] W (TurnPost W (turnM 14)) := by
 go_enter Tryz.func168, Tryz.ntmps168
 go_wp2_with (first | (go_at_call 166; refine (integer_any _ _).mono ?_; rintro e w' ⟨rfl, rfl⟩) | (go_at_call 167; refine (float_any _ _).mono ?_; rintro e w' ⟨rfl, rfl⟩))
 go_ret2
 exact ⟨rfl, rfl⟩
set_option maxRecDepth 100000 in
theorem turned_15 (W : World) : Calls Tryz.prog 168 #[.int .i64 15] W (TurnPost W (turnM 15)) := by
 go_enter Tryz.func168, Tryz.ntmps168
 go_wp2_with (first | (go_at_call 166; refine (integer_any _ _).mono ?_; rintro e w' ⟨rfl, rfl⟩) | (go_at_call 167; refine (float_any _ _).mono ?_; rintro e w' ⟨rfl, rfl⟩))
 go_ret2
 exact ⟨rfl, rfl⟩
set_option maxRecDepth 100000 in
theorem turned_16 (W : World) : Calls Tryz.prog 168 #[.int .i64 16] W (TurnPost W (turnM 16)) := by
 go_enter Tryz.func168, Tryz.ntmps168
 go_wp2_with (first | (go_at_call 166; refine (integer_any _ _).mono ?_; rintro e w' ⟨rfl, rfl⟩) | (go_at_call 167; refine (float_any _ _).mono ?_; rintro e w' ⟨rfl, rfl⟩))
 go_ret2
 exact ⟨rfl, rfl⟩
set_option maxRecDepth 100000 in
theorem turned_17 (W : World) : Calls Tryz.prog 168 #[.int .i64 17] W (TurnPost W (turnM 17)) := by
 go_enter Tryz.func168, Tryz.ntmps168
 go_wp2_with (first | (go_at_call 166; refine (integer_any _ _).mono ?_; rintro e w' ⟨rfl, rfl⟩) | (go_at_call 167; refine (float_any _ _).mono ?_; rintro e w' ⟨rfl, rfl⟩))
 go_ret2
 exact ⟨rfl, rfl⟩
set_option maxRecDepth 100000 in
theorem turned_18 (W : World) : Calls Tryz.prog 168 #[.int .i64 18] W (TurnPost W (turnM 18)) := by
 go_enter Tryz.func168, Tryz.ntmps168
 go_wp2_with (first | (go_at_call 166; refine (integer_any _ _).mono ?_; rintro e w' ⟨rfl, rfl⟩) | (go_at_call 167; refine (float_any _ _).mono ?_; rintro e w' ⟨rfl, rfl⟩))
 go_ret2
 exact ⟨rfl, rfl⟩
set_option maxRecDepth 100000 in
theorem turned_19 (W : World) : Calls Tryz.prog 168 #[.int .i64 19] W (TurnPost W (turnM 19)) := by
 go_enter Tryz.func168, Tryz.ntmps168
 go_wp2_with (first | (go_at_call 166; refine (integer_any _ _).mono ?_; rintro e w' ⟨rfl, rfl⟩) | (go_at_call 167; refine (float_any _ _).mono ?_; rintro e w' ⟨rfl, rfl⟩))
 go_ret2
 exact ⟨rfl, rfl⟩
set_option maxRecDepth 100000 in
theorem turned_20 (W : World) : Calls Tryz.prog 168 #[.int .i64 20] W (TurnPost W (turnM 20)) := by
 go_enter Tryz.func168, Tryz.ntmps168
 go_wp2_with (first | (go_at_call 166; refine (integer_any _ _).mono ?_; rintro e w' ⟨rfl, rfl⟩) | (go_at_call 167; refine (float_any _ _).mono ?_; rintro e w' ⟨rfl, rfl⟩))
 go_ret2
 exact ⟨rfl, rfl⟩
set_option maxRecDepth 100000 in
theorem turned_21 (W : World) : Calls Tryz.prog 168 #[.int .i64 21] W (TurnPost W (turnM 21)) := by
 go_enter Tryz.func168, Tryz.ntmps168
 go_wp2_with (first | (go_at_call 166; refine (integer_any _ _).mono ?_; rintro e w' ⟨rfl, rfl⟩) | (go_at_call 167; refine (float_any _ _).mono ?_; rintro e w' ⟨rfl, rfl⟩))
 go_ret2
 exact ⟨rfl, rfl⟩
set_option maxRecDepth 100000 in
theorem turned_22 (W : World) : Calls Tryz.prog 168 #[.int .i64 22] W (TurnPost W (turnM 22)) := by
 go_enter Tryz.func168, Tryz.ntmps168
 go_wp2_with (first | (go_at_call 166; refine (integer_any _ _).mono ?_; rintro e w' ⟨rfl, rfl⟩) | (go_at_call 167; refine (float_any _ _).mono ?_; rintro e w' ⟨rfl, rfl⟩))
 go_ret2
 exact ⟨rfl, rfl⟩
set_option maxRecDepth 100000 in
theorem turned_23 (W : World) : Calls Tryz.prog 168 #[.int .i64 23] W (TurnPost W (turnM 23)) := by
 go_enter Tryz.func168, Tryz.ntmps168
 go_wp2_with (first | (go_at_call 166; refine (integer_any _ _).mono ?_; rintro e w' ⟨rfl, rfl⟩) | (go_at_call 167; refine (float_any _ _).mono ?_; rintro e w' ⟨rfl, rfl⟩))
 go_ret2
 exact ⟨rfl, rfl⟩
set_option maxRecDepth 100000 in
theorem turned_24 (W : World) : Calls Tryz.prog 168 #[.int .i64 24] W (TurnPost W (turnM 24)) := by
 go_enter Tryz.func168, Tryz.ntmps168
 go_wp2_with (first | (go_at_call 166; refine (integer_any _ _).mono ?_; rintro e w' ⟨rfl, rfl⟩) | (go_at_call 167; refine (float_any _ _).mono ?_; rintro e w' ⟨rfl, rfl⟩))
 go_ret2
 exact ⟨rfl, rfl⟩
theorem turned_any (W : World) (a : Int) (h0 : 0 ≤ a) (h1 : a ≤ 24) : Calls Tryz.prog 168 #[.int .i64 a] W (TurnPost W (turnM a)) := by
 have : a = 0 ∨ a = 1 ∨ a = 2 ∨ a = 3 ∨ a = 4 ∨ a = 5 ∨ a = 6 ∨ a = 7 ∨ a = 8 ∨ a = 9 ∨ a = 10 ∨ a = 11 ∨ a = 12 ∨ a = 13 ∨ a = 14 ∨ a = 15 ∨ a = 16 ∨ a = 17 ∨ a = 18 ∨ a = 19 ∨ a = 20 ∨ a = 21 ∨ a = 22 ∨ a = 23 ∨ a = 24 := by omega
 rcases this with rfl | rfl | rfl | rfl | rfl | rfl | rfl | rfl | rfl | rfl | rfl | rfl | rfl | rfl | rfl | rfl | rfl | rfl | rfl | rfl | rfl | rfl | rfl | rfl | rfl
 ·exact turned_0 W
 ·exact turned_1 W
 ·exact turned_2 W
 ·exact turned_3 W
 ·exact turned_4 W
 ·exact turned_5 W
 ·exact turned_6 W
 ·exact turned_7 W
 ·exact turned_8 W
 ·exact turned_9 W
 ·exact turned_10 W
 ·exact turned_11 W
 ·exact turned_12 W
 ·exact turned_13 W
 ·exact turned_14 W
 ·exact turned_15 W
 ·exact turned_16 W
 ·exact turned_17 W
 ·exact turned_18 W
 ·exact turned_19 W
 ·exact turned_20 W
 ·exact turned_21 W
 ·exact turned_22 W
 ·exact turned_23 W
 ·exact turned_24 W
def kindF (g a w : Int) : Int × Int × Int × Bool :=
 if g = 1 then (intT w, 1, 127, true) else if g = 2 then (intT w, 2, 127, true) else if g = 3 then (floT w, 2, 127, true) else if g = 4 then (intT w, 1, intT w, true) else if g = 5 then (intT w, 2, intT w, true) else
 if g = 6 then (floT w, 1, floT w, true) else if g = 7 then (floT w, 2, floT w, true) else if g = 8 then ((turnM a).1, 1, (turnM a).2, true) else if g = 9 then (floT (32 + a / 2 % 2 * 32), 1, intT (32 + a / 4 * 32), true) else (0, 0, 0, false)
def KindPost (W : World) (r : Int × Int × Int × Bool) (E : Ending) (w' : World) : Prop := E = .returned (.tuple #[.int .u8 r.1, .int .i64 r.2.1, .int .u8 r.2.2.1, .bool r.2.2.2]) ∧ Below W.heap.size W w'
set_option maxRecDepth 100000 in
set_option maxHeartbeats 1000000 in
theorem kind_1 (W : World) (op a w : Int) (hF : ∀ X, Calls Tryz.prog 165 #[.int .i64 op] X (FindPost X (1, a, w))) (h0 : 0 ≤ a) (h1 : a ≤ 24) (h9 : 1 = 9 → a ≤ 7) : Calls Tryz.prog 157 #[.int .i64 op] W (KindPost W (kindF 1 a w)) := by
 have HF := Lib.hid hF
 have HT := Lib.hid (fun X => turned_any X a h0 h1)
 have HV := Lib.hid (show kindF 1 a w = kindF 1 a w from rfl)
 have h92 := Lib.hid h9
 clear hF h9
 go_enter Tryz.func157, Tryz.ntmps157
 go_wp2_with fail
 refine (HF.out _).mono ?_
 rintro E V ⟨rfl, hB⟩
 go_wp2_with (first | (go_at_call 166; refine (integer_any _ _).mono ?_; rintro e w' ⟨rfl, rfl⟩) | (go_at_call 167; refine (float_any _ _).mono ?_; rintro e w' ⟨rfl, rfl⟩) | (go_at_call 168; refine (HT.out _).mono ?_; rintro e w' ⟨rfl, rfl⟩))
 try go_quiet (first | (go_at_call 166; exact Calls.quiet_of_same ((integer_any _ _).mono (by rintro e w' ⟨rfl, rfl⟩; exact ⟨rfl, rfl⟩))) | (go_at_call 167; exact Calls.quiet_of_same ((float_any _ _).mono (by rintro e w' ⟨rfl, rfl⟩; exact ⟨rfl, rfl⟩))))
 go_wp2_with fail
 refine bodyPost_ret (results_tmp4 rfl _ _ _) rfl ?_
 exact ⟨rfl, (hB.alloc hB.size _).trans ⟨rfl, rfl, rfl, Nat.le_refl _, fun _ _ => rfl⟩⟩
set_option maxRecDepth 100000 in
set_option maxHeartbeats 1000000 in
theorem kind_2 (W : World) (op a w : Int) (hF : ∀ X, Calls Tryz.prog 165 #[.int .i64 op] X (FindPost X (2, a, w))) (h0 : 0 ≤ a) (h1 : a ≤ 24) (h9 : 2 = 9 → a ≤ 7) : Calls Tryz.prog 157 #[.int .i64 op] W (KindPost W (kindF 2 a w)) := by
 have HF := Lib.hid hF
 have HT := Lib.hid (fun X => turned_any X a h0 h1)
 have HV := Lib.hid (show kindF 2 a w = kindF 2 a w from rfl)
 have h92 := Lib.hid h9
 clear hF h9
 go_enter Tryz.func157, Tryz.ntmps157
 go_wp2_with fail
 refine (HF.out _).mono ?_
 rintro E V ⟨rfl, hB⟩
 go_wp2_with (first | (go_at_call 166; refine (integer_any _ _).mono ?_; rintro e w' ⟨rfl, rfl⟩) | (go_at_call 167; refine (float_any _ _).mono ?_; rintro e w' ⟨rfl, rfl⟩) | (go_at_call 168; refine (HT.out _).mono ?_; rintro e w' ⟨rfl, rfl⟩))
 try go_quiet (first | (go_at_call 166; exact Calls.quiet_of_same ((integer_any _ _).mono (by rintro e w' ⟨rfl, rfl⟩; exact ⟨rfl, rfl⟩))) | (go_at_call 167; exact Calls.quiet_of_same ((float_any _ _).mono (by rintro e w' ⟨rfl, rfl⟩; exact ⟨rfl, rfl⟩))))
 go_wp2_with fail
 refine bodyPost_ret (results_tmp4 rfl _ _ _) rfl ?_
 exact ⟨rfl, (hB.alloc hB.size _).trans ⟨rfl, rfl, rfl, Nat.le_refl _, fun _ _ => rfl⟩⟩
set_option maxRecDepth 100000 in
set_option maxHeartbeats 1000000 in
theorem kind_3 (W : World) (op a w : Int) (hF : ∀ X, Calls Tryz.prog 165 #[.int .i64 op] X (FindPost X (3, a, w))) (h0 : 0 ≤ a) (h1 : a ≤ 24) (h9 : 3 = 9 → a ≤ 7) : Calls Tryz.prog 157 #[.int .i64 op] W (KindPost W (kindF 3 a w)) := by
 have HF := Lib.hid hF
 have HT := Lib.hid (fun X => turned_any X a h0 h1)
 have HV := Lib.hid (show kindF 3 a w = kindF 3 a w from rfl)
 have h92 := Lib.hid h9
 clear hF h9
 go_enter Tryz.func157, Tryz.ntmps157
 go_wp2_with fail
 refine (HF.out _).mono ?_
 rintro E V ⟨rfl, hB⟩
 go_wp2_with (first | (go_at_call 166; refine (integer_any _ _).mono ?_; rintro e w' ⟨rfl, rfl⟩) | (go_at_call 167; refine (float_any _ _).mono ?_; rintro e w' ⟨rfl, rfl⟩) | (go_at_call 168; refine (HT.out _).mono ?_; rintro e w' ⟨rfl, rfl⟩))
 try go_quiet (first | (go_at_call 166; exact Calls.quiet_of_same ((integer_any _ _).mono (by rintro e w' ⟨rfl, rfl⟩; exact ⟨rfl, rfl⟩))) | (go_at_call 167; exact Calls.quiet_of_same ((float_any _ _).mono (by rintro e w' ⟨rfl, rfl⟩; exact ⟨rfl, rfl⟩))))
 go_wp2_with fail
 refine bodyPost_ret (results_tmp4 rfl _ _ _) rfl ?_
 exact ⟨rfl, (hB.alloc hB.size _).trans ⟨rfl, rfl, rfl, Nat.le_refl _, fun _ _ => rfl⟩⟩
set_option maxRecDepth 100000 in
set_option maxHeartbeats 1000000 in
theorem kind_4 (W : World) (op a w : Int) (hF : ∀ X, Calls Tryz.prog 165 #[.int .i64 op] X (FindPost X (4, a, w))) (h0 : 0 ≤ a) (h1 : a ≤ 24) (h9 : 4 = 9 → a ≤ 7) : Calls Tryz.prog 157 #[.int .i64 op] W (KindPost W (kindF 4 a w)) := by
 have HF := Lib.hid hF
 have HT := Lib.hid (fun X => turned_any X a h0 h1)
 have HV := Lib.hid (show kindF 4 a w = kindF 4 a w from rfl)
 have h92 := Lib.hid h9
 clear hF h9
 go_enter Tryz.func157, Tryz.ntmps157
 go_wp2_with fail
 refine (HF.out _).mono ?_
 rintro E V ⟨rfl, hB⟩
 go_wp2_with (first | (go_at_call 166; refine (integer_any _ _).mono ?_; rintro e w' ⟨rfl, rfl⟩) | (go_at_call 167; refine (float_any _ _).mono ?_; rintro e w' ⟨rfl, rfl⟩) | (go_at_call 168; refine (HT.out _).mono ?_; rintro e w' ⟨rfl, rfl⟩))
 try go_quiet (first | (go_at_call 166; exact Calls.quiet_of_same ((integer_any _ _).mono (by rintro e w' ⟨rfl, rfl⟩; exact ⟨rfl, rfl⟩))) | (go_at_call 167; exact Calls.quiet_of_same ((float_any _ _).mono (by rintro e w' ⟨rfl, rfl⟩; exact ⟨rfl, rfl⟩))))
 go_wp2_with fail
 refine bodyPost_ret (results_tmp4 rfl _ _ _) rfl ?_
 exact ⟨rfl, (hB.alloc hB.size _).trans ⟨rfl, rfl, rfl, Nat.le_refl _, fun _ _ => rfl⟩⟩
set_option maxRecDepth 100000 in
set_option maxHeartbeats 1000000 in
theorem kind_5 (W : World) (op a w : Int) (hF : ∀ X, Calls Tryz.prog 165 #[.int .i64 op] X (FindPost X (5, a, w))) (h0 : 0 ≤ a) (h1 : a ≤ 24) (h9 : 5 = 9 → a ≤ 7) : Calls Tryz.prog 157 #[.int .i64 op] W (KindPost W (kindF 5 a w)) := by
 have HF := Lib.hid hF
 have HT := Lib.hid (fun X => turned_any X a h0 h1)
 have HV := Lib.hid (show kindF 5 a w = kindF 5 a w from rfl)
 have h92 := Lib.hid h9
 clear hF h9
 go_enter Tryz.func157, Tryz.ntmps157
 go_wp2_with fail
 refine (HF.out _).mono ?_
 rintro E V ⟨rfl, hB⟩
 go_wp2_with (first | (go_at_call 166; refine (integer_any _ _).mono ?_; rintro e w' ⟨rfl, rfl⟩) | (go_at_call 167; refine (float_any _ _).mono ?_; rintro e w' ⟨rfl, rfl⟩) | (go_at_call 168; refine (HT.out _).mono ?_; rintro e w' ⟨rfl, rfl⟩))
 try go_quiet (first | (go_at_call 166; exact Calls.quiet_of_same ((integer_any _ _).mono (by rintro e w' ⟨rfl, rfl⟩; exact ⟨rfl, rfl⟩))) | (go_at_call 167; exact Calls.quiet_of_same ((float_any _ _).mono (by rintro e w' ⟨rfl, rfl⟩; exact ⟨rfl, rfl⟩))))
 go_wp2_with fail
 refine bodyPost_ret (results_tmp4 rfl _ _ _) rfl ?_
 exact ⟨rfl, (hB.alloc hB.size _).trans ⟨rfl, rfl, rfl, Nat.le_refl _, fun _ _ => rfl⟩⟩
set_option maxRecDepth 100000 in
set_option maxHeartbeats 1000000 in
theorem kind_6 (W : World) (op a w : Int) (hF : ∀ X, Calls Tryz.prog 165 #[.int .i64 op] X (FindPost X (6, a, w))) (h0 : 0 ≤ a) (h1 : a ≤ 24) (h9 : 6 = 9 → a ≤ 7) : Calls Tryz.prog 157 #[.int .i64 op] W (KindPost W (kindF 6 a w)) := by
 have HF := Lib.hid hF
 have HT := Lib.hid (fun X => turned_any X a h0 h1)
 have HV := Lib.hid (show kindF 6 a w = kindF 6 a w from rfl)
 have h92 := Lib.hid h9
 clear hF h9
 go_enter Tryz.func157, Tryz.ntmps157
 go_wp2_with fail
 refine (HF.out _).mono ?_
 rintro E V ⟨rfl, hB⟩
 go_wp2_with (first | (go_at_call 166; refine (integer_any _ _).mono ?_; rintro e w' ⟨rfl, rfl⟩) | (go_at_call 167; refine (float_any _ _).mono ?_; rintro e w' ⟨rfl, rfl⟩) | (go_at_call 168; refine (HT.out _).mono ?_; rintro e w' ⟨rfl, rfl⟩))
 try go_quiet (first | (go_at_call 166; exact Calls.quiet_of_same ((integer_any _ _).mono (by rintro e w' ⟨rfl, rfl⟩; exact ⟨rfl, rfl⟩))) | (go_at_call 167; exact Calls.quiet_of_same ((float_any _ _).mono (by rintro e w' ⟨rfl, rfl⟩; exact ⟨rfl, rfl⟩))))
 go_wp2_with fail
 refine bodyPost_ret (results_tmp4 rfl _ _ _) rfl ?_
 exact ⟨rfl, (hB.alloc hB.size _).trans ⟨rfl, rfl, rfl, Nat.le_refl _, fun _ _ => rfl⟩⟩
set_option maxRecDepth 100000 in
set_option maxHeartbeats 1000000 in
theorem kind_7 (W : World) (op a w : Int) (hF : ∀ X, Calls Tryz.prog 165 #[.int .i64 op] X (FindPost X (7, a, w))) (h0 : 0 ≤ a) (h1 : a ≤ 24) (h9 : 7 = 9 → a ≤ 7) : Calls Tryz.prog 157 #[.int .i64 op] W (KindPost W (kindF 7 a w)) := by
 have HF := Lib.hid hF
 have HT := Lib.hid (fun X => turned_any X a h0 h1)
 have HV := Lib.hid (show kindF 7 a w = kindF 7 a w from rfl)
 have h92 := Lib.hid h9
 clear hF h9
 go_enter Tryz.func157, Tryz.ntmps157
 go_wp2_with fail
 refine (HF.out _).mono ?_
 rintro E V ⟨rfl, hB⟩
 go_wp2_with (first | (go_at_call 166; refine (integer_any _ _).mono ?_; rintro e w' ⟨rfl, rfl⟩) | (go_at_call 167; refine (float_any _ _).mono ?_; rintro e w' ⟨rfl, rfl⟩) | (go_at_call 168; refine (HT.out _).mono ?_; rintro e w' ⟨rfl, rfl⟩))
 try go_quiet (first | (go_at_call 166; exact Calls.quiet_of_same ((integer_any _ _).mono (by rintro e w' ⟨rfl, rfl⟩; exact ⟨rfl, rfl⟩))) | (go_at_call 167; exact Calls.quiet_of_same ((float_any _ _).mono (by rintro e w' ⟨rfl, rfl⟩; exact ⟨rfl, rfl⟩))))
 go_wp2_with fail
 refine bodyPost_ret (results_tmp4 rfl _ _ _) rfl ?_
 exact ⟨rfl, (hB.alloc hB.size _).trans ⟨rfl, rfl, rfl, Nat.le_refl _, fun _ _ => rfl⟩⟩
set_option maxRecDepth 100000 in
set_option maxHeartbeats 1000000 in
theorem kind_8 (W : World) (op a w : Int) (hF : ∀ X, Calls Tryz.prog 165 #[.int .i64 op] X (FindPost X (8, a, w))) (h0 : 0 ≤ a) (h1 : a ≤ 24) (h9 : 8 = 9 → a ≤ 7) : Calls Tryz.prog 157 #[.int .i64 op] W (KindPost W (kindF 8 a w)) := by
 have HF := Lib.hid hF
 have HT := Lib.hid (fun X => turned_any X a h0 h1)
 have HV := Lib.hid (show kindF 8 a w = kindF 8 a w from rfl)
 have h92 := Lib.hid h9
 clear hF h9
 go_enter Tryz.func157, Tryz.ntmps157
 go_wp2_with fail
 refine (HF.out _).mono ?_
 rintro E V ⟨rfl, hB⟩
 go_wp2_with (first | (go_at_call 166; refine (integer_any _ _).mono ?_; rintro e w' ⟨rfl, rfl⟩) | (go_at_call 167; refine (float_any _ _).mono ?_; rintro e w' ⟨rfl, rfl⟩) | (go_at_call 168; refine (HT.out _).mono ?_; rintro e w' ⟨rfl, rfl⟩))
 try go_quiet (first | (go_at_call 166; exact Calls.quiet_of_same ((integer_any _ _).mono (by rintro e w' ⟨rfl, rfl⟩; exact ⟨rfl, rfl⟩))) | (go_at_call 167; exact Calls.quiet_of_same ((float_any _ _).mono (by rintro e w' ⟨rfl, rfl⟩; exact ⟨rfl, rfl⟩))))
 go_wp2_with fail
 refine bodyPost_ret (results_tmp4 rfl _ _ _) rfl ?_
 exact ⟨rfl, (hB.alloc hB.size _).trans ⟨rfl, rfl, rfl, Nat.le_refl _, fun _ _ => rfl⟩⟩
set_option maxRecDepth 100000 in
set_option maxHeartbeats 1000000 in
theorem kind_9 (W : World) (op a w : Int) (hF : ∀ X, Calls Tryz.prog 165 #[.int .i64 op] X (FindPost X (9, a, w))) (h0 : 0 ≤ a) (h1 : a ≤ 24) (h9 : 9 = 9 → a ≤ 7) : Calls Tryz.prog 157 #[.int .i64 op] W (KindPost W (kindF 9 a w)) := by
 have HF := Lib.hid hF
 have HT := Lib.hid (fun X => turned_any X a h0 h1)
 have HV := Lib.hid (show kindF 9 a w = kindF 9 a w from rfl)
 have h92 := Lib.hid h9
 clear hF h9
 go_enter Tryz.func157, Tryz.ntmps157
 go_wp2_with fail
 refine (HF.out _).mono ?_
 rintro E V ⟨rfl, hB⟩
 go_wp2_with (first | (go_at_call 166; refine (integer_any _ _).mono ?_; rintro e w' ⟨rfl, rfl⟩) | (go_at_call 167; refine (float_any _ _).mono ?_; rintro e w' ⟨rfl, rfl⟩) | (go_at_call 168; refine (HT.out _).mono ?_; rintro e w' ⟨rfl, rfl⟩))
 try go_quiet (first | (go_at_call 166; exact Calls.quiet_of_same ((integer_any _ _).mono (by rintro e w' ⟨rfl, rfl⟩; exact ⟨rfl, rfl⟩))) | (go_at_call 167; exact Calls.quiet_of_same ((float_any _ _).mono (by rintro e w' ⟨rfl, rfl⟩; exact ⟨rfl, rfl⟩))))
 go_wp2_with fail
 refine bodyPost_ret (results_tmp4 rfl _ _ _) rfl ?_
 exact ⟨rfl, (hB.alloc hB.size _).trans ⟨rfl, rfl, rfl, Nat.le_refl _, fun _ _ => rfl⟩⟩
set_option maxRecDepth 100000 in
set_option maxHeartbeats 1000000 in
theorem kind_0 (W : World) (op a w : Int) (hF : ∀ X, Calls Tryz.prog 165 #[.int .i64 op] X (FindPost X (0, a, w))) (h0 : 0 ≤ a) (h1 : a ≤ 24) (h9 : 0 = 9 → a ≤ 7) : Calls Tryz.prog 157 #[.int .i64 op] W (KindPost W (kindF 0 a w)) := by
 have HF := Lib.hid hF
 have HT := Lib.hid (fun X => turned_any X a h0 h1)
 have HV := Lib.hid (show kindF 0 a w = kindF 0 a w from rfl)
 have h92 := Lib.hid h9
 clear hF h9
 go_enter Tryz.func157, Tryz.ntmps157
 go_wp2_with fail
 refine (HF.out _).mono ?_
 rintro E V ⟨rfl, hB⟩
 go_wp2_with (first | (go_at_call 166; refine (integer_any _ _).mono ?_; rintro e w' ⟨rfl, rfl⟩) | (go_at_call 167; refine (float_any _ _).mono ?_; rintro e w' ⟨rfl, rfl⟩) | (go_at_call 168; refine (HT.out _).mono ?_; rintro e w' ⟨rfl, rfl⟩))
 try go_quiet (first | (go_at_call 166; exact Calls.quiet_of_same ((integer_any _ _).mono (by rintro e w' ⟨rfl, rfl⟩; exact ⟨rfl, rfl⟩))) | (go_at_call 167; exact Calls.quiet_of_same ((float_any _ _).mono (by rintro e w' ⟨rfl, rfl⟩; exact ⟨rfl, rfl⟩))))
 go_wp2_with fail
 refine bodyPost_ret (results_tmp4 rfl _ _ _) rfl ?_
 exact ⟨rfl, (hB.alloc hB.size _).trans ⟨rfl, rfl, rfl, Nat.le_refl _, fun _ _ => rfl⟩⟩
end Go.Proofs.YtofaiocffifhfaaGreat
end
section
namespace Go.Proofs.YtofaiocffifhfaaGreat
open Go.RowKit Go.Shelf YtofaiocffifhfaaGreatB Go.Proofs.YtofaiocffifhfaaGreatW.PrintWords
def findM (op : Int) : Int × Int × Int :=
 if 69 ≤ op ∧ op ≤ 69 then (1, 0, 32) else
 if 70 ≤ op ∧ op ≤ 79 then (2, op - 69, 32) else
 if 80 ≤ op ∧ op ≤ 80 then (1, 0, 64) else
 if 81 ≤ op ∧ op ≤ 90 then (2, op - 69 - 11, 64) else
 if 91 ≤ op ∧ op ≤ 96 then (3, op - 91, 32) else
 if 97 ≤ op ∧ op ≤ 102 then (3, op - 91 - 6, 64) else
 if 103 ≤ op ∧ op ≤ 105 then (4, op - 103, 32) else
 if 106 ≤ op ∧ op ≤ 120 then (5, op - 103, 32) else
 if 121 ≤ op ∧ op ≤ 123 then (4, op - 103 - 18, 64) else
 if 124 ≤ op ∧ op ≤ 138 then (5, op - 103 - 18, 64) else
 if 139 ≤ op ∧ op ≤ 145 then (6, op - 139, 32) else
 if 146 ≤ op ∧ op ≤ 152 then (7, op - 139, 32) else
 if 153 ≤ op ∧ op ≤ 159 then (6, op - 139 - 14, 64) else
 if 160 ≤ op ∧ op ≤ 166 then (7, op - 139 - 14, 64) else
 if 167 ≤ op ∧ op ≤ 191 then (8, op - 167, 0) else
 if 64512 ≤ op ∧ op ≤ 64519 then (9, op - 64512, 0) else
 (0, 0, 0)
def kindM (op : Int) : Int × Int × Int × Bool := kindF (findM op).1 (findM op).2.1 (findM op).2.2
theorem Kind_any (W : World) (op : Int) (h0 : -9223372036854775808 ≤ op) (h1 : op ≤ 9223372036854775807) : Calls Tryz.prog 157 #[.int .i64 op] W (KindPost W (kindM op)) := by
 by_cases c69 : 69 ≤ op ∧ op ≤ 69
 ·obtain rfl : op = 69 := by omega
  exact kind_1 W 69 0 32 (fun X => find_69 X) (by omega) (by omega) (by omega)
 by_cases c70 : 70 ≤ op ∧ op ≤ 79
 ·rw [kindM, show findM op = (2, op - 69, 32) from by rw [findM, if_neg (by omega), if_pos c70]]
  exact kind_2 W op (op - 69) 32 (fun X => find_70 X op c70.1 c70.2) (by omega) (by omega) (by omega)
 by_cases c80 : 80 ≤ op ∧ op ≤ 80
 ·obtain rfl : op = 80 := by omega
  exact kind_1 W 80 0 64 (fun X => find_80 X) (by omega) (by omega) (by omega)
 by_cases c81 : 81 ≤ op ∧ op ≤ 90
 ·rw [kindM, show findM op = (2, op - 69 - 11, 64) from by rw [findM, if_neg (by omega), if_neg (by omega), if_neg (by omega), if_pos c81]]
  exact kind_2 W op (op - 69 - 11) 64 (fun X => find_81 X op c81.1 c81.2) (by omega) (by omega) (by omega)
 by_cases c91 : 91 ≤ op ∧ op ≤ 96
 ·rw [kindM, show findM op = (3, op - 91, 32) from by rw [findM, if_neg (by omega), if_neg (by omega), if_neg (by omega), if_neg (by omega), if_pos c91]]
  exact kind_3 W op (op - 91) 32 (fun X => find_91 X op c91.1 c91.2) (by omega) (by omega) (by omega)
 by_cases c97 : 97 ≤ op ∧ op ≤ 102
 ·rw [kindM, show findM op = (3, op - 91 - 6, 64) from by rw [findM, if_neg (by omega), if_neg (by omega), if_neg (by omega), if_neg (by omega), if_neg (by omega), if_pos c97]]
  exact kind_3 W op (op - 91 - 6) 64 (fun X => find_97 X op c97.1 c97.2) (by omega) (by omega) (by omega)
 by_cases c103 : 103 ≤ op ∧ op ≤ 105
 ·rw [kindM, show findM op = (4, op - 103, 32) from by rw [findM, if_neg (by omega), if_neg (by omega), if_neg (by omega), if_neg (by omega), if_neg (by omega), if_neg (by omega), if_pos c103]]
  exact kind_4 W op (op - 103) 32 (fun X => find_103 X op c103.1 c103.2) (by omega) (by omega) (by omega)
 by_cases c106 : 106 ≤ op ∧ op ≤ 120
 ·rw [kindM, show findM op = (5, op - 103, 32) from by rw [findM, if_neg (by omega), if_neg (by omega), if_neg (by omega), if_neg (by omega), if_neg (by omega), if_neg (by omega), if_neg (by omega), if_pos c106]]
  exact kind_5 W op (op - 103) 32 (fun X => find_106 X op c106.1 c106.2) (by omega) (by omega) (by omega)
 by_cases c121 : 121 ≤ op ∧ op ≤ 123
 ·rw [kindM, show findM op = (4, op - 103 - 18, 64) from by rw [findM, if_neg (by omega), if_neg (by omega), if_neg (by omega), if_neg (by omega), if_neg (by omega), if_neg (by omega), if_neg (by omega), if_neg (by omega), if_pos c121]]
  exact kind_4 W op (op - 103 - 18) 64 (fun X => find_121 X op c121.1 c121.2) (by omega) (by omega) (by omega)
 by_cases c124 : 124 ≤ op ∧ op ≤ 138
 ·rw [kindM, show findM op = (5, op - 103 - 18, 64) from by rw [findM, if_neg (by omega), if_neg (by omega), if_neg (by omega), if_neg (by omega), if_neg (by omega), if_neg (by omega), if_neg (by omega), if_neg (by omega), if_neg (by omega), if_pos c124]]
  exact kind_5 W op (op - 103 - 18) 64 (fun X => find_124 X op c124.1 c124.2) (by omega) (by omega) (by omega)
 by_cases c139 : 139 ≤ op ∧ op ≤ 145
 ·rw [kindM, show findM op = (6, op - 139, 32) from by rw [findM, if_neg (by omega), if_neg (by omega), if_neg (by omega), if_neg (by omega), if_neg (by omega), if_neg (by omega), if_neg (by omega), if_neg (by omega), if_neg (by omega), if_neg (by omega), if_pos c139]]
  exact kind_6 W op (op - 139) 32 (fun X => find_139 X op c139.1 c139.2) (by omega) (by omega) (by omega)
 by_cases c146 : 146 ≤ op ∧ op ≤ 152
 ·rw [kindM, show findM op = (7, op - 139, 32) from by rw [findM, if_neg (by omega), if_neg (by omega), if_neg (by omega), if_neg (by omega), if_neg (by omega), if_neg (by omega), if_neg (by omega), if_neg (by omega), if_neg (by omega), if_neg (by omega), if_neg (by omega), if_pos c146]]
  exact kind_7 W op (op - 139) 32 (fun X => find_146 X op c146.1 c146.2) (by omega) (by omega) (by omega)
 by_cases c153 : 153 ≤ op ∧ op ≤ 159
 ·rw [kindM, show findM op = (6, op - 139 - 14, 64) from by rw [findM, if_neg (by omega), if_neg (by omega), if_neg (by omega), if_neg (by omega), if_neg (by omega), if_neg (by omega), if_neg (by omega), if_neg (by omega), if_neg (by omega), if_neg (by omega), if_neg (by omega), if_neg (by omega), if_pos c153]]
  exact kind_6 W op (op - 139 - 14) 64 (fun X => find_153 X op c153.1 c153.2) (by omega) (by omega) (by omega)
 by_cases c160 : 160 ≤ op ∧ op ≤ 166
 ·rw [kindM, show findM op = (7, op - 139 - 14, 64) from by rw [findM, if_neg (by omega), if_neg (by omega), if_neg (by omega), if_neg (by omega), if_neg (by omega), if_neg (by omega), if_neg (by omega), if_neg (by omega), if_neg (by omega), if_neg (by omega), if_neg (by omega), if_neg (by omega), if_neg (by omega), if_pos c160]]
  exact kind_7 W op (op - 139 - 14) 64 (fun X => find_160 X op c160.1 c160.2) (by omega) (by omega) (by omega)
 by_cases c167 : 167 ≤ op ∧ op ≤ 191
 ·rw [kindM, show findM op = (8, op - 167, 0) from by rw [findM, if_neg (by omega), if_neg (by omega), if_neg (by omega), if_neg (by omega), if_neg (by omega), if_neg (by omega), if_neg (by omega), if_neg (by omega), if_neg (by omega), if_neg (by omega), if_neg (by omega), if_neg (by omega), if_neg (by omega), if_neg (by omega), if_pos c167]]
  exact kind_8 W op (op - 167) 0 (fun X => find_167 X op c167.1 c167.2) (by omega) (by omega) (by omega)
 by_cases c64512 : 64512 ≤ op ∧ op ≤ 64519
 ·rw [kindM, show findM op = (9, op - 64512, 0) from by rw [findM, if_neg (by omega), if_neg (by omega), if_neg (by omega), if_neg (by omega), if_neg (by omega), if_neg (by omega), if_neg (by omega), if_neg (by omega), if_neg (by omega), if_neg (by omega), if_neg (by omega), if_neg (by omega), if_neg (by omega), if_neg (by omega), if_neg (by omega), if_pos c64512]]
  exact kind_9 W op (op - 64512) 0 (fun X => find_64512 X op c64512.1 c64512.2) (by omega) (by omega) (by omega)
 rw [kindM, show findM op = (0, 0, 0) from by rw [findM, if_neg c69, if_neg c70, if_neg c80, if_neg c81, if_neg c91, if_neg c97, if_neg c103, if_neg c106, if_neg c121, if_neg c124, if_neg c139, if_neg c146, if_neg c153, if_neg c160, if_neg c167, if_neg c64512]]
 exact kind_0 W op 0 0 (fun X => find_none X op h0 h1 (by omega) (by omega)) (by omega) (by omega) (by omega)
theorem kindM_ok (op : Int) : (kindM op).2.2.2 = decide (69 ≤ op ∧ op ≤ 191 ∨ 64512 ≤ op ∧ op ≤ 64519) := by
 by_cases c69 : 69 ≤ op ∧ op ≤ 69
 ·rw [kindM, show findM op = (1, 0, 32) from by rw [findM, if_pos c69], decide_eq_true (by omega)]; rfl
 by_cases c70 : 70 ≤ op ∧ op ≤ 79
 ·rw [kindM, show findM op = (2, op - 69, 32) from by rw [findM, if_neg (by omega), if_pos c70], decide_eq_true (by omega)]; rfl
 by_cases c80 : 80 ≤ op ∧ op ≤ 80
 ·rw [kindM, show findM op = (1, 0, 64) from by rw [findM, if_neg (by omega), if_neg (by omega), if_pos c80], decide_eq_true (by omega)]; rfl
 by_cases c81 : 81 ≤ op ∧ op ≤ 90
 ·rw [kindM, show findM op = (2, op - 69 - 11, 64) from by rw [findM, if_neg (by omega), if_neg (by omega), if_neg (by omega), if_pos c81], decide_eq_true (by omega)]; rfl
 by_cases c91 : 91 ≤ op ∧ op ≤ 96
 ·rw [kindM, show findM op = (3, op - 91, 32) from by rw [findM, if_neg (by omega), if_neg (by omega), if_neg (by omega), if_neg (by omega), if_pos c91], decide_eq_true (by omega)]; rfl
 by_cases c97 : 97 ≤ op ∧ op ≤ 102
 ·rw [kindM, show findM op = (3, op - 91 - 6, 64) from by rw [findM, if_neg (by omega), if_neg (by omega), if_neg (by omega), if_neg (by omega), if_neg (by omega), if_pos c97], decide_eq_true (by omega)]; rfl
 by_cases c103 : 103 ≤ op ∧ op ≤ 105
 ·rw [kindM, show findM op = (4, op - 103, 32) from by rw [findM, if_neg (by omega), if_neg (by omega), if_neg (by omega), if_neg (by omega), if_neg (by omega), if_neg (by omega), if_pos c103], decide_eq_true (by omega)]; rfl
 by_cases c106 : 106 ≤ op ∧ op ≤ 120
 ·rw [kindM, show findM op = (5, op - 103, 32) from by rw [findM, if_neg (by omega), if_neg (by omega), if_neg (by omega), if_neg (by omega), if_neg (by omega), if_neg (by omega), if_neg (by omega), if_pos c106], decide_eq_true (by omega)]; rfl
 by_cases c121 : 121 ≤ op ∧ op ≤ 123
 ·rw [kindM, show findM op = (4, op - 103 - 18, 64) from by rw [findM, if_neg (by omega), if_neg (by omega), if_neg (by omega), if_neg (by omega), if_neg (by omega), if_neg (by omega), if_neg (by omega), if_neg (by omega), if_pos c121], decide_eq_true (by omega)]; rfl
 by_cases c124 : 124 ≤ op ∧ op ≤ 138
 ·rw [kindM, show findM op = (5, op - 103 - 18, 64) from by rw [findM, if_neg (by omega), if_neg (by omega), if_neg (by omega), if_neg (by omega), if_neg (by omega), if_neg (by omega), if_neg (by omega), if_neg (by omega), if_neg (by omega), if_pos c124], decide_eq_true (by omega)]; rfl
 by_cases c139 : 139 ≤ op ∧ op ≤ 145
 ·rw [kindM, show findM op = (6, op - 139, 32) from by rw [findM, if_neg (by omega), if_neg (by omega), if_neg (by omega), if_neg (by omega), if_neg (by omega), if_neg (by omega), if_neg (by omega), if_neg (by omega), if_neg (by omega), if_neg (by omega), if_pos c139], decide_eq_true (by omega)]; rfl
 by_cases c146 : 146 ≤ op ∧ op ≤ 152
 ·rw [kindM, show findM op = (7, op - 139, 32) from by rw [findM, if_neg (by omega), if_neg (by omega), if_neg (by omega), if_neg (by omega), if_neg (by omega), if_neg (by omega), if_neg (by omega), if_neg (by omega), if_neg (by omega), if_neg (by omega), if_neg (by omega), if_pos c146], decide_eq_true (by omega)]; rfl
 by_cases c153 : 153 ≤ op ∧ op ≤ 159
 ·rw [kindM, show findM op = (6, op - 139 - 14, 64) from by rw [findM, if_neg (by omega), if_neg (by omega), if_neg (by omega), if_neg (by omega), if_neg (by omega), if_neg (by omega), if_neg (by omega), if_neg (by omega), if_neg (by omega), if_neg (by omega), if_neg (by omega), if_neg (by omega), if_pos c153], decide_eq_true (by omega)]; rfl
 by_cases c160 : 160 ≤ op ∧ op ≤ 166
 ·rw [kindM, show findM op = (7, op - 139 - 14, 64) from by rw [findM, if_neg (by omega), if_neg (by omega), if_neg (by omega), if_neg (by omega), if_neg (by omega), if_neg (by omega), if_neg (by omega), if_neg (by omega), if_neg (by omega), if_neg (by omega), if_neg (by omega), if_neg (by omega), if_neg (by omega), if_pos c160], decide_eq_true (by omega)]; rfl
 by_cases c167 : 167 ≤ op ∧ op ≤ 191
 ·rw [kindM, show findM op = (8, op - 167, 0) from by rw [findM, if_neg (by omega), if_neg (by omega), if_neg (by omega), if_neg (by omega), if_neg (by omega), if_neg (by omega), if_neg (by omega), if_neg (by omega), if_neg (by omega), if_neg (by omega), if_neg (by omega), if_neg (by omega), if_neg (by omega), if_neg (by omega), if_pos c167], decide_eq_true (by omega)]; rfl
 by_cases c64512 : 64512 ≤ op ∧ op ≤ 64519
 ·rw [kindM, show findM op = (9, op - 64512, 0) from by rw [findM, if_neg (by omega), if_neg (by omega), if_neg (by omega), if_neg (by omega), if_neg (by omega), if_neg (by omega), if_neg (by omega), if_neg (by omega), if_neg (by omega), if_neg (by omega), if_neg (by omega), if_neg (by omega), if_neg (by omega), if_neg (by omega), if_neg (by omega), if_pos c64512], decide_eq_true (by omega)]; rfl
 rw [kindM, show findM op = (0, 0, 0) from by rw [findM, if_neg c69, if_neg c70, if_neg c80, if_neg c81, if_neg c91, if_neg c97, if_neg c103, if_neg c106, if_neg c121, if_neg c124, if_neg c139, if_neg c146, if_neg c153, if_neg c160, if_neg c167, if_neg c64512], decide_eq_false (by omega)]; rfl
def immM (op : Int) : Int × Bool :=
 if op = 0 ∨ op = 1 ∨ op = 15 ∨ op = 26 ∨ op = 27 then (0, true) else
 if op = 2 ∨ op = 3 ∨ op = 4 then (1, true) else
 if op = 5 ∨ op = 11 then (12, true) else
 if op = 12 ∨ op = 13 then (2, true) else
 if op = 14 then (3, true) else
 if op = 16 ∨ op = 32 ∨ op = 33 ∨ op = 34 ∨ op = 35 ∨ op = 36 then (4, true) else
 if op = 17 then (5, true) else
 if op = 63 ∨ op = 64 then (7, true) else
 if op = 65 then (8, true) else
 if op = 66 then (9, true) else
 if op = 67 then (10, true) else
 if op = 68 then (11, true) else
 if 40 ≤ op ∧ op ≤ 62 then (6, true) else (0, decide (69 ≤ op ∧ op ≤ 191 ∨ 64512 ≤ op ∧ op ≤ 64519))
def ImmPost (W : World) (r : Int × Bool) (E : Ending) (w' : World) : Prop := E = .returned (.tuple #[.int .i64 r.1, .bool r.2]) ∧ Below W.heap.size W w'
set_option maxRecDepth 100000 in
theorem imm_0 (W : World) : Calls Tryz.prog 144 #[.int .i64 0] W (ImmPost W (immM 0)) := by
 go_enter Tryz.func144, Tryz.ntmps144
 go_wp2_with fail
 go_ret2
 exact ⟨rfl, Below.refl _ _⟩
set_option maxRecDepth 100000 in
theorem imm_1 (W : World) : Calls Tryz.prog 144 #[.int .i64 1] W (ImmPost W (immM 1)) := by
 go_enter Tryz.func144, Tryz.ntmps144
 go_wp2_with fail
 go_ret2
 exact ⟨rfl, Below.refl _ _⟩
set_option maxRecDepth 100000 in
theorem imm_15 (W : World) : Calls Tryz.prog 144 #[.int .i64 15] W (ImmPost W (immM 15)) := by
 go_enter Tryz.func144, Tryz.ntmps144
 go_wp2_with fail
 go_ret2
 exact ⟨rfl, Below.refl _ _⟩
set_option maxRecDepth 100000 in
theorem imm_26 (W : World) : Calls Tryz.prog 144 #[.int .i64 26] W (ImmPost W (immM 26)) := by
 go_enter Tryz.func144, Tryz.ntmps144
 go_wp2_with fail
 go_ret2
 exact ⟨rfl, Below.refl _ _⟩
set_option maxRecDepth 100000 in
theorem imm_27 (W : World) : Calls Tryz.prog 144 #[.int .i64 27] W (ImmPost W (immM 27)) := by
 go_enter Tryz.func144, Tryz.ntmps144
 go_wp2_with fail
 go_ret2
 exact ⟨rfl, Below.refl _ _⟩
set_option maxRecDepth 100000 in
theorem imm_2 (W : World) : Calls Tryz.prog 144 #[.int .i64 2] W (ImmPost W (immM 2)) := by
 go_enter Tryz.func144, Tryz.ntmps144
 go_wp2_with fail
 go_ret2
 exact ⟨rfl, Below.refl _ _⟩
set_option maxRecDepth 100000 in
theorem imm_3 (W : World) : Calls Tryz.prog 144 #[.int .i64 3] W (ImmPost W (immM 3)) := by
 go_enter Tryz.func144, Tryz.ntmps144
 go_wp2_with fail
 go_ret2
 exact ⟨rfl, Below.refl _ _⟩
set_option maxRecDepth 100000 in
theorem imm_4 (W : World) : Calls Tryz.prog 144 #[.int .i64 4] W (ImmPost W (immM 4)) := by
 go_enter Tryz.func144, Tryz.ntmps144
 go_wp2_with fail
 go_ret2
 exact ⟨rfl, Below.refl _ _⟩
set_option maxRecDepth 100000 in
theorem imm_5 (W : World) : Calls Tryz.prog 144 #[.int .i64 5] W (ImmPost W (immM 5)) := by
 go_enter Tryz.func144, Tryz.ntmps144
 go_wp2_with fail
 go_ret2
 exact ⟨rfl, Below.refl _ _⟩
set_option maxRecDepth 100000 in
theorem imm_11 (W : World) : Calls Tryz.prog 144 #[.int .i64 11] W (ImmPost W (immM 11)) := by
 go_enter Tryz.func144, Tryz.ntmps144
 go_wp2_with fail
 go_ret2
 exact ⟨rfl, Below.refl _ _⟩
set_option maxRecDepth 100000 in
theorem imm_12 (W : World) : Calls Tryz.prog 144 #[.int .i64 12] W (ImmPost W (immM 12)) := by
 go_enter Tryz.func144, Tryz.ntmps144
 go_wp2_with fail
 go_ret2
 exact ⟨rfl, Below.refl _ _⟩
set_option maxRecDepth 100000 in
theorem imm_13 (W : World) : Calls Tryz.prog 144 #[.int .i64 13] W (ImmPost W (immM 13)) := by
 go_enter Tryz.func144, Tryz.ntmps144
 go_wp2_with fail
 go_ret2
 exact ⟨rfl, Below.refl _ _⟩
set_option maxRecDepth 100000 in
theorem imm_14 (W : World) : Calls Tryz.prog 144 #[.int .i64 14] W (ImmPost W (immM 14)) := by
 go_enter Tryz.func144, Tryz.ntmps144
 go_wp2_with fail
 go_ret2
 exact ⟨rfl, Below.refl _ _⟩
set_option maxRecDepth 100000 in
theorem imm_16 (W : World) : Calls Tryz.prog 144 #[.int .i64 16] W (ImmPost W (immM 16)) := by
 go_enter Tryz.func144, Tryz.ntmps144
 go_wp2_with fail
 go_ret2
 exact ⟨rfl, Below.refl _ _⟩
set_option maxRecDepth 100000 in
theorem imm_32 (W : World) : Calls Tryz.prog 144 #[.int .i64 32] W (ImmPost W (immM 32)) := by
 go_enter Tryz.func144, Tryz.ntmps144
 go_wp2_with fail
 go_ret2
 exact ⟨rfl, Below.refl _ _⟩
set_option maxRecDepth 100000 in
theorem imm_33 (W : World) : Calls Tryz.prog 144 #[.int .i64 33] W (ImmPost W (immM 33)) := by
 go_enter Tryz.func144, Tryz.ntmps144
 go_wp2_with fail
 go_ret2
 exact ⟨rfl, Below.refl _ _⟩
set_option maxRecDepth 100000 in
theorem imm_34 (W : World) : Calls Tryz.prog 144 #[.int .i64 34] W (ImmPost W (immM 34)) := by
 go_enter Tryz.func144, Tryz.ntmps144
 go_wp2_with fail
 go_ret2
 exact ⟨rfl, Below.refl _ _⟩
set_option maxRecDepth 100000 in
theorem imm_35 (W : World) : Calls Tryz.prog 144 #[.int .i64 35] W (ImmPost W (immM 35)) := by
 go_enter Tryz.func144, Tryz.ntmps144
 go_wp2_with fail
 go_ret2
 exact ⟨rfl, Below.refl _ _⟩
set_option maxRecDepth 100000 in
theorem imm_36 (W : World) : Calls Tryz.prog 144 #[.int .i64 36] W (ImmPost W (immM 36)) := by
 go_enter Tryz.func144, Tryz.ntmps144
 go_wp2_with fail
 go_ret2
 exact ⟨rfl, Below.refl _ _⟩
set_option maxRecDepth 100000 in
theorem imm_17 (W : World) : Calls Tryz.prog 144 #[.int .i64 17] W (ImmPost W (immM 17)) := by
 go_enter Tryz.func144, Tryz.ntmps144
 go_wp2_with fail
 go_ret2
 exact ⟨rfl, Below.refl _ _⟩
set_option maxRecDepth 100000 in
theorem imm_63 (W : World) : Calls Tryz.prog 144 #[.int .i64 63] W (ImmPost W (immM 63)) := by
 go_enter Tryz.func144, Tryz.ntmps144
 go_wp2_with fail
 go_ret2
 exact ⟨rfl, Below.refl _ _⟩
set_option maxRecDepth 100000 in
theorem imm_64 (W : World) : Calls Tryz.prog 144 #[.int .i64 64] W (ImmPost W (immM 64)) := by
 go_enter Tryz.func144, Tryz.ntmps144
 go_wp2_with fail
 go_ret2
 exact ⟨rfl, Below.refl _ _⟩
set_option maxRecDepth 100000 in
theorem imm_65 (W : World) : Calls Tryz.prog 144 #[.int .i64 65] W (ImmPost W (immM 65)) := by
 go_enter Tryz.func144, Tryz.ntmps144
 go_wp2_with fail
 go_ret2
 exact ⟨rfl, Below.refl _ _⟩
set_option maxRecDepth 100000 in
theorem imm_66 (W : World) : Calls Tryz.prog 144 #[.int .i64 66] W (ImmPost W (immM 66)) := by
 go_enter Tryz.func144, Tryz.ntmps144
 go_wp2_with fail
 go_ret2
 exact ⟨rfl, Below.refl _ _⟩
set_option maxRecDepth 100000 in
theorem imm_67 (W : World) : Calls Tryz.prog 144 #[.int .i64 67] W (ImmPost W (immM 67)) := by
 go_enter Tryz.func144, Tryz.ntmps144
 go_wp2_with fail
 go_ret2
 exact ⟨rfl, Below.refl _ _⟩
set_option maxRecDepth 100000 in
theorem imm_68 (W : World) : Calls Tryz.prog 144 #[.int .i64 68] W (ImmPost W (immM 68)) := by
 go_enter Tryz.func144, Tryz.ntmps144
 go_wp2_with fail
 go_ret2
 exact ⟨rfl, Below.refl _ _⟩
set_option maxRecDepth 100000 in
theorem imm_mem (W : World) (op : Int) (h0 : 40 ≤ op) (h1 : op ≤ 62) : Calls Tryz.prog 144 #[.int .i64 op] W (ImmPost W (6, true)) := by
 have z0 : (op == 0) = false := beq_eq_false_iff_ne.2 (by omega)
 have z1 : (op == 1) = false := beq_eq_false_iff_ne.2 (by omega)
 have z15 : (op == 15) = false := beq_eq_false_iff_ne.2 (by omega)
 have z26 : (op == 26) = false := beq_eq_false_iff_ne.2 (by omega)
 have z27 : (op == 27) = false := beq_eq_false_iff_ne.2 (by omega)
 have z2 : (op == 2) = false := beq_eq_false_iff_ne.2 (by omega)
 have z3 : (op == 3) = false := beq_eq_false_iff_ne.2 (by omega)
 have z4 : (op == 4) = false := beq_eq_false_iff_ne.2 (by omega)
 have z5 : (op == 5) = false := beq_eq_false_iff_ne.2 (by omega)
 have z11 : (op == 11) = false := beq_eq_false_iff_ne.2 (by omega)
 have z12 : (op == 12) = false := beq_eq_false_iff_ne.2 (by omega)
 have z13 : (op == 13) = false := beq_eq_false_iff_ne.2 (by omega)
 have z14 : (op == 14) = false := beq_eq_false_iff_ne.2 (by omega)
 have z16 : (op == 16) = false := beq_eq_false_iff_ne.2 (by omega)
 have z32 : (op == 32) = false := beq_eq_false_iff_ne.2 (by omega)
 have z33 : (op == 33) = false := beq_eq_false_iff_ne.2 (by omega)
 have z34 : (op == 34) = false := beq_eq_false_iff_ne.2 (by omega)
 have z35 : (op == 35) = false := beq_eq_false_iff_ne.2 (by omega)
 have z36 : (op == 36) = false := beq_eq_false_iff_ne.2 (by omega)
 have z17 : (op == 17) = false := beq_eq_false_iff_ne.2 (by omega)
 have z63 : (op == 63) = false := beq_eq_false_iff_ne.2 (by omega)
 have z64 : (op == 64) = false := beq_eq_false_iff_ne.2 (by omega)
 have z65 : (op == 65) = false := beq_eq_false_iff_ne.2 (by omega)
 have z66 : (op == 66) = false := beq_eq_false_iff_ne.2 (by omega)
 have z67 : (op == 67) = false := beq_eq_false_iff_ne.2 (by omega)
 have z68 : (op == 68) = false := beq_eq_false_iff_ne.2 (by omega)
 go_enter Tryz.func144, Tryz.ntmps144
 go_wp2_with fail
 go_ret2
 exact ⟨rfl, Below.refl _ _⟩
set_option maxRecDepth 100000 in
theorem imm_num (W : World) (op : Int) (h0 : -9223372036854775808 ≤ op) (h1 : op ≤ 9223372036854775807) (hm : op < 40 ∨ 62 < op) (hl : ¬ op = 0 ∧ ¬ op = 1 ∧ ¬ op = 15 ∧ ¬ op = 26 ∧ ¬ op = 27 ∧ ¬ op = 2 ∧ ¬ op = 3 ∧ ¬ op = 4 ∧ ¬ op = 5 ∧ ¬ op = 11 ∧ ¬ op = 12 ∧ ¬ op = 13 ∧ ¬ op = 14 ∧ ¬ op = 16 ∧ ¬ op = 32 ∧ ¬ op = 33 ∧ ¬ op = 34 ∧ ¬ op = 35 ∧ ¬ op = 36 ∧ ¬ op = 17 ∧ ¬ op = 63 ∧ ¬ op = 64 ∧ ¬ op = 65 ∧ ¬ op = 66 ∧ ¬ op = 67 ∧ ¬ op = 68) : Calls Tryz.prog 144 #[.int .i64 op] W (ImmPost W (0, decide (69 ≤ op ∧ op ≤ 191 ∨ 64512 ≤ op ∧ op ≤ 64519))) := by
 have z0 : (op == 0) = false := beq_eq_false_iff_ne.2 (by omega)
 have z1 : (op == 1) = false := beq_eq_false_iff_ne.2 (by omega)
 have z15 : (op == 15) = false := beq_eq_false_iff_ne.2 (by omega)
 have z26 : (op == 26) = false := beq_eq_false_iff_ne.2 (by omega)
 have z27 : (op == 27) = false := beq_eq_false_iff_ne.2 (by omega)
 have z2 : (op == 2) = false := beq_eq_false_iff_ne.2 (by omega)
 have z3 : (op == 3) = false := beq_eq_false_iff_ne.2 (by omega)
 have z4 : (op == 4) = false := beq_eq_false_iff_ne.2 (by omega)
 have z5 : (op == 5) = false := beq_eq_false_iff_ne.2 (by omega)
 have z11 : (op == 11) = false := beq_eq_false_iff_ne.2 (by omega)
 have z12 : (op == 12) = false := beq_eq_false_iff_ne.2 (by omega)
 have z13 : (op == 13) = false := beq_eq_false_iff_ne.2 (by omega)
 have z14 : (op == 14) = false := beq_eq_false_iff_ne.2 (by omega)
 have z16 : (op == 16) = false := beq_eq_false_iff_ne.2 (by omega)
 have z32 : (op == 32) = false := beq_eq_false_iff_ne.2 (by omega)
 have z33 : (op == 33) = false := beq_eq_false_iff_ne.2 (by omega)
 have z34 : (op == 34) = false := beq_eq_false_iff_ne.2 (by omega)
 have z35 : (op == 35) = false := beq_eq_false_iff_ne.2 (by omega)
 have z36 : (op == 36) = false := beq_eq_false_iff_ne.2 (by omega)
 have z17 : (op == 17) = false := beq_eq_false_iff_ne.2 (by omega)
 have z63 : (op == 63) = false := beq_eq_false_iff_ne.2 (by omega)
 have z64 : (op == 64) = false := beq_eq_false_iff_ne.2 (by omega)
 have z65 : (op == 65) = false := beq_eq_false_iff_ne.2 (by omega)
 have z66 : (op == 66) = false := beq_eq_false_iff_ne.2 (by omega)
 have z67 : (op == 67) = false := beq_eq_false_iff_ne.2 (by omega)
 have z68 : (op == 68) = false := beq_eq_false_iff_ne.2 (by omega)
 have HK := Lib.hid (Kind_any W op h0 h1)
 have HO := Lib.hid (kindM_ok op)
 generalize kindM op = r at *
 obtain ⟨r1, r2, r3, r4⟩ := r
 clear hl
 go_enter Tryz.func144, Tryz.ntmps144
 go_wp2_with fail
 all_goals
  refine HK.out.mono ?_
  rintro E V ⟨rfl, hB⟩
  go_wp2_with fail
  go_ret2
  exact ⟨by rw [← HO.out]; rfl, hB⟩
theorem Imm_all (W : World) (op : Int) (h0 : -9223372036854775808 ≤ op) (h1 : op ≤ 9223372036854775807) : Calls Tryz.prog 144 #[.int .i64 op] W (ImmPost W (immM op)) := by
 by_cases c0 : op = 0
 ·subst c0; exact imm_0 W
 by_cases c1 : op = 1
 ·subst c1; exact imm_1 W
 by_cases c15 : op = 15
 ·subst c15; exact imm_15 W
 by_cases c26 : op = 26
 ·subst c26; exact imm_26 W
 by_cases c27 : op = 27
 ·subst c27; exact imm_27 W
 by_cases c2 : op = 2
 ·subst c2; exact imm_2 W
 by_cases c3 : op = 3
 ·subst c3; exact imm_3 W
 by_cases c4 : op = 4
 ·subst c4; exact imm_4 W
 by_cases c5 : op = 5
 ·subst c5; exact imm_5 W
 by_cases c11 : op = 11
 ·subst c11; exact imm_11 W
 by_cases c12 : op = 12
 ·subst c12; exact imm_12 W
 by_cases c13 : op = 13
 ·subst c13; exact imm_13 W
 by_cases c14 : op = 14
 ·subst c14; exact imm_14 W
 by_cases c16 : op = 16
 ·subst c16; exact imm_16 W
 by_cases c32 : op = 32
 ·subst c32; exact imm_32 W
 by_cases c33 : op = 33
 ·subst c33; exact imm_33 W
 by_cases c34 : op = 34
 ·subst c34; exact imm_34 W
 by_cases c35 : op = 35
 ·subst c35; exact imm_35 W
 by_cases c36 : op = 36
 ·subst c36; exact imm_36 W
 by_cases c17 : op = 17
 ·subst c17; exact imm_17 W
 by_cases c63 : op = 63
 ·subst c63; exact imm_63 W
 by_cases c64 : op = 64
 ·subst c64; exact imm_64 W
 by_cases c65 : op = 65
 ·subst c65; exact imm_65 W
 by_cases c66 : op = 66
 ·subst c66; exact imm_66 W
 by_cases c67 : op = 67
 ·subst c67; exact imm_67 W
 by_cases c68 : op = 68
 ·subst c68; exact imm_68 W
 by_cases cm : 40 ≤ op ∧ op ≤ 62
 ·rw [show immM op = (6, true) from by rw [immM, if_neg (by omega), if_neg (by omega), if_neg (by omega), if_neg (by omega), if_neg (by omega), if_neg (by omega), if_neg (by omega), if_neg (by omega), if_neg (by omega), if_neg (by omega), if_neg (by omega), if_neg (by omega), if_pos cm]]; exact imm_mem W op cm.1 cm.2
 rw [show immM op = (0, decide (69 ≤ op ∧ op ≤ 191 ∨ 64512 ≤ op ∧ op ≤ 64519)) from by rw [immM, if_neg (by omega), if_neg (by omega), if_neg (by omega), if_neg (by omega), if_neg (by omega), if_neg (by omega), if_neg (by omega), if_neg (by omega), if_neg (by omega), if_neg (by omega), if_neg (by omega), if_neg (by omega), if_neg cm]]
 exact imm_num W op h0 h1 (by omega) ⟨c0, c1, c15, c26, c27, c2, c3, c4, c5, c11, c12, c13, c14, c16, c32, c33, c34, c35, c36, c17, c63, c64, c65, c66, c67, c68⟩
theorem Imm_any (W : World) (op : Int) (h0 : 0 ≤ op) (h1 : op ≤ 5000000000) : Calls Tryz.prog 144 #[.int .i64 op] W (ImmPost W (immM op)) := Imm_all W op (by omega) (by omega)
end Go.Proofs.YtofaiocffifhfaaGreat
end
section
namespace Go.Proofs.YtofaiocffifhfaaGreat
open Go.RowKit Go.Shelf YtofaiocffifhfaaGreatB Go.Proofs.YtofaiocffifhfaaGreatW.PrintWords
end Go.Proofs.YtofaiocffifhfaaGreat
end
section
namespace Go.Proofs.YtofaiocffifhfaaGreat
open Go.RowKit Go.Shelf YtofaiocffifhfaaGreatB Go.Proofs.YtofaiocffifhfaaGreatW.PrintWords
def Rp (W : World) (R p : Nat) (sat : Bool) (deep : Int) : Prop := Blk W R #[.pointer (some ⟨p, 0, none⟩), .bool sat, .int .i64 deep] 218
theorem Rp.cells {W : World} {R p : Nat} {sat : Bool} {deep : Int} (h : Rp W R p sat deep) : W.cell? ⟨R, 0, none⟩ = some (.pointer (some ⟨p, 0, none⟩)) ∧ W.cell? ⟨R, 1, none⟩ = some (.bool sat) ∧ W.cell? ⟨R, 2, none⟩ = some (.int .i64 deep) ∧ W.frozen? ⟨R, 2, none⟩ = false ∧ R < W.heap.size :=
 ⟨by rw [h.cell]; rfl, by rw [h.cell]; rfl, by rw [h.cell]; rfl, h.frozen 2, h.lt⟩
theorem Rp.goes {W W' : World} {R p q : Nat} {sat : Bool} {deep : Int} {B : List Int} {a : Nat} {e : Int} (h : Rp W R p sat deep) (hR : R ≠ p) (hG : Goes W W' p q B a e) : Rp W' R p sat deep := Blk.grown h hG.2 (by simpa using hR)
theorem rgood_any (W : World) (R p q : Nat) (sat : Bool) (deep : Int) (B : List Int) (a : Nat) (e : Int) (b : Bool) (hR : Rp W R p sat deep) (hC : Cur W p q B a e) (hb : (e == 0) = b) :
  Calls Tryz.prog 134 #[.pointer (some ⟨R, 0, none⟩)] W fun E w' => E = .returned (.bool b) ∧ W = w' := by
 obtain ⟨r0, r1, r2, rf, rlt⟩ := hR.cells
 have H := Lib.hid (err_any W p q B a e hC)
 have HB := Lib.hid hb
 clear hR hC hb
 go_enter Tryz.func134, Tryz.ntmps134
 go_wp2_with fail
 refine H.out.mono ?_
 rintro E w' ⟨rfl, rfl⟩
 go_wp2_with fail
 go_ret
 exact ⟨by rw [← HB.out]; rfl, rfl⟩
def peekM (B : List Int) (a : Nat) (e : Int) : Int × Int := if e = 0 then (match B[a]? with | some x => (x, 0) | none => (0, 100)) else (0, e)
theorem peek_byte (B : List Int) (a : Nat) (e : Int) : (rdByte B a e).1 = (peekM B a e).1 ∧ (rdByte B a e).2.2 = (peekM B a e).2 := by
 unfold rdByte peekM
 by_cases he : e = 0
 ·simp only [he, if_true]; cases B[a]? <;> exact ⟨rfl, rfl⟩
 ·simp only [he, if_false, and_self]
theorem peek_fail (B : List Int) (a : Nat) (e : Int) : failE e (peekM B a e).2 = (peekM B a e).2 := by
 unfold failE peekM
 by_cases he : e = 0
 ·simp only [he, if_true]
 ·simp only [he, if_false]
theorem Cur.copy {W : World} {p q : Nat} {B : List Int} {a : Nat} {e : Int} {A : Option Addr} {c : Nat} (hC : Cur W p q B a e) (hc0 : W.cell? ⟨p, 0, none⟩ = some (.slice A B.length c)) :
  ∃ q', Cur (W.alloc (.cells #[.slice A B.length c, .int .i64 a, .int .i64 e] 124)) W.heap.size q' B a e := by
 obtain ⟨h0, h1, A', c', h2, h3, h4⟩ := hC
 have he : some (Value.slice A B.length c) = some (Value.slice A' B.length c') := by rw [← hc0, h3.cell]; rfl
 simp only [Option.some.injEq, Value.slice.injEq] at he
 obtain ⟨rfl, _, rfl⟩ := he
 rcases Nat.eq_zero_or_pos B.length with hz | hz
 ·exact ⟨W.heap.size + 1, by omega, h1, A, c, h2, Blk.new _ _ _, fun hp => by omega⟩
 ·have hql : q < W.heap.size := by
   obtain ⟨o, e, hcell⟩ := h4 hz
   exact World.block_lt_of_cell? _ _ (hcell 0 _ (List.getElem?_eq_getElem hz))
  exact ⟨q, by omega, h1, A, c, h2, Blk.new _ _ _, h4.grown (World.grownBy_alloc W _ none) (by simp)⟩
theorem goes_below {W W1 W2 : World} {p q c' q' : Nat} {B : List Int} {a a2 : Nat} {e e2 : Int} (hC : Cur W p q B a e) (h0 : Below W.heap.size W W1) (h : Goes W1 W2 c' q' B a2 e2) (hc : W.heap.size ≤ c') : Goes W W2 p q B a e := by
 have hb := h0.grown h.2 h0.size (fun k e => by cases e; exact hc)
 exact ⟨hC.below hb, grown_below hb _⟩
set_option maxRecDepth 100000 in
set_option maxHeartbeats 1000000 in
theorem peek_any (W : World) (R p q : Nat) (sat : Bool) (deep : Int) (B : List Int) (a : Nat) (e : Int) (hR : Rp W R p sat deep) (hRp : R ≠ p) (hC : Cur W p q B a e) (hB : Byts B) :
  Calls Tryz.prog 140 #[.pointer (some ⟨R, 0, none⟩)] W fun E w' => E = .returned (.int .u8 (peekM B a e).1) ∧ Goes W w' p q B a (peekM B a e).2 := by
 obtain ⟨r0, r1, r2, rf, rlt⟩ := hR.cells
 obtain ⟨A, c, c0, c1, c2, f0, f1, f2, hle, hq, hlt, ha⟩ := hC.cells
 obtain ⟨q', hC1⟩ := hC.copy c0
 have HByte := Lib.hid (Byte_any _ W.heap.size q' B a e hC1 hB)
 rw [(peek_byte B a e).1, (peek_byte B a e).2] at HByte
 have HPF := Lib.hid (peek_fail B a e)
 generalize peekM B a e = t at *
 obtain ⟨v, e2⟩ := t
 have HC := Lib.hid hC
 have HR := Lib.hid hR
 generalize (rdByte B a e).2.1 = a2 at *
 clear hC hq hC1 hB hR
 go_enter Tryz.func140, Tryz.ntmps140
 go_wp2_with fail
 refine HByte.out.mono ?_
 rintro E W1 ⟨rfl, hG⟩
 have HG := Lib.hid (goes_below HC.out ((Below.refl _ _).alloc (Nat.le_refl _) _) hG (Nat.le_refl _))
 have HGc := Lib.hid hG.1
 clear HByte hG
 go_wp2_with fail
 refine (err_any _ _ _ _ _ _ HGc.out).mono ?_
 rintro E w' ⟨rfl, rfl⟩
 by_cases he : e2 = 0
 ·subst he
  go_wp2_with fail
  go_ret
  have hz : e = 0 := by
   have := HPF.out
   unfold failE at this
   by_cases h : e = 0
   ·exact h
   ·simp only [h, if_false] at this
  rw [hz] at HG
  exact ⟨rfl, HG.out⟩
 ·have he2 : (e2 != 0) = true := by simp; exact he
  have he3 := Lib.hid (beq_eq_false_iff_ne.2 he)
  have HR1 := Lib.hid (HR.out.goes hRp HG.out)
  obtain ⟨s0, s1, s2, sf, slt⟩ := HR1.out.cells
  have HEd := Lib.hid (err_any W1.drew _ _ _ _ _ (Goes.drewN HGc.out 1).1)
  have HFd := Lib.hid (Fail_any W1.drew _ _ _ _ _ e2 (Goes.drewN HG.out.1 1).1 he3.out)
  clear he r0 r1 r2 rf
  go_wp2_with fail
  go_region_held3 (fun w' => w'.cell? ⟨R, 0, none⟩ = some (.pointer (some ⟨p, 0, none⟩)))
   (first | exact s0 | exact hS0)
   (first
    | (go_at_call 15; refine HEd.out.mono ?_; rintro E w3 ⟨rfl, rfl⟩)
    | (go_at_call 36; refine HFd.out.mono ?_; rintro E w4 ⟨rfl, hG4⟩; have hS0 : w4.cell? ⟨R, 0, none⟩ = some (.pointer (some ⟨p, 0, none⟩)) := by rw [(HR1.out.drew.grown hG4.2 (by simpa using hRp)).cell]; rfl))
  have HG4 := Lib.hid (show Goes W1.drew w4 p q B a e2 from by have := hG4; rw [HPF.out] at this; exact this)
  clear hG4 hS0
  go_wp2_with fail
  go_ret
  exact ⟨rfl, (HG.out.trans (Goes.drewN HG.out.1 1)).trans HG4.out⟩
end Go.Proofs.YtofaiocffifhfaaGreat
end
