/- Lemmas towards this claim's statement: what the functions named here come to, each under the conditions that it states itself. -/
import Derived.Shelf.Abstract
import Derived.Test.YtfndlpfceokloaaDoorOwn
namespace Go.Proofs.YtfndlpfceokloaaDoor
open Go.RowKit Go.Shelf YtfndlpfceokloaaDoorB Go.Proofs.YtfndlpfceokloaaDoorW.PrintWords
/-- numeric.first. -/
def firstM (op b s g : Int) : Int × Int × Int × Bool := if 0 ≤ op - b ∧ op - b < s then (g, op - b, 32, true) else if s ≤ op - b ∧ op - b < 2 * s then (g, op - b - s, 64, true) else (0, 0, 0, false)
set_option maxRecDepth 100000 in
theorem first_any (W : World) (op b s g : Int) (r : Int × Int × Int × Bool) (hr : firstM op b s g = r) (h0 : -9223372036854775808 ≤ op) (h1 : op ≤ 9223372036854775807) (hb : 0 ≤ b ∧ b ≤ 1000) (hs : 1 ≤ s ∧ s ≤ 100) :
    Calls Tryd.prog 38 #[.int .i64 op, .int .i64 b, .int .i64 s, .int .i64 g] W fun E w' => E = .returned (.tuple #[.agg #[.int .i64 r.1, .int .i64 r.2.1, .int .i64 r.2.2.1], .bool r.2.2.2]) ∧ Below W.heap.size W w' := by
  subst hr
  obtain ⟨hb0, hb1⟩ := hb
  obtain ⟨hs0, hs1⟩ := hs
  by_cases hlo : op - b < -9223372036854775808
  · have HV := Lib.hid (show firstM op b s g = (0, 0, 0, false) from by rw [firstM, if_neg (by omega), if_neg (by omega)])
    obtain ⟨m, hm, hm2⟩ : ∃ m : Int, wrap64 (op - b) = m ∧ 1000 ≤ m := ⟨_, rfl, by unfold wrap64; omega⟩
    have h5 : ¬ m < s := by omega
    have h6 : ¬ m < 2 * s := by omega
    have h7 : 0 ≤ m := by omega
    clear h0 hlo
    go_enter Tryd.func38, Tryd.ntmps38
    go_wp2_with fail
    rw [HV.out]
    exact bodyPost_ret (v := .tuple #[.agg #[.int .i64 0, .int .i64 0, .int .i64 0], .bool false]) (by simp [results, Tryd.results38, go_sem]) rfl ⟨rfl, by (repeat (first | exact (Below.refl _ _) | refine Below.setCell ?_ (by first | (simp; done) | (simp; omega)) _ | refine Below.alloc ?_ (by first | (simp; done) | (simp [World.setCell]; omega)) _))⟩
  by_cases h2 : 0 ≤ op - b
  · by_cases h3 : op - b < s
    · have HV := Lib.hid (show firstM op b s g = (g, op - b, 32, true) from if_pos ⟨h2, h3⟩)
      go_enter Tryd.func38, Tryd.ntmps38
      go_wp2_with fail
      rw [HV.out]
      exact bodyPost_ret (v := .tuple #[.agg #[.int .i64 g, .int .i64 (op - b), .int .i64 32], .bool true]) (by simp [results, Tryd.results38, go_sem]) rfl ⟨rfl, by (repeat (first | exact (Below.refl _ _) | refine Below.setCell ?_ (by first | (simp; done) | (simp; omega)) _ | refine Below.alloc ?_ (by first | (simp; done) | (simp [World.setCell]; omega)) _))⟩
    · by_cases h4 : op - b < 2 * s
      · have HV := Lib.hid (show firstM op b s g = (g, op - b - s, 64, true) from by rw [firstM, if_neg (fun h => h3 h.2), if_pos ⟨by omega, h4⟩])
        go_enter Tryd.func38, Tryd.ntmps38
        go_wp2_with fail
        rw [HV.out]
        exact bodyPost_ret (v := .tuple #[.agg #[.int .i64 g, .int .i64 (op - b - s), .int .i64 64], .bool true]) (by simp [results, Tryd.results38, go_sem]) rfl ⟨rfl, by (repeat (first | exact (Below.refl _ _) | refine Below.setCell ?_ (by first | (simp; done) | (simp; omega)) _ | refine Below.alloc ?_ (by first | (simp; done) | (simp [World.setCell]; omega)) _))⟩
      · have HV := Lib.hid (show firstM op b s g = (0, 0, 0, false) from by rw [firstM, if_neg (fun h => h3 h.2), if_neg (fun h => h4 h.2)])
        go_enter Tryd.func38, Tryd.ntmps38
        go_wp2_with fail
        rw [HV.out]
        exact bodyPost_ret (v := .tuple #[.agg #[.int .i64 0, .int .i64 0, .int .i64 0], .bool false]) (by simp [results, Tryd.results38, go_sem]) rfl ⟨rfl, by (repeat (first | exact (Below.refl _ _) | refine Below.setCell ?_ (by first | (simp; done) | (simp; omega)) _ | refine Below.alloc ?_ (by first | (simp; done) | (simp [World.setCell]; omega)) _))⟩
  · have HV := Lib.hid (show firstM op b s g = (0, 0, 0, false) from by rw [firstM, if_neg (fun h => h2 h.1), if_neg (fun h => by omega)])
    go_enter Tryd.func38, Tryd.ntmps38
    go_wp2_with fail
    rw [HV.out]
    exact bodyPost_ret (v := .tuple #[.agg #[.int .i64 0, .int .i64 0, .int .i64 0], .bool false]) (by simp [results, Tryd.results38, go_sem]) rfl ⟨rfl, by (repeat (first | exact (Below.refl _ _) | refine Below.setCell ?_ (by first | (simp; done) | (simp; omega)) _ | refine Below.alloc ?_ (by first | (simp; done) | (simp [World.setCell]; omega)) _))⟩
def FindPost (W : World) (r : Int × Int × Int) (E : Ending) (w' : World) : Prop := E = .returned (.agg #[.int .i64 r.1, .int .i64 r.2.1, .int .i64 r.2.2]) ∧ Below W.heap.size W w'
theorem find_step {A B C D : World} {g : Nat} {cs : Array Value} {t : TypeId} (h : Below g A B) (hb : Blk B g cs t) (hz : g < B.heap.size) (h' : Below D.heap.size D C) (hD : Below B.heap.size B D := by first | exact Below.refl _ _ | exact (Below.refl _ _).alloc (Nat.le_refl _) _ | exact ((Below.refl _ _).alloc (Nat.le_refl _) _).alloc (by simp) _ | exact (((Below.refl _ _).alloc (Nat.le_refl _) _).alloc (by simp) _).alloc (by simp; omega) _) : Below g A C ∧ Blk C g cs t ∧ g < C.heap.size := by
  have h2 := hD.trans (h'.mono hD.size)
  have := h2.size
  exact ⟨h.trans (h2.mono (by omega)), hb.below h2 hz, by omega⟩
theorem fin_cells {V : World} {g : Nat} {a b c : Value} {t : TypeId} (hb : Blk V g #[a, b, c] t) (hz : g < V.heap.size) (x y z : Value) :
    (∀ o, ((((V.setCell ⟨g, 0, none⟩ x).setCell ⟨g, 1, none⟩ y).setCell ⟨g, 2, none⟩ z).alloc o).cell? ⟨g, 0, none⟩ = some x) ∧ (∀ o, ((((V.setCell ⟨g, 0, none⟩ x).setCell ⟨g, 1, none⟩ y).setCell ⟨g, 2, none⟩ z).alloc o).cell? ⟨g, 1, none⟩ = some y) ∧ (∀ o, ((((V.setCell ⟨g, 0, none⟩ x).setCell ⟨g, 1, none⟩ y).setCell ⟨g, 2, none⟩ z).alloc o).cell? ⟨g, 2, none⟩ = some z) := by
  have h := ((hb.set 0 x).set 1 y).set 2 z
  exact ⟨fun o => by rw [(h.alloc o).cell]; rfl, fun o => by rw [(h.alloc o).cell]; rfl, fun o => by rw [(h.alloc o).cell]; rfl⟩
theorem find_cells {B : World} {g : Nat} {a b c : Value} {t : TypeId} (hb : Blk B g #[a, b, c] t) : B.cell? ⟨g, 0, none⟩ = some a ∧ B.cell? ⟨g, 1, none⟩ = some b ∧ B.cell? ⟨g, 2, none⟩ = some c ∧ B.frozen? ⟨g, 0, none⟩ = false ∧ B.frozen? ⟨g, 1, none⟩ = false ∧ B.frozen? ⟨g, 2, none⟩ = false :=
  ⟨by rw [hb.cell]; rfl, by rw [hb.cell]; rfl, by rw [hb.cell]; rfl, hb.frozen 0, hb.frozen 1, hb.frozen 2⟩
set_option maxRecDepth 100000 in
set_option maxHeartbeats 1000000 in
theorem find_69 (W : World) : Calls Tryd.prog 27 #[.int .i64 69] W (FindPost W (1, 0, 32)) := by
  have q0 := Lib.hid (fun X => first_any X 69 69 11 2 (2, 0, 32, true) (by decide) (by omega) (by omega) (by omega) (by omega))
  go_enter Tryd.func27, Tryd.ntmps27
  have hB0 := (Below.refl W.heap.size W).alloc (Nat.le_refl _) (.cells #[.int .i64 0, .int .i64 0, .int .i64 0] 50)
  have hb0 := Blk.new W #[.int .i64 0, .int .i64 0, .int .i64 0] 50
  have hz0 : W.heap.size < (W.alloc (.cells #[.int .i64 0, .int .i64 0, .int .i64 0] 50)).heap.size := by simp
  go_wp2_with fail
  refine (q0.out _).mono ?_
  rintro E0 V1 ⟨rfl, hq0⟩
  obtain ⟨hB1, hb1, hz1⟩ := find_step hB0 hb0 hz0 hq0
  clear hq0 hB0 hb0 hz0 q0
  obtain ⟨f0, f1, f2, i0, i1, i2⟩ := find_cells hb1
  have hbf := Lib.hid hb1
  clear hb1
  go_wp2_with fail
  all_goals
    obtain ⟨e0, e1, e2⟩ := fin_cells hbf.out hz1 (.int .i64 1) (.int .i64 0) (.int .i64 32)
    exact bodyPost_ret (v := .agg #[.int .i64 1, .int .i64 0, .int .i64 32]) (by simp [results, Tryd.results27, go_sem, e0, e1, e2]) rfl ⟨rfl, by (repeat (first | exact hB1 | refine Below.setCell ?_ (by first | (simp; done) | (simp; omega)) _ | refine Below.alloc ?_ (by first | (simp; done) | (simp [World.setCell]; omega)) _))⟩
set_option maxRecDepth 100000 in
set_option maxHeartbeats 1000000 in
theorem find_70 (W : World) (op : Int) (h0 : 70 ≤ op) (h1 : op ≤ 79) : Calls Tryd.prog 27 #[.int .i64 op] W (FindPost W (2, op - 69, 32)) := by
  have q0 := Lib.hid (fun X => first_any X op 69 11 2 (2, op - 69, 32, true) (by rw [firstM, if_pos (by omega)]) (by omega) (by omega) (by omega) (by omega))
  go_enter Tryd.func27, Tryd.ntmps27
  have hB0 := (Below.refl W.heap.size W).alloc (Nat.le_refl _) (.cells #[.int .i64 0, .int .i64 0, .int .i64 0] 50)
  have hb0 := Blk.new W #[.int .i64 0, .int .i64 0, .int .i64 0] 50
  have hz0 : W.heap.size < (W.alloc (.cells #[.int .i64 0, .int .i64 0, .int .i64 0] 50)).heap.size := by simp
  go_wp2_with fail
  refine (q0.out _).mono ?_
  rintro E0 V1 ⟨rfl, hq0⟩
  obtain ⟨hB1, hb1, hz1⟩ := find_step hB0 hb0 hz0 hq0
  clear hq0 hB0 hb0 hz0 q0
  obtain ⟨f0, f1, f2, i0, i1, i2⟩ := find_cells hb1
  have hbf := Lib.hid hb1
  clear hb1
  go_wp2_with fail
  all_goals
    obtain ⟨e0, e1, e2⟩ := fin_cells hbf.out hz1 (.int .i64 2) (.int .i64 (op - 69)) (.int .i64 32)
    exact bodyPost_ret (v := .agg #[.int .i64 2, .int .i64 (op - 69), .int .i64 32]) (by simp [results, Tryd.results27, go_sem, e0, e1, e2]) rfl ⟨rfl, by (repeat (first | exact hB1 | refine Below.setCell ?_ (by first | (simp; done) | (simp; omega)) _ | refine Below.alloc ?_ (by first | (simp; done) | (simp [World.setCell]; omega)) _))⟩
set_option maxRecDepth 100000 in
set_option maxHeartbeats 1000000 in
theorem find_80 (W : World) : Calls Tryd.prog 27 #[.int .i64 80] W (FindPost W (1, 0, 64)) := by
  have q0 := Lib.hid (fun X => first_any X 80 69 11 2 (2, 0, 64, true) (by decide) (by omega) (by omega) (by omega) (by omega))
  go_enter Tryd.func27, Tryd.ntmps27
  have hB0 := (Below.refl W.heap.size W).alloc (Nat.le_refl _) (.cells #[.int .i64 0, .int .i64 0, .int .i64 0] 50)
  have hb0 := Blk.new W #[.int .i64 0, .int .i64 0, .int .i64 0] 50
  have hz0 : W.heap.size < (W.alloc (.cells #[.int .i64 0, .int .i64 0, .int .i64 0] 50)).heap.size := by simp
  go_wp2_with fail
  refine (q0.out _).mono ?_
  rintro E0 V1 ⟨rfl, hq0⟩
  obtain ⟨hB1, hb1, hz1⟩ := find_step hB0 hb0 hz0 hq0
  clear hq0 hB0 hb0 hz0 q0
  obtain ⟨f0, f1, f2, i0, i1, i2⟩ := find_cells hb1
  have hbf := Lib.hid hb1
  clear hb1
  go_wp2_with fail
  all_goals
    obtain ⟨e0, e1, e2⟩ := fin_cells hbf.out hz1 (.int .i64 1) (.int .i64 0) (.int .i64 64)
    exact bodyPost_ret (v := .agg #[.int .i64 1, .int .i64 0, .int .i64 64]) (by simp [results, Tryd.results27, go_sem, e0, e1, e2]) rfl ⟨rfl, by (repeat (first | exact hB1 | refine Below.setCell ?_ (by first | (simp; done) | (simp; omega)) _ | refine Below.alloc ?_ (by first | (simp; done) | (simp [World.setCell]; omega)) _))⟩
set_option maxRecDepth 100000 in
set_option maxHeartbeats 1000000 in
theorem find_81 (W : World) (op : Int) (h0 : 81 ≤ op) (h1 : op ≤ 90) : Calls Tryd.prog 27 #[.int .i64 op] W (FindPost W (2, op - 69 - 11, 64)) := by
  have q0 := Lib.hid (fun X => first_any X op 69 11 2 (2, op - 69 - 11, 64, true) (by rw [firstM, if_neg (by omega), if_pos (by omega)]) (by omega) (by omega) (by omega) (by omega))
  go_enter Tryd.func27, Tryd.ntmps27
  have hB0 := (Below.refl W.heap.size W).alloc (Nat.le_refl _) (.cells #[.int .i64 0, .int .i64 0, .int .i64 0] 50)
  have hb0 := Blk.new W #[.int .i64 0, .int .i64 0, .int .i64 0] 50
  have hz0 : W.heap.size < (W.alloc (.cells #[.int .i64 0, .int .i64 0, .int .i64 0] 50)).heap.size := by simp
  go_wp2_with fail
  refine (q0.out _).mono ?_
  rintro E0 V1 ⟨rfl, hq0⟩
  obtain ⟨hB1, hb1, hz1⟩ := find_step hB0 hb0 hz0 hq0
  clear hq0 hB0 hb0 hz0 q0
  obtain ⟨f0, f1, f2, i0, i1, i2⟩ := find_cells hb1
  have hbf := Lib.hid hb1
  clear hb1
  go_wp2_with fail
  all_goals
    obtain ⟨e0, e1, e2⟩ := fin_cells hbf.out hz1 (.int .i64 2) (.int .i64 (op - 69 - 11)) (.int .i64 64)
    exact bodyPost_ret (v := .agg #[.int .i64 2, .int .i64 (op - 69 - 11), .int .i64 64]) (by simp [results, Tryd.results27, go_sem, e0, e1, e2]) rfl ⟨rfl, by (repeat (first | exact hB1 | refine Below.setCell ?_ (by first | (simp; done) | (simp; omega)) _ | refine Below.alloc ?_ (by first | (simp; done) | (simp [World.setCell]; omega)) _))⟩
set_option maxRecDepth 100000 in
set_option maxHeartbeats 1000000 in
theorem find_91 (W : World) (op : Int) (h0 : 91 ≤ op) (h1 : op ≤ 96) : Calls Tryd.prog 27 #[.int .i64 op] W (FindPost W (3, op - 91, 32)) := by
  have q0 := Lib.hid (fun X => first_any X op 69 11 2 (0, 0, 0, false) (by rw [firstM, if_neg (by omega), if_neg (by omega)]) (by omega) (by omega) (by omega) (by omega))
  have q1 := Lib.hid (fun X => first_any X op 91 6 3 (3, op - 91, 32, true) (by rw [firstM, if_pos (by omega)]) (by omega) (by omega) (by omega) (by omega))
  go_enter Tryd.func27, Tryd.ntmps27
  have hB0 := (Below.refl W.heap.size W).alloc (Nat.le_refl _) (.cells #[.int .i64 0, .int .i64 0, .int .i64 0] 50)
  have hb0 := Blk.new W #[.int .i64 0, .int .i64 0, .int .i64 0] 50
  have hz0 : W.heap.size < (W.alloc (.cells #[.int .i64 0, .int .i64 0, .int .i64 0] 50)).heap.size := by simp
  go_wp2_with fail
  refine (q0.out _).mono ?_
  rintro E0 V1 ⟨rfl, hq0⟩
  obtain ⟨hB1, hb1, hz1⟩ := find_step hB0 hb0 hz0 hq0
  clear hq0 hB0 hb0 hz0 q0
  go_wp2_with fail
  refine (q1.out _).mono ?_
  rintro E1 V2 ⟨rfl, hq1⟩
  obtain ⟨hB2, hb2, hz2⟩ := find_step hB1 hb1 hz1 hq1
  clear hq1 hB1 hb1 hz1 q1
  obtain ⟨f0, f1, f2, i0, i1, i2⟩ := find_cells hb2
  have hbf := Lib.hid hb2
  clear hb2
  go_wp2_with fail
  all_goals
    obtain ⟨e0, e1, e2⟩ := fin_cells hbf.out hz2 (.int .i64 3) (.int .i64 (op - 91)) (.int .i64 32)
    exact bodyPost_ret (v := .agg #[.int .i64 3, .int .i64 (op - 91), .int .i64 32]) (by simp [results, Tryd.results27, go_sem, e0, e1, e2]) rfl ⟨rfl, by (repeat (first | exact hB2 | refine Below.setCell ?_ (by first | (simp; done) | (simp; omega)) _ | refine Below.alloc ?_ (by first | (simp; done) | (simp [World.setCell]; omega)) _))⟩
set_option maxRecDepth 100000 in
set_option maxHeartbeats 1000000 in
theorem find_97 (W : World) (op : Int) (h0 : 97 ≤ op) (h1 : op ≤ 102) : Calls Tryd.prog 27 #[.int .i64 op] W (FindPost W (3, op - 91 - 6, 64)) := by
  have q0 := Lib.hid (fun X => first_any X op 69 11 2 (0, 0, 0, false) (by rw [firstM, if_neg (by omega), if_neg (by omega)]) (by omega) (by omega) (by omega) (by omega))
  have q1 := Lib.hid (fun X => first_any X op 91 6 3 (3, op - 91 - 6, 64, true) (by rw [firstM, if_neg (by omega), if_pos (by omega)]) (by omega) (by omega) (by omega) (by omega))
  go_enter Tryd.func27, Tryd.ntmps27
  have hB0 := (Below.refl W.heap.size W).alloc (Nat.le_refl _) (.cells #[.int .i64 0, .int .i64 0, .int .i64 0] 50)
  have hb0 := Blk.new W #[.int .i64 0, .int .i64 0, .int .i64 0] 50
  have hz0 : W.heap.size < (W.alloc (.cells #[.int .i64 0, .int .i64 0, .int .i64 0] 50)).heap.size := by simp
  go_wp2_with fail
  refine (q0.out _).mono ?_
  rintro E0 V1 ⟨rfl, hq0⟩
  obtain ⟨hB1, hb1, hz1⟩ := find_step hB0 hb0 hz0 hq0
  clear hq0 hB0 hb0 hz0 q0
  go_wp2_with fail
  refine (q1.out _).mono ?_
  rintro E1 V2 ⟨rfl, hq1⟩
  obtain ⟨hB2, hb2, hz2⟩ := find_step hB1 hb1 hz1 hq1
  clear hq1 hB1 hb1 hz1 q1
  obtain ⟨f0, f1, f2, i0, i1, i2⟩ := find_cells hb2
  have hbf := Lib.hid hb2
  clear hb2
  go_wp2_with fail
  all_goals
    obtain ⟨e0, e1, e2⟩ := fin_cells hbf.out hz2 (.int .i64 3) (.int .i64 (op - 91 - 6)) (.int .i64 64)
    exact bodyPost_ret (v := .agg #[.int .i64 3, .int .i64 (op - 91 - 6), .int .i64 64]) (by simp [results, Tryd.results27, go_sem, e0, e1, e2]) rfl ⟨rfl, by (repeat (first | exact hB2 | refine Below.setCell ?_ (by first | (simp; done) | (simp; omega)) _ | refine Below.alloc ?_ (by first | (simp; done) | (simp [World.setCell]; omega)) _))⟩
set_option maxRecDepth 100000 in
set_option maxHeartbeats 1000000 in
theorem find_103 (W : World) (op : Int) (h0 : 103 ≤ op) (h1 : op ≤ 105) : Calls Tryd.prog 27 #[.int .i64 op] W (FindPost W (4, op - 103, 32)) := by
  have q0 := Lib.hid (fun X => first_any X op 69 11 2 (0, 0, 0, false) (by rw [firstM, if_neg (by omega), if_neg (by omega)]) (by omega) (by omega) (by omega) (by omega))
  have q1 := Lib.hid (fun X => first_any X op 91 6 3 (0, 0, 0, false) (by rw [firstM, if_neg (by omega), if_neg (by omega)]) (by omega) (by omega) (by omega) (by omega))
  have q2 := Lib.hid (fun X => first_any X op 103 18 5 (5, op - 103, 32, true) (by rw [firstM, if_pos (by omega)]) (by omega) (by omega) (by omega) (by omega))
  go_enter Tryd.func27, Tryd.ntmps27
  have hB0 := (Below.refl W.heap.size W).alloc (Nat.le_refl _) (.cells #[.int .i64 0, .int .i64 0, .int .i64 0] 50)
  have hb0 := Blk.new W #[.int .i64 0, .int .i64 0, .int .i64 0] 50
  have hz0 : W.heap.size < (W.alloc (.cells #[.int .i64 0, .int .i64 0, .int .i64 0] 50)).heap.size := by simp
  go_wp2_with fail
  refine (q0.out _).mono ?_
  rintro E0 V1 ⟨rfl, hq0⟩
  obtain ⟨hB1, hb1, hz1⟩ := find_step hB0 hb0 hz0 hq0
  clear hq0 hB0 hb0 hz0 q0
  go_wp2_with fail
  refine (q1.out _).mono ?_
  rintro E1 V2 ⟨rfl, hq1⟩
  obtain ⟨hB2, hb2, hz2⟩ := find_step hB1 hb1 hz1 hq1
  clear hq1 hB1 hb1 hz1 q1
  go_wp2_with fail
  refine (q2.out _).mono ?_
  rintro E2 V3 ⟨rfl, hq2⟩
  obtain ⟨hB3, hb3, hz3⟩ := find_step hB2 hb2 hz2 hq2
  clear hq2 hB2 hb2 hz2 q2
  obtain ⟨f0, f1, f2, i0, i1, i2⟩ := find_cells hb3
  have hbf := Lib.hid hb3
  clear hb3
  go_wp2_with fail
  all_goals
    obtain ⟨e0, e1, e2⟩ := fin_cells hbf.out hz3 (.int .i64 4) (.int .i64 (op - 103)) (.int .i64 32)
    exact bodyPost_ret (v := .agg #[.int .i64 4, .int .i64 (op - 103), .int .i64 32]) (by simp [results, Tryd.results27, go_sem, e0, e1, e2]) rfl ⟨rfl, by (repeat (first | exact hB3 | refine Below.setCell ?_ (by first | (simp; done) | (simp; omega)) _ | refine Below.alloc ?_ (by first | (simp; done) | (simp [World.setCell]; omega)) _))⟩
set_option maxRecDepth 100000 in
set_option maxHeartbeats 1000000 in
theorem find_106 (W : World) (op : Int) (h0 : 106 ≤ op) (h1 : op ≤ 120) : Calls Tryd.prog 27 #[.int .i64 op] W (FindPost W (5, op - 103, 32)) := by
  have q0 := Lib.hid (fun X => first_any X op 69 11 2 (0, 0, 0, false) (by rw [firstM, if_neg (by omega), if_neg (by omega)]) (by omega) (by omega) (by omega) (by omega))
  have q1 := Lib.hid (fun X => first_any X op 91 6 3 (0, 0, 0, false) (by rw [firstM, if_neg (by omega), if_neg (by omega)]) (by omega) (by omega) (by omega) (by omega))
  have q2 := Lib.hid (fun X => first_any X op 103 18 5 (5, op - 103, 32, true) (by rw [firstM, if_pos (by omega)]) (by omega) (by omega) (by omega) (by omega))
  go_enter Tryd.func27, Tryd.ntmps27
  have hB0 := (Below.refl W.heap.size W).alloc (Nat.le_refl _) (.cells #[.int .i64 0, .int .i64 0, .int .i64 0] 50)
  have hb0 := Blk.new W #[.int .i64 0, .int .i64 0, .int .i64 0] 50
  have hz0 : W.heap.size < (W.alloc (.cells #[.int .i64 0, .int .i64 0, .int .i64 0] 50)).heap.size := by simp
  go_wp2_with fail
  refine (q0.out _).mono ?_
  rintro E0 V1 ⟨rfl, hq0⟩
  obtain ⟨hB1, hb1, hz1⟩ := find_step hB0 hb0 hz0 hq0
  clear hq0 hB0 hb0 hz0 q0
  go_wp2_with fail
  refine (q1.out _).mono ?_
  rintro E1 V2 ⟨rfl, hq1⟩
  obtain ⟨hB2, hb2, hz2⟩ := find_step hB1 hb1 hz1 hq1
  clear hq1 hB1 hb1 hz1 q1
  go_wp2_with fail
  refine (q2.out _).mono ?_
  rintro E2 V3 ⟨rfl, hq2⟩
  obtain ⟨hB3, hb3, hz3⟩ := find_step hB2 hb2 hz2 hq2
  clear hq2 hB2 hb2 hz2 q2
  obtain ⟨f0, f1, f2, i0, i1, i2⟩ := find_cells hb3
  have hbf := Lib.hid hb3
  clear hb3
  go_wp2_with fail
  all_goals
    obtain ⟨e0, e1, e2⟩ := fin_cells hbf.out hz3 (.int .i64 5) (.int .i64 (op - 103)) (.int .i64 32)
    exact bodyPost_ret (v := .agg #[.int .i64 5, .int .i64 (op - 103), .int .i64 32]) (by simp [results, Tryd.results27, go_sem, e0, e1, e2]) rfl ⟨rfl, by (repeat (first | exact hB3 | refine Below.setCell ?_ (by first | (simp; done) | (simp; omega)) _ | refine Below.alloc ?_ (by first | (simp; done) | (simp [World.setCell]; omega)) _))⟩
set_option maxRecDepth 100000 in
set_option maxHeartbeats 1000000 in
theorem find_121 (W : World) (op : Int) (h0 : 121 ≤ op) (h1 : op ≤ 123) : Calls Tryd.prog 27 #[.int .i64 op] W (FindPost W (4, op - 103 - 18, 64)) := by
  have q0 := Lib.hid (fun X => first_any X op 69 11 2 (0, 0, 0, false) (by rw [firstM, if_neg (by omega), if_neg (by omega)]) (by omega) (by omega) (by omega) (by omega))
  have q1 := Lib.hid (fun X => first_any X op 91 6 3 (0, 0, 0, false) (by rw [firstM, if_neg (by omega), if_neg (by omega)]) (by omega) (by omega) (by omega) (by omega))
  have q2 := Lib.hid (fun X => first_any X op 103 18 5 (5, op - 103 - 18, 64, true) (by rw [firstM, if_neg (by omega), if_pos (by omega)]) (by omega) (by omega) (by omega) (by omega))
  go_enter Tryd.func27, Tryd.ntmps27
  have hB0 := (Below.refl W.heap.size W).alloc (Nat.le_refl _) (.cells #[.int .i64 0, .int .i64 0, .int .i64 0] 50)
  have hb0 := Blk.new W #[.int .i64 0, .int .i64 0, .int .i64 0] 50
  have hz0 : W.heap.size < (W.alloc (.cells #[.int .i64 0, .int .i64 0, .int .i64 0] 50)).heap.size := by simp
  go_wp2_with fail
  refine (q0.out _).mono ?_
  rintro E0 V1 ⟨rfl, hq0⟩
  obtain ⟨hB1, hb1, hz1⟩ := find_step hB0 hb0 hz0 hq0
  clear hq0 hB0 hb0 hz0 q0
  go_wp2_with fail
  refine (q1.out _).mono ?_
  rintro E1 V2 ⟨rfl, hq1⟩
  obtain ⟨hB2, hb2, hz2⟩ := find_step hB1 hb1 hz1 hq1
  clear hq1 hB1 hb1 hz1 q1
  go_wp2_with fail
  refine (q2.out _).mono ?_
  rintro E2 V3 ⟨rfl, hq2⟩
  obtain ⟨hB3, hb3, hz3⟩ := find_step hB2 hb2 hz2 hq2
  clear hq2 hB2 hb2 hz2 q2
  obtain ⟨f0, f1, f2, i0, i1, i2⟩ := find_cells hb3
  have hbf := Lib.hid hb3
  clear hb3
  go_wp2_with fail
  all_goals
    obtain ⟨e0, e1, e2⟩ := fin_cells hbf.out hz3 (.int .i64 4) (.int .i64 (op - 103 - 18)) (.int .i64 64)
    exact bodyPost_ret (v := .agg #[.int .i64 4, .int .i64 (op - 103 - 18), .int .i64 64]) (by simp [results, Tryd.results27, go_sem, e0, e1, e2]) rfl ⟨rfl, by (repeat (first | exact hB3 | refine Below.setCell ?_ (by first | (simp; done) | (simp; omega)) _ | refine Below.alloc ?_ (by first | (simp; done) | (simp [World.setCell]; omega)) _))⟩
set_option maxRecDepth 100000 in
set_option maxHeartbeats 1000000 in
theorem find_124 (W : World) (op : Int) (h0 : 124 ≤ op) (h1 : op ≤ 138) : Calls Tryd.prog 27 #[.int .i64 op] W (FindPost W (5, op - 103 - 18, 64)) := by
  have q0 := Lib.hid (fun X => first_any X op 69 11 2 (0, 0, 0, false) (by rw [firstM, if_neg (by omega), if_neg (by omega)]) (by omega) (by omega) (by omega) (by omega))
  have q1 := Lib.hid (fun X => first_any X op 91 6 3 (0, 0, 0, false) (by rw [firstM, if_neg (by omega), if_neg (by omega)]) (by omega) (by omega) (by omega) (by omega))
  have q2 := Lib.hid (fun X => first_any X op 103 18 5 (5, op - 103 - 18, 64, true) (by rw [firstM, if_neg (by omega), if_pos (by omega)]) (by omega) (by omega) (by omega) (by omega))
  go_enter Tryd.func27, Tryd.ntmps27
  have hB0 := (Below.refl W.heap.size W).alloc (Nat.le_refl _) (.cells #[.int .i64 0, .int .i64 0, .int .i64 0] 50)
  have hb0 := Blk.new W #[.int .i64 0, .int .i64 0, .int .i64 0] 50
  have hz0 : W.heap.size < (W.alloc (.cells #[.int .i64 0, .int .i64 0, .int .i64 0] 50)).heap.size := by simp
  go_wp2_with fail
  refine (q0.out _).mono ?_
  rintro E0 V1 ⟨rfl, hq0⟩
  obtain ⟨hB1, hb1, hz1⟩ := find_step hB0 hb0 hz0 hq0
  clear hq0 hB0 hb0 hz0 q0
  go_wp2_with fail
  refine (q1.out _).mono ?_
  rintro E1 V2 ⟨rfl, hq1⟩
  obtain ⟨hB2, hb2, hz2⟩ := find_step hB1 hb1 hz1 hq1
  clear hq1 hB1 hb1 hz1 q1
  go_wp2_with fail
  refine (q2.out _).mono ?_
  rintro E2 V3 ⟨rfl, hq2⟩
  obtain ⟨hB3, hb3, hz3⟩ := find_step hB2 hb2 hz2 hq2
  clear hq2 hB2 hb2 hz2 q2
  obtain ⟨f0, f1, f2, i0, i1, i2⟩ := find_cells hb3
  have hbf := Lib.hid hb3
  clear hb3
  go_wp2_with fail
  all_goals
    obtain ⟨e0, e1, e2⟩ := fin_cells hbf.out hz3 (.int .i64 5) (.int .i64 (op - 103 - 18)) (.int .i64 64)
    exact bodyPost_ret (v := .agg #[.int .i64 5, .int .i64 (op - 103 - 18), .int .i64 64]) (by simp [results, Tryd.results27, go_sem, e0, e1, e2]) rfl ⟨rfl, by (repeat (first | exact hB3 | refine Below.setCell ?_ (by first | (simp; done) | (simp; omega)) _ | refine Below.alloc ?_ (by first | (simp; done) | (simp [World.setCell]; omega)) _))⟩
set_option maxRecDepth 100000 in
set_option maxHeartbeats 1000000 in
theorem find_139 (W : World) (op : Int) (h0 : 139 ≤ op) (h1 : op ≤ 145) : Calls Tryd.prog 27 #[.int .i64 op] W (FindPost W (6, op - 139, 32)) := by
  have q0 := Lib.hid (fun X => first_any X op 69 11 2 (0, 0, 0, false) (by rw [firstM, if_neg (by omega), if_neg (by omega)]) (by omega) (by omega) (by omega) (by omega))
  have q1 := Lib.hid (fun X => first_any X op 91 6 3 (0, 0, 0, false) (by rw [firstM, if_neg (by omega), if_neg (by omega)]) (by omega) (by omega) (by omega) (by omega))
  have q2 := Lib.hid (fun X => first_any X op 103 18 5 (0, 0, 0, false) (by rw [firstM, if_neg (by omega), if_neg (by omega)]) (by omega) (by omega) (by omega) (by omega))
  have q3 := Lib.hid (fun X => first_any X op 139 14 7 (7, op - 139, 32, true) (by rw [firstM, if_pos (by omega)]) (by omega) (by omega) (by omega) (by omega))
  go_enter Tryd.func27, Tryd.ntmps27
  have hB0 := (Below.refl W.heap.size W).alloc (Nat.le_refl _) (.cells #[.int .i64 0, .int .i64 0, .int .i64 0] 50)
  have hb0 := Blk.new W #[.int .i64 0, .int .i64 0, .int .i64 0] 50
  have hz0 : W.heap.size < (W.alloc (.cells #[.int .i64 0, .int .i64 0, .int .i64 0] 50)).heap.size := by simp
  go_wp2_with fail
  refine (q0.out _).mono ?_
  rintro E0 V1 ⟨rfl, hq0⟩
  obtain ⟨hB1, hb1, hz1⟩ := find_step hB0 hb0 hz0 hq0
  clear hq0 hB0 hb0 hz0 q0
  go_wp2_with fail
  refine (q1.out _).mono ?_
  rintro E1 V2 ⟨rfl, hq1⟩
  obtain ⟨hB2, hb2, hz2⟩ := find_step hB1 hb1 hz1 hq1
  clear hq1 hB1 hb1 hz1 q1
  go_wp2_with fail
  refine (q2.out _).mono ?_
  rintro E2 V3 ⟨rfl, hq2⟩
  obtain ⟨hB3, hb3, hz3⟩ := find_step hB2 hb2 hz2 hq2
  clear hq2 hB2 hb2 hz2 q2
  go_wp2_with fail
  refine (q3.out _).mono ?_
  rintro E3 V4 ⟨rfl, hq3⟩
  obtain ⟨hB4, hb4, hz4⟩ := find_step hB3 hb3 hz3 hq3
  clear hq3 hB3 hb3 hz3 q3
  obtain ⟨f0, f1, f2, i0, i1, i2⟩ := find_cells hb4
  have hbf := Lib.hid hb4
  clear hb4
  go_wp2_with fail
  all_goals
    obtain ⟨e0, e1, e2⟩ := fin_cells hbf.out hz4 (.int .i64 6) (.int .i64 (op - 139)) (.int .i64 32)
    exact bodyPost_ret (v := .agg #[.int .i64 6, .int .i64 (op - 139), .int .i64 32]) (by simp [results, Tryd.results27, go_sem, e0, e1, e2]) rfl ⟨rfl, by (repeat (first | exact hB4 | refine Below.setCell ?_ (by first | (simp; done) | (simp; omega)) _ | refine Below.alloc ?_ (by first | (simp; done) | (simp [World.setCell]; omega)) _))⟩
set_option maxRecDepth 100000 in
set_option maxHeartbeats 1000000 in
theorem find_146 (W : World) (op : Int) (h0 : 146 ≤ op) (h1 : op ≤ 152) : Calls Tryd.prog 27 #[.int .i64 op] W (FindPost W (7, op - 139, 32)) := by
  have q0 := Lib.hid (fun X => first_any X op 69 11 2 (0, 0, 0, false) (by rw [firstM, if_neg (by omega), if_neg (by omega)]) (by omega) (by omega) (by omega) (by omega))
  have q1 := Lib.hid (fun X => first_any X op 91 6 3 (0, 0, 0, false) (by rw [firstM, if_neg (by omega), if_neg (by omega)]) (by omega) (by omega) (by omega) (by omega))
  have q2 := Lib.hid (fun X => first_any X op 103 18 5 (0, 0, 0, false) (by rw [firstM, if_neg (by omega), if_neg (by omega)]) (by omega) (by omega) (by omega) (by omega))
  have q3 := Lib.hid (fun X => first_any X op 139 14 7 (7, op - 139, 32, true) (by rw [firstM, if_pos (by omega)]) (by omega) (by omega) (by omega) (by omega))
  go_enter Tryd.func27, Tryd.ntmps27
  have hB0 := (Below.refl W.heap.size W).alloc (Nat.le_refl _) (.cells #[.int .i64 0, .int .i64 0, .int .i64 0] 50)
  have hb0 := Blk.new W #[.int .i64 0, .int .i64 0, .int .i64 0] 50
  have hz0 : W.heap.size < (W.alloc (.cells #[.int .i64 0, .int .i64 0, .int .i64 0] 50)).heap.size := by simp
  go_wp2_with fail
  refine (q0.out _).mono ?_
  rintro E0 V1 ⟨rfl, hq0⟩
  obtain ⟨hB1, hb1, hz1⟩ := find_step hB0 hb0 hz0 hq0
  clear hq0 hB0 hb0 hz0 q0
  go_wp2_with fail
  refine (q1.out _).mono ?_
  rintro E1 V2 ⟨rfl, hq1⟩
  obtain ⟨hB2, hb2, hz2⟩ := find_step hB1 hb1 hz1 hq1
  clear hq1 hB1 hb1 hz1 q1
  go_wp2_with fail
  refine (q2.out _).mono ?_
  rintro E2 V3 ⟨rfl, hq2⟩
  obtain ⟨hB3, hb3, hz3⟩ := find_step hB2 hb2 hz2 hq2
  clear hq2 hB2 hb2 hz2 q2
  go_wp2_with fail
  refine (q3.out _).mono ?_
  rintro E3 V4 ⟨rfl, hq3⟩
  obtain ⟨hB4, hb4, hz4⟩ := find_step hB3 hb3 hz3 hq3
  clear hq3 hB3 hb3 hz3 q3
  obtain ⟨f0, f1, f2, i0, i1, i2⟩ := find_cells hb4
  have hbf := Lib.hid hb4
  clear hb4
  go_wp2_with fail
  all_goals
    obtain ⟨e0, e1, e2⟩ := fin_cells hbf.out hz4 (.int .i64 7) (.int .i64 (op - 139)) (.int .i64 32)
    exact bodyPost_ret (v := .agg #[.int .i64 7, .int .i64 (op - 139), .int .i64 32]) (by simp [results, Tryd.results27, go_sem, e0, e1, e2]) rfl ⟨rfl, by (repeat (first | exact hB4 | refine Below.setCell ?_ (by first | (simp; done) | (simp; omega)) _ | refine Below.alloc ?_ (by first | (simp; done) | (simp [World.setCell]; omega)) _))⟩
set_option maxRecDepth 100000 in
set_option maxHeartbeats 1000000 in
theorem find_153 (W : World) (op : Int) (h0 : 153 ≤ op) (h1 : op ≤ 159) : Calls Tryd.prog 27 #[.int .i64 op] W (FindPost W (6, op - 139 - 14, 64)) := by
  have q0 := Lib.hid (fun X => first_any X op 69 11 2 (0, 0, 0, false) (by rw [firstM, if_neg (by omega), if_neg (by omega)]) (by omega) (by omega) (by omega) (by omega))
  have q1 := Lib.hid (fun X => first_any X op 91 6 3 (0, 0, 0, false) (by rw [firstM, if_neg (by omega), if_neg (by omega)]) (by omega) (by omega) (by omega) (by omega))
  have q2 := Lib.hid (fun X => first_any X op 103 18 5 (0, 0, 0, false) (by rw [firstM, if_neg (by omega), if_neg (by omega)]) (by omega) (by omega) (by omega) (by omega))
  have q3 := Lib.hid (fun X => first_any X op 139 14 7 (7, op - 139 - 14, 64, true) (by rw [firstM, if_neg (by omega), if_pos (by omega)]) (by omega) (by omega) (by omega) (by omega))
  go_enter Tryd.func27, Tryd.ntmps27
  have hB0 := (Below.refl W.heap.size W).alloc (Nat.le_refl _) (.cells #[.int .i64 0, .int .i64 0, .int .i64 0] 50)
  have hb0 := Blk.new W #[.int .i64 0, .int .i64 0, .int .i64 0] 50
  have hz0 : W.heap.size < (W.alloc (.cells #[.int .i64 0, .int .i64 0, .int .i64 0] 50)).heap.size := by simp
  go_wp2_with fail
  refine (q0.out _).mono ?_
  rintro E0 V1 ⟨rfl, hq0⟩
  obtain ⟨hB1, hb1, hz1⟩ := find_step hB0 hb0 hz0 hq0
  clear hq0 hB0 hb0 hz0 q0
  go_wp2_with fail
  refine (q1.out _).mono ?_
  rintro E1 V2 ⟨rfl, hq1⟩
  obtain ⟨hB2, hb2, hz2⟩ := find_step hB1 hb1 hz1 hq1
  clear hq1 hB1 hb1 hz1 q1
  go_wp2_with fail
  refine (q2.out _).mono ?_
  rintro E2 V3 ⟨rfl, hq2⟩
  obtain ⟨hB3, hb3, hz3⟩ := find_step hB2 hb2 hz2 hq2
  clear hq2 hB2 hb2 hz2 q2
  go_wp2_with fail
  refine (q3.out _).mono ?_
  rintro E3 V4 ⟨rfl, hq3⟩
  obtain ⟨hB4, hb4, hz4⟩ := find_step hB3 hb3 hz3 hq3
  clear hq3 hB3 hb3 hz3 q3
  obtain ⟨f0, f1, f2, i0, i1, i2⟩ := find_cells hb4
  have hbf := Lib.hid hb4
  clear hb4
  go_wp2_with fail
  all_goals
    obtain ⟨e0, e1, e2⟩ := fin_cells hbf.out hz4 (.int .i64 6) (.int .i64 (op - 139 - 14)) (.int .i64 64)
    exact bodyPost_ret (v := .agg #[.int .i64 6, .int .i64 (op - 139 - 14), .int .i64 64]) (by simp [results, Tryd.results27, go_sem, e0, e1, e2]) rfl ⟨rfl, by (repeat (first | exact hB4 | refine Below.setCell ?_ (by first | (simp; done) | (simp; omega)) _ | refine Below.alloc ?_ (by first | (simp; done) | (simp [World.setCell]; omega)) _))⟩
set_option maxRecDepth 100000 in
set_option maxHeartbeats 1000000 in
theorem find_160 (W : World) (op : Int) (h0 : 160 ≤ op) (h1 : op ≤ 166) : Calls Tryd.prog 27 #[.int .i64 op] W (FindPost W (7, op - 139 - 14, 64)) := by
  have q0 := Lib.hid (fun X => first_any X op 69 11 2 (0, 0, 0, false) (by rw [firstM, if_neg (by omega), if_neg (by omega)]) (by omega) (by omega) (by omega) (by omega))
  have q1 := Lib.hid (fun X => first_any X op 91 6 3 (0, 0, 0, false) (by rw [firstM, if_neg (by omega), if_neg (by omega)]) (by omega) (by omega) (by omega) (by omega))
  have q2 := Lib.hid (fun X => first_any X op 103 18 5 (0, 0, 0, false) (by rw [firstM, if_neg (by omega), if_neg (by omega)]) (by omega) (by omega) (by omega) (by omega))
  have q3 := Lib.hid (fun X => first_any X op 139 14 7 (7, op - 139 - 14, 64, true) (by rw [firstM, if_neg (by omega), if_pos (by omega)]) (by omega) (by omega) (by omega) (by omega))
  go_enter Tryd.func27, Tryd.ntmps27
  have hB0 := (Below.refl W.heap.size W).alloc (Nat.le_refl _) (.cells #[.int .i64 0, .int .i64 0, .int .i64 0] 50)
  have hb0 := Blk.new W #[.int .i64 0, .int .i64 0, .int .i64 0] 50
  have hz0 : W.heap.size < (W.alloc (.cells #[.int .i64 0, .int .i64 0, .int .i64 0] 50)).heap.size := by simp
  go_wp2_with fail
  refine (q0.out _).mono ?_
  rintro E0 V1 ⟨rfl, hq0⟩
  obtain ⟨hB1, hb1, hz1⟩ := find_step hB0 hb0 hz0 hq0
  clear hq0 hB0 hb0 hz0 q0
  go_wp2_with fail
  refine (q1.out _).mono ?_
  rintro E1 V2 ⟨rfl, hq1⟩
  obtain ⟨hB2, hb2, hz2⟩ := find_step hB1 hb1 hz1 hq1
  clear hq1 hB1 hb1 hz1 q1
  go_wp2_with fail
  refine (q2.out _).mono ?_
  rintro E2 V3 ⟨rfl, hq2⟩
  obtain ⟨hB3, hb3, hz3⟩ := find_step hB2 hb2 hz2 hq2
  clear hq2 hB2 hb2 hz2 q2
  go_wp2_with fail
  refine (q3.out _).mono ?_
  rintro E3 V4 ⟨rfl, hq3⟩
  obtain ⟨hB4, hb4, hz4⟩ := find_step hB3 hb3 hz3 hq3
  clear hq3 hB3 hb3 hz3 q3
  obtain ⟨f0, f1, f2, i0, i1, i2⟩ := find_cells hb4
  have hbf := Lib.hid hb4
  clear hb4
  go_wp2_with fail
  all_goals
    obtain ⟨e0, e1, e2⟩ := fin_cells hbf.out hz4 (.int .i64 7) (.int .i64 (op - 139 - 14)) (.int .i64 64)
    exact bodyPost_ret (v := .agg #[.int .i64 7, .int .i64 (op - 139 - 14), .int .i64 64]) (by simp [results, Tryd.results27, go_sem, e0, e1, e2]) rfl ⟨rfl, by (repeat (first | exact hB4 | refine Below.setCell ?_ (by first | (simp; done) | (simp; omega)) _ | refine Below.alloc ?_ (by first | (simp; done) | (simp [World.setCell]; omega)) _))⟩
set_option maxRecDepth 100000 in
set_option maxHeartbeats 1000000 in
theorem find_167 (W : World) (op : Int) (h0 : 167 ≤ op) (h1 : op ≤ 191) : Calls Tryd.prog 27 #[.int .i64 op] W (FindPost W (8, op - 167, 0)) := by
  have q0 := Lib.hid (fun X => first_any X op 69 11 2 (0, 0, 0, false) (by rw [firstM, if_neg (by omega), if_neg (by omega)]) (by omega) (by omega) (by omega) (by omega))
  have q1 := Lib.hid (fun X => first_any X op 91 6 3 (0, 0, 0, false) (by rw [firstM, if_neg (by omega), if_neg (by omega)]) (by omega) (by omega) (by omega) (by omega))
  have q2 := Lib.hid (fun X => first_any X op 103 18 5 (0, 0, 0, false) (by rw [firstM, if_neg (by omega), if_neg (by omega)]) (by omega) (by omega) (by omega) (by omega))
  have q3 := Lib.hid (fun X => first_any X op 139 14 7 (0, 0, 0, false) (by rw [firstM, if_neg (by omega), if_neg (by omega)]) (by omega) (by omega) (by omega) (by omega))
  go_enter Tryd.func27, Tryd.ntmps27
  have hB0 := (Below.refl W.heap.size W).alloc (Nat.le_refl _) (.cells #[.int .i64 0, .int .i64 0, .int .i64 0] 50)
  have hb0 := Blk.new W #[.int .i64 0, .int .i64 0, .int .i64 0] 50
  have hz0 : W.heap.size < (W.alloc (.cells #[.int .i64 0, .int .i64 0, .int .i64 0] 50)).heap.size := by simp
  go_wp2_with fail
  refine (q0.out _).mono ?_
  rintro E0 V1 ⟨rfl, hq0⟩
  obtain ⟨hB1, hb1, hz1⟩ := find_step hB0 hb0 hz0 hq0
  clear hq0 hB0 hb0 hz0 q0
  go_wp2_with fail
  refine (q1.out _).mono ?_
  rintro E1 V2 ⟨rfl, hq1⟩
  obtain ⟨hB2, hb2, hz2⟩ := find_step hB1 hb1 hz1 hq1
  clear hq1 hB1 hb1 hz1 q1
  go_wp2_with fail
  refine (q2.out _).mono ?_
  rintro E2 V3 ⟨rfl, hq2⟩
  obtain ⟨hB3, hb3, hz3⟩ := find_step hB2 hb2 hz2 hq2
  clear hq2 hB2 hb2 hz2 q2
  go_wp2_with fail
  refine (q3.out _).mono ?_
  rintro E3 V4 ⟨rfl, hq3⟩
  obtain ⟨hB4, hb4, hz4⟩ := find_step hB3 hb3 hz3 hq3
  clear hq3 hB3 hb3 hz3 q3
  obtain ⟨f0, f1, f2, i0, i1, i2⟩ := find_cells hb4
  have hbf := Lib.hid hb4
  clear hb4
  go_wp2_with fail
  all_goals
    obtain ⟨e0, e1, e2⟩ := fin_cells hbf.out hz4 (.int .i64 8) (.int .i64 (op - 167)) (.int .i64 0)
    exact bodyPost_ret (v := .agg #[.int .i64 8, .int .i64 (op - 167), .int .i64 0]) (by simp [results, Tryd.results27, go_sem, e0, e1, e2]) rfl ⟨rfl, by (repeat (first | exact hB4 | refine Below.setCell ?_ (by first | (simp; done) | (simp; omega)) _ | refine Below.alloc ?_ (by first | (simp; done) | (simp [World.setCell]; omega)) _))⟩
set_option maxRecDepth 100000 in
set_option maxHeartbeats 1000000 in
theorem find_64512 (W : World) (op : Int) (h0 : 64512 ≤ op) (h1 : op ≤ 64519) : Calls Tryd.prog 27 #[.int .i64 op] W (FindPost W (9, op - 64512, 0)) := by
  have q0 := Lib.hid (fun X => first_any X op 69 11 2 (0, 0, 0, false) (by rw [firstM, if_neg (by omega), if_neg (by omega)]) (by omega) (by omega) (by omega) (by omega))
  have q1 := Lib.hid (fun X => first_any X op 91 6 3 (0, 0, 0, false) (by rw [firstM, if_neg (by omega), if_neg (by omega)]) (by omega) (by omega) (by omega) (by omega))
  have q2 := Lib.hid (fun X => first_any X op 103 18 5 (0, 0, 0, false) (by rw [firstM, if_neg (by omega), if_neg (by omega)]) (by omega) (by omega) (by omega) (by omega))
  have q3 := Lib.hid (fun X => first_any X op 139 14 7 (0, 0, 0, false) (by rw [firstM, if_neg (by omega), if_neg (by omega)]) (by omega) (by omega) (by omega) (by omega))
  go_enter Tryd.func27, Tryd.ntmps27
  have hB0 := (Below.refl W.heap.size W).alloc (Nat.le_refl _) (.cells #[.int .i64 0, .int .i64 0, .int .i64 0] 50)
  have hb0 := Blk.new W #[.int .i64 0, .int .i64 0, .int .i64 0] 50
  have hz0 : W.heap.size < (W.alloc (.cells #[.int .i64 0, .int .i64 0, .int .i64 0] 50)).heap.size := by simp
  go_wp2_with fail
  refine (q0.out _).mono ?_
  rintro E0 V1 ⟨rfl, hq0⟩
  obtain ⟨hB1, hb1, hz1⟩ := find_step hB0 hb0 hz0 hq0
  clear hq0 hB0 hb0 hz0 q0
  go_wp2_with fail
  refine (q1.out _).mono ?_
  rintro E1 V2 ⟨rfl, hq1⟩
  obtain ⟨hB2, hb2, hz2⟩ := find_step hB1 hb1 hz1 hq1
  clear hq1 hB1 hb1 hz1 q1
  go_wp2_with fail
  refine (q2.out _).mono ?_
  rintro E2 V3 ⟨rfl, hq2⟩
  obtain ⟨hB3, hb3, hz3⟩ := find_step hB2 hb2 hz2 hq2
  clear hq2 hB2 hb2 hz2 q2
  go_wp2_with fail
  refine (q3.out _).mono ?_
  rintro E3 V4 ⟨rfl, hq3⟩
  obtain ⟨hB4, hb4, hz4⟩ := find_step hB3 hb3 hz3 hq3
  clear hq3 hB3 hb3 hz3 q3
  obtain ⟨f0, f1, f2, i0, i1, i2⟩ := find_cells hb4
  have hbf := Lib.hid hb4
  clear hb4
  go_wp2_with fail
  all_goals
    obtain ⟨e0, e1, e2⟩ := fin_cells hbf.out hz4 (.int .i64 9) (.int .i64 (op - 64512)) (.int .i64 0)
    exact bodyPost_ret (v := .agg #[.int .i64 9, .int .i64 (op - 64512), .int .i64 0]) (by simp [results, Tryd.results27, go_sem, e0, e1, e2]) rfl ⟨rfl, by (repeat (first | exact hB4 | refine Below.setCell ?_ (by first | (simp; done) | (simp; omega)) _ | refine Below.alloc ?_ (by first | (simp; done) | (simp [World.setCell]; omega)) _))⟩
set_option maxRecDepth 100000 in
set_option maxHeartbeats 1000000 in
theorem find_none (W : World) (op : Int) (h0 : -9223372036854775808 ≤ op) (h1 : op ≤ 9223372036854775807) (h2 : op < 69 ∨ 191 < op) (h3 : op < 64512 ∨ 64519 < op) : Calls Tryd.prog 27 #[.int .i64 op] W (FindPost W (0, 0, 0)) := by
  have q0 := Lib.hid (fun X => first_any X op 69 11 2 (0, 0, 0, false) (by rw [firstM, if_neg (by omega), if_neg (by omega)]) (by omega) (by omega) (by omega) (by omega))
  have q1 := Lib.hid (fun X => first_any X op 91 6 3 (0, 0, 0, false) (by rw [firstM, if_neg (by omega), if_neg (by omega)]) (by omega) (by omega) (by omega) (by omega))
  have q2 := Lib.hid (fun X => first_any X op 103 18 5 (0, 0, 0, false) (by rw [firstM, if_neg (by omega), if_neg (by omega)]) (by omega) (by omega) (by omega) (by omega))
  have q3 := Lib.hid (fun X => first_any X op 139 14 7 (0, 0, 0, false) (by rw [firstM, if_neg (by omega), if_neg (by omega)]) (by omega) (by omega) (by omega) (by omega))
  go_enter Tryd.func27, Tryd.ntmps27
  have hB0 := (Below.refl W.heap.size W).alloc (Nat.le_refl _) (.cells #[.int .i64 0, .int .i64 0, .int .i64 0] 50)
  have hb0 := Blk.new W #[.int .i64 0, .int .i64 0, .int .i64 0] 50
  have hz0 : W.heap.size < (W.alloc (.cells #[.int .i64 0, .int .i64 0, .int .i64 0] 50)).heap.size := by simp
  go_wp2_with fail
  refine (q0.out _).mono ?_
  rintro E0 V1 ⟨rfl, hq0⟩
  obtain ⟨hB1, hb1, hz1⟩ := find_step hB0 hb0 hz0 hq0
  clear hq0 hB0 hb0 hz0 q0
  go_wp2_with fail
  refine (q1.out _).mono ?_
  rintro E1 V2 ⟨rfl, hq1⟩
  obtain ⟨hB2, hb2, hz2⟩ := find_step hB1 hb1 hz1 hq1
  clear hq1 hB1 hb1 hz1 q1
  go_wp2_with fail
  refine (q2.out _).mono ?_
  rintro E2 V3 ⟨rfl, hq2⟩
  obtain ⟨hB3, hb3, hz3⟩ := find_step hB2 hb2 hz2 hq2
  clear hq2 hB2 hb2 hz2 q2
  go_wp2_with fail
  refine (q3.out _).mono ?_
  rintro E3 V4 ⟨rfl, hq3⟩
  obtain ⟨hB4, hb4, hz4⟩ := find_step hB3 hb3 hz3 hq3
  clear hq3 hB3 hb3 hz3 q3
  obtain ⟨f0, f1, f2, i0, i1, i2⟩ := find_cells hb4
  have hbf := Lib.hid hb4
  clear hb4
  go_wp2_with fail
  all_goals
    obtain ⟨e0, e1, e2⟩ := fin_cells hbf.out hz4 (.int .i64 0) (.int .i64 0) (.int .i64 0)
    exact bodyPost_ret (v := .agg #[.int .i64 0, .int .i64 0, .int .i64 0]) (by simp [results, Tryd.results27, go_sem, e0, e1, e2]) rfl ⟨rfl, by (repeat (first | exact hB4 | refine Below.setCell ?_ (by first | (simp; done) | (simp; omega)) _ | refine Below.alloc ?_ (by first | (simp; done) | (simp [World.setCell]; omega)) _))⟩
end Go.Proofs.YtfndlpfceokloaaDoor
