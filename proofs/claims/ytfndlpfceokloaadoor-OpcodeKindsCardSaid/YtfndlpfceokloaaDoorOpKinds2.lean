/- Lemmas towards this claim's statement: what the functions named here come to, each under the conditions that it states itself. -/
import Derived.Test.YtfndlpfceokloaaDoorOpKinds
import Derived.BigQuiet
namespace Go.Proofs.YtfndlpfceokloaaDoor
open Go.RowKit Go.Shelf YtfndlpfceokloaaDoorB Go.Proofs.YtfndlpfceokloaaDoorW.PrintWords
set_option maxRecDepth 100000 in
set_option maxHeartbeats 1000000 in
theorem kinds_no (mx op : Int) (W : World) (h0 : -9223372036854775808 ≤ op) (h1 : op ≤ 9223372036854775807) (hm : W.cell? ⟨0, 0, none⟩ = some (.int .i64 mx)) (hk : (kindM op).2.2.2 = false) :
    Calls Tryd.prog 4 #[.int .i64 op] W (Yes W) := by
  have HA := Lib.hid (awake18_any mx W hm)
  have HK := Lib.hid (fun X => Kind_any X op h0 h1)
  generalize kindM op = r at *
  obtain ⟨r1, r2, r3, r4⟩ := r
  obtain rfl : r4 = false := hk
  go_enter Tryd.func4, Tryd.ntmps4
  go_wp2_with fail
  refine HA.out.mono ?_
  rintro E W1 ⟨rfl, hB⟩
  go_wp2_with fail
  refine (HK.out _).mono ?_
  rintro E W2 ⟨rfl, hB2⟩
  have HB := Lib.hid (below_from hB hB2)
  clear hB hB2
  go_wp2_with fail
  go_ret
  exact ⟨rfl, HB.out⟩
def kWc : Array Value := #[.string ⟨#[102, 54, 52, 46]⟩, .string ⟨#[102, 51, 50, 46]⟩, .string ⟨#[105, 54, 52, 46]⟩, .string ⟨#[105, 51, 50, 46]⟩]
set_option maxRecDepth 100000 in
set_option maxHeartbeats 1000000 in
theorem kinds_124_0 (mx op : Int) (W : World) (s : ByteArray) (r1 r2 r3 : Int) (h0 : -9223372036854775808 ≤ op) (h1 : op ≤ 9223372036854775807) (hm : W.cell? ⟨0, 0, none⟩ = some (.int .i64 mx)) (hk : kindM op = (r1, r2, r3, true)) (hc1 : 69 ≤ op) (hc2 : op ≤ 102) (hr : r1 = 124) (hs : nameM op = s) (hl : 4 < s.size) (hl2 : s.size ≤ 1000) (hx : s.extract 0 4 = ⟨#[102, 54, 52, 46]⟩) (hi : immM op = (0, true)) :
    Calls Tryd.prog 4 #[.int .i64 op] W (Yes W) := by
  have hw0 : 0 < W.heap.size := World.block_lt_of_cell? _ _ hm
  have HA := Lib.hid (awake18_any mx W hm)
  have HK := Lib.hid (fun X => by have := Kind_any X op h0 h1; rw [hk] at this; exact this : ∀ X, Calls Tryd.prog 13 #[.int .i64 op] X (KindPost X (r1, r2, r3, true)))
  have HI := Lib.hid (fun X => by have := Imm_all X op h0 h1; rw [hi] at this; exact this : ∀ X, Calls Tryd.prog 7 #[.int .i64 op] X (ImmPost X (0, true)))
  have HN := Lib.hid (fun X (hX : X.cell? ⟨0, 0, none⟩ = some (.int .i64 mx)) => by rw [hs.symm]; exact Name_any mx op X hX : ∀ X, X.cell? ⟨0, 0, none⟩ = some (.int .i64 mx) → Calls Tryd.prog 9 #[.int .i64 op] X fun e W' => e = .returned (.string s) ∧ Below X.heap.size X W')
  subst hr
  have hl4 : (4 : Int) < (s.size : Int) := by omega
  have hl5 : (s.size : Int) ≤ 1000 := by omega
  clear hk hs hi hl hl2
  go_enter Tryd.func4, Tryd.ntmps4
  go_wp2_with fail
  refine HA.out.mono ?_
  rintro E W1 ⟨rfl, hB⟩
  go_wp2_with fail
  refine (HK.out _).mono ?_
  rintro E W2 ⟨rfl, hB2⟩
  have hB0 := below_from hB hB2
  have hm2 := pw_cell_below hB0 hm
  have HB0 := Lib.hid (hB0.alloc hB0.size (.cells #[.string ⟨#[102, 54, 52, 46]⟩, .string ⟨#[102, 51, 50, 46]⟩, .string ⟨#[105, 54, 52, 46]⟩, .string ⟨#[105, 51, 50, 46]⟩] 36))
  have hcell := (Blk.new W2 #[.string ⟨#[102, 54, 52, 46]⟩, .string ⟨#[102, 51, 50, 46]⟩, .string ⟨#[105, 54, 52, 46]⟩, .string ⟨#[105, 51, 50, 46]⟩] 36).cell 0
  have hm3 := pw_cell_below ((Below.refl W2.heap.size W2).alloc (Nat.le_refl _) (.cells #[.string ⟨#[102, 54, 52, 46]⟩, .string ⟨#[102, 51, 50, 46]⟩, .string ⟨#[105, 54, 52, 46]⟩, .string ⟨#[105, 51, 50, 46]⟩] 36)) hm2
  have HZ := Lib.hid (show (W2.alloc (.cells #[.string ⟨#[102, 54, 52, 46]⟩, .string ⟨#[102, 51, 50, 46]⟩, .string ⟨#[105, 54, 52, 46]⟩, .string ⟨#[105, 51, 50, 46]⟩] 36)).heap.size = W2.heap.size + 1 from World.size_alloc _ _)
  have HSZ := Lib.hid hB0.size
  clear hB hB2 hB0
  go_wp2_with fail
  refine (HN.out _ (by exact hm3)).mono ?_
  rintro E W3 ⟨rfl, hB3⟩
  have hc3 := pw_cell_below hB3 hcell
  have HB3 := Lib.hid (HB0.out.trans (hB3.mono (by have := HZ.out; have := HSZ.out; omega)))
  clear hm2 hm3 hB3 hcell
  go_wp2_with fail
  refine (HI.out _).mono ?_
  rintro E W4 ⟨rfl, hB4⟩
  have hc4 : W4.cell? ⟨W2.heap.size, 0, none⟩ = some (.string ⟨#[102, 54, 52, 46]⟩) := pw_cell_below hB4 hc3
  have HB4 := Lib.hid (below_from HB3.out hB4)
  clear hB4 hc3
  go_upto_region 12 with fail
  go_quiet (fail)
  go_wp2_with fail
  go_ret
  exact ⟨rfl, below_drewN HB4.out _⟩
set_option maxRecDepth 100000 in
set_option maxHeartbeats 1000000 in
theorem kinds_124_1 (mx op : Int) (W : World) (s : ByteArray) (r1 r2 r3 : Int) (h0 : -9223372036854775808 ≤ op) (h1 : op ≤ 9223372036854775807) (hm : W.cell? ⟨0, 0, none⟩ = some (.int .i64 mx)) (hk : kindM op = (r1, r2, r3, true)) (hc1 : 69 ≤ op) (hc2 : 102 < op) (hr : r3 = 124) (hs : nameM op = s) (hl : 4 < s.size) (hl2 : s.size ≤ 1000) (hx : s.extract 0 4 = ⟨#[102, 54, 52, 46]⟩) (hi : immM op = (0, true)) :
    Calls Tryd.prog 4 #[.int .i64 op] W (Yes W) := by
  have hw0 : 0 < W.heap.size := World.block_lt_of_cell? _ _ hm
  have HA := Lib.hid (awake18_any mx W hm)
  have HK := Lib.hid (fun X => by have := Kind_any X op h0 h1; rw [hk] at this; exact this : ∀ X, Calls Tryd.prog 13 #[.int .i64 op] X (KindPost X (r1, r2, r3, true)))
  have HI := Lib.hid (fun X => by have := Imm_all X op h0 h1; rw [hi] at this; exact this : ∀ X, Calls Tryd.prog 7 #[.int .i64 op] X (ImmPost X (0, true)))
  have HN := Lib.hid (fun X (hX : X.cell? ⟨0, 0, none⟩ = some (.int .i64 mx)) => by rw [hs.symm]; exact Name_any mx op X hX : ∀ X, X.cell? ⟨0, 0, none⟩ = some (.int .i64 mx) → Calls Tryd.prog 9 #[.int .i64 op] X fun e W' => e = .returned (.string s) ∧ Below X.heap.size X W')
  subst hr
  have hl4 : (4 : Int) < (s.size : Int) := by omega
  have hl5 : (s.size : Int) ≤ 1000 := by omega
  clear hk hs hi hl hl2
  go_enter Tryd.func4, Tryd.ntmps4
  go_wp2_with fail
  refine HA.out.mono ?_
  rintro E W1 ⟨rfl, hB⟩
  go_wp2_with fail
  refine (HK.out _).mono ?_
  rintro E W2 ⟨rfl, hB2⟩
  have hB0 := below_from hB hB2
  have hm2 := pw_cell_below hB0 hm
  have HB0 := Lib.hid (hB0.alloc hB0.size (.cells #[.string ⟨#[102, 54, 52, 46]⟩, .string ⟨#[102, 51, 50, 46]⟩, .string ⟨#[105, 54, 52, 46]⟩, .string ⟨#[105, 51, 50, 46]⟩] 36))
  have hcell := (Blk.new W2 #[.string ⟨#[102, 54, 52, 46]⟩, .string ⟨#[102, 51, 50, 46]⟩, .string ⟨#[105, 54, 52, 46]⟩, .string ⟨#[105, 51, 50, 46]⟩] 36).cell 0
  have hm3 := pw_cell_below ((Below.refl W2.heap.size W2).alloc (Nat.le_refl _) (.cells #[.string ⟨#[102, 54, 52, 46]⟩, .string ⟨#[102, 51, 50, 46]⟩, .string ⟨#[105, 54, 52, 46]⟩, .string ⟨#[105, 51, 50, 46]⟩] 36)) hm2
  have HZ := Lib.hid (show (W2.alloc (.cells #[.string ⟨#[102, 54, 52, 46]⟩, .string ⟨#[102, 51, 50, 46]⟩, .string ⟨#[105, 54, 52, 46]⟩, .string ⟨#[105, 51, 50, 46]⟩] 36)).heap.size = W2.heap.size + 1 from World.size_alloc _ _)
  have HSZ := Lib.hid hB0.size
  clear hB hB2 hB0
  go_wp2_with fail
  refine (HN.out _ (by exact hm3)).mono ?_
  rintro E W3 ⟨rfl, hB3⟩
  have hc3 := pw_cell_below hB3 hcell
  have HB3 := Lib.hid (HB0.out.trans (hB3.mono (by have := HZ.out; have := HSZ.out; omega)))
  clear hm2 hm3 hB3 hcell
  go_wp2_with fail
  refine (HI.out _).mono ?_
  rintro E W4 ⟨rfl, hB4⟩
  have hc4 : W4.cell? ⟨W2.heap.size, 0, none⟩ = some (.string ⟨#[102, 54, 52, 46]⟩) := pw_cell_below hB4 hc3
  have HB4 := Lib.hid (below_from HB3.out hB4)
  clear hB4 hc3
  go_upto_region 12 with fail
  go_quiet (fail)
  go_wp2_with fail
  go_ret
  exact ⟨rfl, below_drewN HB4.out _⟩
set_option maxRecDepth 100000 in
set_option maxHeartbeats 1000000 in
theorem kinds_125_0 (mx op : Int) (W : World) (s : ByteArray) (r1 r2 r3 : Int) (h0 : -9223372036854775808 ≤ op) (h1 : op ≤ 9223372036854775807) (hm : W.cell? ⟨0, 0, none⟩ = some (.int .i64 mx)) (hk : kindM op = (r1, r2, r3, true)) (hc1 : 69 ≤ op) (hc2 : op ≤ 102) (hr : r1 = 125) (hs : nameM op = s) (hl : 4 < s.size) (hl2 : s.size ≤ 1000) (hx : s.extract 0 4 = ⟨#[102, 51, 50, 46]⟩) (hi : immM op = (0, true)) :
    Calls Tryd.prog 4 #[.int .i64 op] W (Yes W) := by
  have hw0 : 0 < W.heap.size := World.block_lt_of_cell? _ _ hm
  have HA := Lib.hid (awake18_any mx W hm)
  have HK := Lib.hid (fun X => by have := Kind_any X op h0 h1; rw [hk] at this; exact this : ∀ X, Calls Tryd.prog 13 #[.int .i64 op] X (KindPost X (r1, r2, r3, true)))
  have HI := Lib.hid (fun X => by have := Imm_all X op h0 h1; rw [hi] at this; exact this : ∀ X, Calls Tryd.prog 7 #[.int .i64 op] X (ImmPost X (0, true)))
  have HN := Lib.hid (fun X (hX : X.cell? ⟨0, 0, none⟩ = some (.int .i64 mx)) => by rw [hs.symm]; exact Name_any mx op X hX : ∀ X, X.cell? ⟨0, 0, none⟩ = some (.int .i64 mx) → Calls Tryd.prog 9 #[.int .i64 op] X fun e W' => e = .returned (.string s) ∧ Below X.heap.size X W')
  subst hr
  have hl4 : (4 : Int) < (s.size : Int) := by omega
  have hl5 : (s.size : Int) ≤ 1000 := by omega
  clear hk hs hi hl hl2
  go_enter Tryd.func4, Tryd.ntmps4
  go_wp2_with fail
  refine HA.out.mono ?_
  rintro E W1 ⟨rfl, hB⟩
  go_wp2_with fail
  refine (HK.out _).mono ?_
  rintro E W2 ⟨rfl, hB2⟩
  have hB0 := below_from hB hB2
  have hm2 := pw_cell_below hB0 hm
  have HB0 := Lib.hid (hB0.alloc hB0.size (.cells #[.string ⟨#[102, 54, 52, 46]⟩, .string ⟨#[102, 51, 50, 46]⟩, .string ⟨#[105, 54, 52, 46]⟩, .string ⟨#[105, 51, 50, 46]⟩] 36))
  have hcell := (Blk.new W2 #[.string ⟨#[102, 54, 52, 46]⟩, .string ⟨#[102, 51, 50, 46]⟩, .string ⟨#[105, 54, 52, 46]⟩, .string ⟨#[105, 51, 50, 46]⟩] 36).cell 1
  have hm3 := pw_cell_below ((Below.refl W2.heap.size W2).alloc (Nat.le_refl _) (.cells #[.string ⟨#[102, 54, 52, 46]⟩, .string ⟨#[102, 51, 50, 46]⟩, .string ⟨#[105, 54, 52, 46]⟩, .string ⟨#[105, 51, 50, 46]⟩] 36)) hm2
  have HZ := Lib.hid (show (W2.alloc (.cells #[.string ⟨#[102, 54, 52, 46]⟩, .string ⟨#[102, 51, 50, 46]⟩, .string ⟨#[105, 54, 52, 46]⟩, .string ⟨#[105, 51, 50, 46]⟩] 36)).heap.size = W2.heap.size + 1 from World.size_alloc _ _)
  have HSZ := Lib.hid hB0.size
  clear hB hB2 hB0
  go_wp2_with fail
  refine (HN.out _ (by exact hm3)).mono ?_
  rintro E W3 ⟨rfl, hB3⟩
  have hc3 := pw_cell_below hB3 hcell
  have HB3 := Lib.hid (HB0.out.trans (hB3.mono (by have := HZ.out; have := HSZ.out; omega)))
  clear hm2 hm3 hB3 hcell
  go_wp2_with fail
  refine (HI.out _).mono ?_
  rintro E W4 ⟨rfl, hB4⟩
  have hc4 : W4.cell? ⟨W2.heap.size, 1, none⟩ = some (.string ⟨#[102, 51, 50, 46]⟩) := pw_cell_below hB4 hc3
  have HB4 := Lib.hid (below_from HB3.out hB4)
  clear hB4 hc3
  go_upto_region 12 with fail
  go_quiet (fail)
  go_wp2_with fail
  go_ret
  exact ⟨rfl, below_drewN HB4.out _⟩
set_option maxRecDepth 100000 in
set_option maxHeartbeats 1000000 in
theorem kinds_125_1 (mx op : Int) (W : World) (s : ByteArray) (r1 r2 r3 : Int) (h0 : -9223372036854775808 ≤ op) (h1 : op ≤ 9223372036854775807) (hm : W.cell? ⟨0, 0, none⟩ = some (.int .i64 mx)) (hk : kindM op = (r1, r2, r3, true)) (hc1 : 69 ≤ op) (hc2 : 102 < op) (hr : r3 = 125) (hs : nameM op = s) (hl : 4 < s.size) (hl2 : s.size ≤ 1000) (hx : s.extract 0 4 = ⟨#[102, 51, 50, 46]⟩) (hi : immM op = (0, true)) :
    Calls Tryd.prog 4 #[.int .i64 op] W (Yes W) := by
  have hw0 : 0 < W.heap.size := World.block_lt_of_cell? _ _ hm
  have HA := Lib.hid (awake18_any mx W hm)
  have HK := Lib.hid (fun X => by have := Kind_any X op h0 h1; rw [hk] at this; exact this : ∀ X, Calls Tryd.prog 13 #[.int .i64 op] X (KindPost X (r1, r2, r3, true)))
  have HI := Lib.hid (fun X => by have := Imm_all X op h0 h1; rw [hi] at this; exact this : ∀ X, Calls Tryd.prog 7 #[.int .i64 op] X (ImmPost X (0, true)))
  have HN := Lib.hid (fun X (hX : X.cell? ⟨0, 0, none⟩ = some (.int .i64 mx)) => by rw [hs.symm]; exact Name_any mx op X hX : ∀ X, X.cell? ⟨0, 0, none⟩ = some (.int .i64 mx) → Calls Tryd.prog 9 #[.int .i64 op] X fun e W' => e = .returned (.string s) ∧ Below X.heap.size X W')
  subst hr
  have hl4 : (4 : Int) < (s.size : Int) := by omega
  have hl5 : (s.size : Int) ≤ 1000 := by omega
  clear hk hs hi hl hl2
  go_enter Tryd.func4, Tryd.ntmps4
  go_wp2_with fail
  refine HA.out.mono ?_
  rintro E W1 ⟨rfl, hB⟩
  go_wp2_with fail
  refine (HK.out _).mono ?_
  rintro E W2 ⟨rfl, hB2⟩
  have hB0 := below_from hB hB2
  have hm2 := pw_cell_below hB0 hm
  have HB0 := Lib.hid (hB0.alloc hB0.size (.cells #[.string ⟨#[102, 54, 52, 46]⟩, .string ⟨#[102, 51, 50, 46]⟩, .string ⟨#[105, 54, 52, 46]⟩, .string ⟨#[105, 51, 50, 46]⟩] 36))
  have hcell := (Blk.new W2 #[.string ⟨#[102, 54, 52, 46]⟩, .string ⟨#[102, 51, 50, 46]⟩, .string ⟨#[105, 54, 52, 46]⟩, .string ⟨#[105, 51, 50, 46]⟩] 36).cell 1
  have hm3 := pw_cell_below ((Below.refl W2.heap.size W2).alloc (Nat.le_refl _) (.cells #[.string ⟨#[102, 54, 52, 46]⟩, .string ⟨#[102, 51, 50, 46]⟩, .string ⟨#[105, 54, 52, 46]⟩, .string ⟨#[105, 51, 50, 46]⟩] 36)) hm2
  have HZ := Lib.hid (show (W2.alloc (.cells #[.string ⟨#[102, 54, 52, 46]⟩, .string ⟨#[102, 51, 50, 46]⟩, .string ⟨#[105, 54, 52, 46]⟩, .string ⟨#[105, 51, 50, 46]⟩] 36)).heap.size = W2.heap.size + 1 from World.size_alloc _ _)
  have HSZ := Lib.hid hB0.size
  clear hB hB2 hB0
  go_wp2_with fail
  refine (HN.out _ (by exact hm3)).mono ?_
  rintro E W3 ⟨rfl, hB3⟩
  have hc3 := pw_cell_below hB3 hcell
  have HB3 := Lib.hid (HB0.out.trans (hB3.mono (by have := HZ.out; have := HSZ.out; omega)))
  clear hm2 hm3 hB3 hcell
  go_wp2_with fail
  refine (HI.out _).mono ?_
  rintro E W4 ⟨rfl, hB4⟩
  have hc4 : W4.cell? ⟨W2.heap.size, 1, none⟩ = some (.string ⟨#[102, 51, 50, 46]⟩) := pw_cell_below hB4 hc3
  have HB4 := Lib.hid (below_from HB3.out hB4)
  clear hB4 hc3
  go_upto_region 12 with fail
  go_quiet (fail)
  go_wp2_with fail
  go_ret
  exact ⟨rfl, below_drewN HB4.out _⟩
set_option maxRecDepth 100000 in
set_option maxHeartbeats 1000000 in
theorem kinds_126_0 (mx op : Int) (W : World) (s : ByteArray) (r1 r2 r3 : Int) (h0 : -9223372036854775808 ≤ op) (h1 : op ≤ 9223372036854775807) (hm : W.cell? ⟨0, 0, none⟩ = some (.int .i64 mx)) (hk : kindM op = (r1, r2, r3, true)) (hc1 : 69 ≤ op) (hc2 : op ≤ 102) (hr : r1 = 126) (hs : nameM op = s) (hl : 4 < s.size) (hl2 : s.size ≤ 1000) (hx : s.extract 0 4 = ⟨#[105, 54, 52, 46]⟩) (hi : immM op = (0, true)) :
    Calls Tryd.prog 4 #[.int .i64 op] W (Yes W) := by
  have hw0 : 0 < W.heap.size := World.block_lt_of_cell? _ _ hm
  have HA := Lib.hid (awake18_any mx W hm)
  have HK := Lib.hid (fun X => by have := Kind_any X op h0 h1; rw [hk] at this; exact this : ∀ X, Calls Tryd.prog 13 #[.int .i64 op] X (KindPost X (r1, r2, r3, true)))
  have HI := Lib.hid (fun X => by have := Imm_all X op h0 h1; rw [hi] at this; exact this : ∀ X, Calls Tryd.prog 7 #[.int .i64 op] X (ImmPost X (0, true)))
  have HN := Lib.hid (fun X (hX : X.cell? ⟨0, 0, none⟩ = some (.int .i64 mx)) => by rw [hs.symm]; exact Name_any mx op X hX : ∀ X, X.cell? ⟨0, 0, none⟩ = some (.int .i64 mx) → Calls Tryd.prog 9 #[.int .i64 op] X fun e W' => e = .returned (.string s) ∧ Below X.heap.size X W')
  subst hr
  have hl4 : (4 : Int) < (s.size : Int) := by omega
  have hl5 : (s.size : Int) ≤ 1000 := by omega
  clear hk hs hi hl hl2
  go_enter Tryd.func4, Tryd.ntmps4
  go_wp2_with fail
  refine HA.out.mono ?_
  rintro E W1 ⟨rfl, hB⟩
  go_wp2_with fail
  refine (HK.out _).mono ?_
  rintro E W2 ⟨rfl, hB2⟩
  have hB0 := below_from hB hB2
  have hm2 := pw_cell_below hB0 hm
  have HB0 := Lib.hid (hB0.alloc hB0.size (.cells #[.string ⟨#[102, 54, 52, 46]⟩, .string ⟨#[102, 51, 50, 46]⟩, .string ⟨#[105, 54, 52, 46]⟩, .string ⟨#[105, 51, 50, 46]⟩] 36))
  have hcell := (Blk.new W2 #[.string ⟨#[102, 54, 52, 46]⟩, .string ⟨#[102, 51, 50, 46]⟩, .string ⟨#[105, 54, 52, 46]⟩, .string ⟨#[105, 51, 50, 46]⟩] 36).cell 2
  have hm3 := pw_cell_below ((Below.refl W2.heap.size W2).alloc (Nat.le_refl _) (.cells #[.string ⟨#[102, 54, 52, 46]⟩, .string ⟨#[102, 51, 50, 46]⟩, .string ⟨#[105, 54, 52, 46]⟩, .string ⟨#[105, 51, 50, 46]⟩] 36)) hm2
  have HZ := Lib.hid (show (W2.alloc (.cells #[.string ⟨#[102, 54, 52, 46]⟩, .string ⟨#[102, 51, 50, 46]⟩, .string ⟨#[105, 54, 52, 46]⟩, .string ⟨#[105, 51, 50, 46]⟩] 36)).heap.size = W2.heap.size + 1 from World.size_alloc _ _)
  have HSZ := Lib.hid hB0.size
  clear hB hB2 hB0
  go_wp2_with fail
  refine (HN.out _ (by exact hm3)).mono ?_
  rintro E W3 ⟨rfl, hB3⟩
  have hc3 := pw_cell_below hB3 hcell
  have HB3 := Lib.hid (HB0.out.trans (hB3.mono (by have := HZ.out; have := HSZ.out; omega)))
  clear hm2 hm3 hB3 hcell
  go_wp2_with fail
  refine (HI.out _).mono ?_
  rintro E W4 ⟨rfl, hB4⟩
  have hc4 : W4.cell? ⟨W2.heap.size, 2, none⟩ = some (.string ⟨#[105, 54, 52, 46]⟩) := pw_cell_below hB4 hc3
  have HB4 := Lib.hid (below_from HB3.out hB4)
  clear hB4 hc3
  go_upto_region 12 with fail
  go_quiet (fail)
  go_wp2_with fail
  go_ret
  exact ⟨rfl, below_drewN HB4.out _⟩
set_option maxRecDepth 100000 in
set_option maxHeartbeats 1000000 in
theorem kinds_126_1 (mx op : Int) (W : World) (s : ByteArray) (r1 r2 r3 : Int) (h0 : -9223372036854775808 ≤ op) (h1 : op ≤ 9223372036854775807) (hm : W.cell? ⟨0, 0, none⟩ = some (.int .i64 mx)) (hk : kindM op = (r1, r2, r3, true)) (hc1 : 69 ≤ op) (hc2 : 102 < op) (hr : r3 = 126) (hs : nameM op = s) (hl : 4 < s.size) (hl2 : s.size ≤ 1000) (hx : s.extract 0 4 = ⟨#[105, 54, 52, 46]⟩) (hi : immM op = (0, true)) :
    Calls Tryd.prog 4 #[.int .i64 op] W (Yes W) := by
  have hw0 : 0 < W.heap.size := World.block_lt_of_cell? _ _ hm
  have HA := Lib.hid (awake18_any mx W hm)
  have HK := Lib.hid (fun X => by have := Kind_any X op h0 h1; rw [hk] at this; exact this : ∀ X, Calls Tryd.prog 13 #[.int .i64 op] X (KindPost X (r1, r2, r3, true)))
  have HI := Lib.hid (fun X => by have := Imm_all X op h0 h1; rw [hi] at this; exact this : ∀ X, Calls Tryd.prog 7 #[.int .i64 op] X (ImmPost X (0, true)))
  have HN := Lib.hid (fun X (hX : X.cell? ⟨0, 0, none⟩ = some (.int .i64 mx)) => by rw [hs.symm]; exact Name_any mx op X hX : ∀ X, X.cell? ⟨0, 0, none⟩ = some (.int .i64 mx) → Calls Tryd.prog 9 #[.int .i64 op] X fun e W' => e = .returned (.string s) ∧ Below X.heap.size X W')
  subst hr
  have hl4 : (4 : Int) < (s.size : Int) := by omega
  have hl5 : (s.size : Int) ≤ 1000 := by omega
  clear hk hs hi hl hl2
  go_enter Tryd.func4, Tryd.ntmps4
  go_wp2_with fail
  refine HA.out.mono ?_
  rintro E W1 ⟨rfl, hB⟩
  go_wp2_with fail
  refine (HK.out _).mono ?_
  rintro E W2 ⟨rfl, hB2⟩
  have hB0 := below_from hB hB2
  have hm2 := pw_cell_below hB0 hm
  have HB0 := Lib.hid (hB0.alloc hB0.size (.cells #[.string ⟨#[102, 54, 52, 46]⟩, .string ⟨#[102, 51, 50, 46]⟩, .string ⟨#[105, 54, 52, 46]⟩, .string ⟨#[105, 51, 50, 46]⟩] 36))
  have hcell := (Blk.new W2 #[.string ⟨#[102, 54, 52, 46]⟩, .string ⟨#[102, 51, 50, 46]⟩, .string ⟨#[105, 54, 52, 46]⟩, .string ⟨#[105, 51, 50, 46]⟩] 36).cell 2
  have hm3 := pw_cell_below ((Below.refl W2.heap.size W2).alloc (Nat.le_refl _) (.cells #[.string ⟨#[102, 54, 52, 46]⟩, .string ⟨#[102, 51, 50, 46]⟩, .string ⟨#[105, 54, 52, 46]⟩, .string ⟨#[105, 51, 50, 46]⟩] 36)) hm2
  have HZ := Lib.hid (show (W2.alloc (.cells #[.string ⟨#[102, 54, 52, 46]⟩, .string ⟨#[102, 51, 50, 46]⟩, .string ⟨#[105, 54, 52, 46]⟩, .string ⟨#[105, 51, 50, 46]⟩] 36)).heap.size = W2.heap.size + 1 from World.size_alloc _ _)
  have HSZ := Lib.hid hB0.size
  clear hB hB2 hB0
  go_wp2_with fail
  refine (HN.out _ (by exact hm3)).mono ?_
  rintro E W3 ⟨rfl, hB3⟩
  have hc3 := pw_cell_below hB3 hcell
  have HB3 := Lib.hid (HB0.out.trans (hB3.mono (by have := HZ.out; have := HSZ.out; omega)))
  clear hm2 hm3 hB3 hcell
  go_wp2_with fail
  refine (HI.out _).mono ?_
  rintro E W4 ⟨rfl, hB4⟩
  have hc4 : W4.cell? ⟨W2.heap.size, 2, none⟩ = some (.string ⟨#[105, 54, 52, 46]⟩) := pw_cell_below hB4 hc3
  have HB4 := Lib.hid (below_from HB3.out hB4)
  clear hB4 hc3
  go_upto_region 12 with fail
  go_quiet (fail)
  go_wp2_with fail
  go_ret
  exact ⟨rfl, below_drewN HB4.out _⟩
set_option maxRecDepth 100000 in
set_option maxHeartbeats 1000000 in
theorem kinds_127_0 (mx op : Int) (W : World) (s : ByteArray) (r1 r2 r3 : Int) (h0 : -9223372036854775808 ≤ op) (h1 : op ≤ 9223372036854775807) (hm : W.cell? ⟨0, 0, none⟩ = some (.int .i64 mx)) (hk : kindM op = (r1, r2, r3, true)) (hc1 : 69 ≤ op) (hc2 : op ≤ 102) (hr : r1 = 127) (hs : nameM op = s) (hl : 4 < s.size) (hl2 : s.size ≤ 1000) (hx : s.extract 0 4 = ⟨#[105, 51, 50, 46]⟩) (hi : immM op = (0, true)) :
    Calls Tryd.prog 4 #[.int .i64 op] W (Yes W) := by
  have hw0 : 0 < W.heap.size := World.block_lt_of_cell? _ _ hm
  have HA := Lib.hid (awake18_any mx W hm)
  have HK := Lib.hid (fun X => by have := Kind_any X op h0 h1; rw [hk] at this; exact this : ∀ X, Calls Tryd.prog 13 #[.int .i64 op] X (KindPost X (r1, r2, r3, true)))
  have HI := Lib.hid (fun X => by have := Imm_all X op h0 h1; rw [hi] at this; exact this : ∀ X, Calls Tryd.prog 7 #[.int .i64 op] X (ImmPost X (0, true)))
  have HN := Lib.hid (fun X (hX : X.cell? ⟨0, 0, none⟩ = some (.int .i64 mx)) => by rw [hs.symm]; exact Name_any mx op X hX : ∀ X, X.cell? ⟨0, 0, none⟩ = some (.int .i64 mx) → Calls Tryd.prog 9 #[.int .i64 op] X fun e W' => e = .returned (.string s) ∧ Below X.heap.size X W')
  subst hr
  have hl4 : (4 : Int) < (s.size : Int) := by omega
  have hl5 : (s.size : Int) ≤ 1000 := by omega
  clear hk hs hi hl hl2
  go_enter Tryd.func4, Tryd.ntmps4
  go_wp2_with fail
  refine HA.out.mono ?_
  rintro E W1 ⟨rfl, hB⟩
  go_wp2_with fail
  refine (HK.out _).mono ?_
  rintro E W2 ⟨rfl, hB2⟩
  have hB0 := below_from hB hB2
  have hm2 := pw_cell_below hB0 hm
  have HB0 := Lib.hid (hB0.alloc hB0.size (.cells #[.string ⟨#[102, 54, 52, 46]⟩, .string ⟨#[102, 51, 50, 46]⟩, .string ⟨#[105, 54, 52, 46]⟩, .string ⟨#[105, 51, 50, 46]⟩] 36))
  have hcell := (Blk.new W2 #[.string ⟨#[102, 54, 52, 46]⟩, .string ⟨#[102, 51, 50, 46]⟩, .string ⟨#[105, 54, 52, 46]⟩, .string ⟨#[105, 51, 50, 46]⟩] 36).cell 3
  have hm3 := pw_cell_below ((Below.refl W2.heap.size W2).alloc (Nat.le_refl _) (.cells #[.string ⟨#[102, 54, 52, 46]⟩, .string ⟨#[102, 51, 50, 46]⟩, .string ⟨#[105, 54, 52, 46]⟩, .string ⟨#[105, 51, 50, 46]⟩] 36)) hm2
  have HZ := Lib.hid (show (W2.alloc (.cells #[.string ⟨#[102, 54, 52, 46]⟩, .string ⟨#[102, 51, 50, 46]⟩, .string ⟨#[105, 54, 52, 46]⟩, .string ⟨#[105, 51, 50, 46]⟩] 36)).heap.size = W2.heap.size + 1 from World.size_alloc _ _)
  have HSZ := Lib.hid hB0.size
  clear hB hB2 hB0
  go_wp2_with fail
  refine (HN.out _ (by exact hm3)).mono ?_
  rintro E W3 ⟨rfl, hB3⟩
  have hc3 := pw_cell_below hB3 hcell
  have HB3 := Lib.hid (HB0.out.trans (hB3.mono (by have := HZ.out; have := HSZ.out; omega)))
  clear hm2 hm3 hB3 hcell
  go_wp2_with fail
  refine (HI.out _).mono ?_
  rintro E W4 ⟨rfl, hB4⟩
  have hc4 : W4.cell? ⟨W2.heap.size, 3, none⟩ = some (.string ⟨#[105, 51, 50, 46]⟩) := pw_cell_below hB4 hc3
  have HB4 := Lib.hid (below_from HB3.out hB4)
  clear hB4 hc3
  go_upto_region 12 with fail
  go_quiet (fail)
  go_wp2_with fail
  go_ret
  exact ⟨rfl, below_drewN HB4.out _⟩
set_option maxRecDepth 100000 in
set_option maxHeartbeats 1000000 in
theorem kinds_127_1 (mx op : Int) (W : World) (s : ByteArray) (r1 r2 r3 : Int) (h0 : -9223372036854775808 ≤ op) (h1 : op ≤ 9223372036854775807) (hm : W.cell? ⟨0, 0, none⟩ = some (.int .i64 mx)) (hk : kindM op = (r1, r2, r3, true)) (hc1 : 69 ≤ op) (hc2 : 102 < op) (hr : r3 = 127) (hs : nameM op = s) (hl : 4 < s.size) (hl2 : s.size ≤ 1000) (hx : s.extract 0 4 = ⟨#[105, 51, 50, 46]⟩) (hi : immM op = (0, true)) :
    Calls Tryd.prog 4 #[.int .i64 op] W (Yes W) := by
  have hw0 : 0 < W.heap.size := World.block_lt_of_cell? _ _ hm
  have HA := Lib.hid (awake18_any mx W hm)
  have HK := Lib.hid (fun X => by have := Kind_any X op h0 h1; rw [hk] at this; exact this : ∀ X, Calls Tryd.prog 13 #[.int .i64 op] X (KindPost X (r1, r2, r3, true)))
  have HI := Lib.hid (fun X => by have := Imm_all X op h0 h1; rw [hi] at this; exact this : ∀ X, Calls Tryd.prog 7 #[.int .i64 op] X (ImmPost X (0, true)))
  have HN := Lib.hid (fun X (hX : X.cell? ⟨0, 0, none⟩ = some (.int .i64 mx)) => by rw [hs.symm]; exact Name_any mx op X hX : ∀ X, X.cell? ⟨0, 0, none⟩ = some (.int .i64 mx) → Calls Tryd.prog 9 #[.int .i64 op] X fun e W' => e = .returned (.string s) ∧ Below X.heap.size X W')
  subst hr
  have hl4 : (4 : Int) < (s.size : Int) := by omega
  have hl5 : (s.size : Int) ≤ 1000 := by omega
  clear hk hs hi hl hl2
  go_enter Tryd.func4, Tryd.ntmps4
  go_wp2_with fail
  refine HA.out.mono ?_
  rintro E W1 ⟨rfl, hB⟩
  go_wp2_with fail
  refine (HK.out _).mono ?_
  rintro E W2 ⟨rfl, hB2⟩
  have hB0 := below_from hB hB2
  have hm2 := pw_cell_below hB0 hm
  have HB0 := Lib.hid (hB0.alloc hB0.size (.cells #[.string ⟨#[102, 54, 52, 46]⟩, .string ⟨#[102, 51, 50, 46]⟩, .string ⟨#[105, 54, 52, 46]⟩, .string ⟨#[105, 51, 50, 46]⟩] 36))
  have hcell := (Blk.new W2 #[.string ⟨#[102, 54, 52, 46]⟩, .string ⟨#[102, 51, 50, 46]⟩, .string ⟨#[105, 54, 52, 46]⟩, .string ⟨#[105, 51, 50, 46]⟩] 36).cell 3
  have hm3 := pw_cell_below ((Below.refl W2.heap.size W2).alloc (Nat.le_refl _) (.cells #[.string ⟨#[102, 54, 52, 46]⟩, .string ⟨#[102, 51, 50, 46]⟩, .string ⟨#[105, 54, 52, 46]⟩, .string ⟨#[105, 51, 50, 46]⟩] 36)) hm2
  have HZ := Lib.hid (show (W2.alloc (.cells #[.string ⟨#[102, 54, 52, 46]⟩, .string ⟨#[102, 51, 50, 46]⟩, .string ⟨#[105, 54, 52, 46]⟩, .string ⟨#[105, 51, 50, 46]⟩] 36)).heap.size = W2.heap.size + 1 from World.size_alloc _ _)
  have HSZ := Lib.hid hB0.size
  clear hB hB2 hB0
  go_wp2_with fail
  refine (HN.out _ (by exact hm3)).mono ?_
  rintro E W3 ⟨rfl, hB3⟩
  have hc3 := pw_cell_below hB3 hcell
  have HB3 := Lib.hid (HB0.out.trans (hB3.mono (by have := HZ.out; have := HSZ.out; omega)))
  clear hm2 hm3 hB3 hcell
  go_wp2_with fail
  refine (HI.out _).mono ?_
  rintro E W4 ⟨rfl, hB4⟩
  have hc4 : W4.cell? ⟨W2.heap.size, 3, none⟩ = some (.string ⟨#[105, 51, 50, 46]⟩) := pw_cell_below hB4 hc3
  have HB4 := Lib.hid (below_from HB3.out hB4)
  clear hB4 hc3
  go_upto_region 12 with fail
  go_quiet (fail)
  go_wp2_with fail
  go_ret
  exact ⟨rfl, below_drewN HB4.out _⟩
theorem kinds_any (mx op : Int) (W : World) (h0 : -9223372036854775808 ≤ op) (h1 : op ≤ 9223372036854775807) (hm : W.cell? ⟨0, 0, none⟩ = some (.int .i64 mx)) :
    Calls Tryd.prog 4 #[.int .i64 op] W (Yes W) := by
  by_cases ho : 69 ≤ op ∧ op ≤ 191 ∨ 64512 ≤ op ∧ op ≤ 64519
  · obtain ⟨ht, ⟨hl, hl2⟩, hx, hi⟩ := kGood_any ho
    have hok : (kindM op).2.2.2 = true := by rw [kindM_ok]; exact decide_eq_true ho
    obtain ⟨s, hs⟩ : ∃ s, nameM op = s := ⟨_, rfl⟩
    rw [hs] at hl hl2 hx
    obtain ⟨⟨r1, r2, r3, r4⟩, hk⟩ : ∃ r, kindM op = r := ⟨_, rfl⟩
    rw [hk] at hok
    obtain rfl : r4 = true := hok
    by_cases hc : 69 ≤ op ∧ op ≤ 102
    · rw [show kT op = r1 by rw [kT, if_pos hc, hk]] at ht hx
      have : r1 = 124 ∨ r1 = 125 ∨ r1 = 126 ∨ r1 = 127 := by omega
      rcases this with h | h | h | h
      · exact kinds_124_0 mx op W s r1 r2 r3 h0 h1 hm hk hc.1 hc.2 h hs hl hl2 (by rw [hx, h]; rfl) hi
      · exact kinds_125_0 mx op W s r1 r2 r3 h0 h1 hm hk hc.1 hc.2 h hs hl hl2 (by rw [hx, h]; rfl) hi
      · exact kinds_126_0 mx op W s r1 r2 r3 h0 h1 hm hk hc.1 hc.2 h hs hl hl2 (by rw [hx, h]; rfl) hi
      · exact kinds_127_0 mx op W s r1 r2 r3 h0 h1 hm hk hc.1 hc.2 h hs hl hl2 (by rw [hx, h]; rfl) hi
    · rw [show kT op = r3 by rw [kT, if_neg hc, hk]] at ht hx
      have : r3 = 124 ∨ r3 = 125 ∨ r3 = 126 ∨ r3 = 127 := by omega
      have c1 : 69 ≤ op := by omega
      have c2 : 102 < op := by omega
      rcases this with h | h | h | h
      · exact kinds_124_1 mx op W s r1 r2 r3 h0 h1 hm hk c1 c2 h hs hl hl2 (by rw [hx, h]; rfl) hi
      · exact kinds_125_1 mx op W s r1 r2 r3 h0 h1 hm hk c1 c2 h hs hl hl2 (by rw [hx, h]; rfl) hi
      · exact kinds_126_1 mx op W s r1 r2 r3 h0 h1 hm hk c1 c2 h hs hl hl2 (by rw [hx, h]; rfl) hi
      · exact kinds_127_1 mx op W s r1 r2 r3 h0 h1 hm hk c1 c2 h hs hl hl2 (by rw [hx, h]; rfl) hi
  · exact kinds_no mx op W h0 h1 hm (by rw [kindM_ok]; exact decide_eq_false ho)
end Go.Proofs.YtfndlpfceokloaaDoor
