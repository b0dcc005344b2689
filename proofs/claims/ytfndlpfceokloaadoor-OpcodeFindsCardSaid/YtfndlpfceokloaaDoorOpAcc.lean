/- Lemmas towards this claim's statement: what the functions named here come to, each under the conditions that it states itself. -/
import Derived.Test.YtfndlpfceokloaaDoorOpName
import Derived.Test.YtfndlpfceokloaaDoorNum3
namespace Go.Proofs.YtfndlpfceokloaaDoorB
open Go.RowKit
def kindV (s : ByteArray) : Int := if (s.extract 0 3).toList = [105, 51, 50] then 127 else if (s.extract 0 3).toList = [105, 54, 52] then 126 else if (s.extract 0 3).toList = [102, 51, 50] then 125 else 124
/-- How many bytes are moved. -/
def accN (t : Int) (b3 b4 b5 : Bool) : Int := if b3 = true then 1 else if b4 = true then 2 else if b5 = false ∧ (t = 126 ∨ t = 124) then 8 else 4
end Go.Proofs.YtfndlpfceokloaaDoorB
namespace Go.Proofs.YtfndlpfceokloaaDoor
open Go.RowKit Go.Shelf YtfndlpfceokloaaDoorB Go.Proofs.YtfndlpfceokloaaDoorW.PrintWords
set_option maxRecDepth 100000 in
theorem kind_any (s : ByteArray) (w : World) (h3 : 3 ≤ s.size) (hs : s.size ≤ 1000) : Calls Tryd.prog 22 #[.string s] w fun e w' => e = .returned (.int .u8 (kindV s)) ∧ w = w' := by
  have h3' : (3 : Int) ≤ (s.size : Int) := by omega
  by_cases c1 : (s.extract 0 3).toList = [105, 51, 50]
  · have HV := Lib.hid (show kindV s = 127 from if_pos c1)
    have d1 := beq_iff_eq.2 c1
    clear c1
    go_enter Tryd.func22, Tryd.ntmps22
    go_wp2
    go_ret
    exact ⟨by rw [HV.out]; rfl, rfl⟩
  by_cases c2 : (s.extract 0 3).toList = [105, 54, 52]
  · have HV := Lib.hid (show kindV s = 126 from by rw [kindV, if_neg c1, if_pos c2])
    have d1 := beq_eq_false_iff_ne.2 c1
    have d2 := beq_iff_eq.2 c2
    clear c1 c2
    go_enter Tryd.func22, Tryd.ntmps22
    go_wp2
    go_ret
    exact ⟨by rw [HV.out]; rfl, rfl⟩
  by_cases c3 : (s.extract 0 3).toList = [102, 51, 50]
  · have HV := Lib.hid (show kindV s = 125 from by rw [kindV, if_neg c1, if_neg c2, if_pos c3])
    have d1 := beq_eq_false_iff_ne.2 c1
    have d2 := beq_eq_false_iff_ne.2 c2
    have d3 := beq_iff_eq.2 c3
    clear c1 c2 c3
    go_enter Tryd.func22, Tryd.ntmps22
    go_wp2
    go_ret
    exact ⟨by rw [HV.out]; rfl, rfl⟩
  · have HV := Lib.hid (show kindV s = 124 from by rw [kindV, if_neg c1, if_neg c2, if_neg c3])
    have d1 := beq_eq_false_iff_ne.2 c1
    have d2 := beq_eq_false_iff_ne.2 c2
    have d3 := beq_eq_false_iff_ne.2 c3
    clear c1 c2 c3
    go_enter Tryd.func22, Tryd.ntmps22
    go_wp2
    go_ret
    exact ⟨by rw [HV.out]; rfl, rfl⟩
theorem set4 {W : World} {g : Nat} {t : TypeId} {a0 a1 a2 a3 : Value} (h : Blk W g #[a0, a1, a2, a3] t) (v0 v1 v2 v3 : Value) :
    let X := ((((W.setCell ⟨g, 0, none⟩ v0).setCell ⟨g, 1, none⟩ v1).setCell ⟨g, 2, none⟩ v2).setCell ⟨g, 3, none⟩ v3)
    X.cell? ⟨g, 0, none⟩ = some v0 ∧ X.cell? ⟨g, 1, none⟩ = some v1 ∧ X.cell? ⟨g, 2, none⟩ = some v2 ∧ X.cell? ⟨g, 3, none⟩ = some v3 := by
  have hb : Blk ((((W.setCell ⟨g, 0, none⟩ v0).setCell ⟨g, 1, none⟩ v1).setCell ⟨g, 2, none⟩ v2).setCell ⟨g, 3, none⟩ v3) g #[v0, v1, v2, v3] t := by
    have := (((h.set 0 v0).set 1 v1).set 2 v2).set 3 v3
    simpa using this
  exact ⟨by rw [hb.cell]; rfl, by rw [hb.cell]; rfl, by rw [hb.cell]; rfl, by rw [hb.cell]; rfl⟩
def AccPost (w : World) (t n : Int) (sg st ok : Bool) (e : Ending) (w' : World) : Prop := e = .returned (.tuple #[.agg #[.int .u8 t, .int .i64 n, .bool sg, .bool st], .bool ok]) ∧ Below w.heap.size w w'
set_option maxRecDepth 100000 in
set_option maxHeartbeats 1000000 in
theorem Access_no (op : Int) (w : World) (h0 : -9223372036854775808 ≤ op) (h1 : op ≤ 9223372036854775807) (h : (immM op).1 ≠ 6) : Calls Tryd.prog 11 #[.int .i64 op] w (AccPost w 0 0 false false false) := by
  have HI := Lib.hid (fun X => Imm_all X op h0 h1)
  have hn : ((immM op).1 != 6) = true := by simpa using h
  generalize immM op = r at *
  obtain ⟨r1, r2⟩ := r
  simp only at hn
  clear h
  go_enter Tryd.func11, Tryd.ntmps11
  go_wp2_with fail
  refine (HI.out _).mono ?_
  rintro e1 W1 ⟨rfl, hB1⟩
  have hB0 := ((Below.refl w.heap.size w).alloc (Nat.le_refl _) (.cells #[.int .u8 0, .int .i64 0, .bool false, .bool false] 28)).trans (hB1.mono (by simp))
  have hb := (Blk.new w #[.int .u8 0, .int .i64 0, .bool false, .bool false] 28).below hB1 (by simp)
  have c0 := hb.cell 0
  have c1 := hb.cell 1
  have c2 := hb.cell 2
  have c3 := hb.cell 3
  have f0 := hb.frozen 0
  have f1 := hb.frozen 1
  have f2 := hb.frozen 2
  have f3 := hb.frozen 3
  have hlt := hb.lt
  simp at c0 c1 c2 c3
  go_wp2_with fail
  obtain ⟨e0, e1, e2, e3⟩ := set4 hb (.int .u8 0) (.int .i64 0) (.bool false) (.bool false)
  exact bodyPost_ret (v := .tuple #[.agg #[.int .u8 0, .int .i64 0, .bool false, .bool false], .bool false]) (by simp [results, Tryd.results11, go_sem, e0, e1, e2, e3]) rfl ⟨rfl, by (repeat (first | exact hB0 | refine Below.setCell ?_ (by first | (simp; done) | (simp; omega)) _ | refine Below.alloc ?_ (by first | (simp; done) | (simp [World.setCell]; omega)) _))⟩
set_option maxRecDepth 100000 in
set_option maxHeartbeats 2000000 in
theorem Access_yes (mx op : Int) (s : ByteArray) (w : World) (t : Int) (b1 b2 b3 b4 b5 : Bool) (h : (immM op).1 = 6) (h0 : -9223372036854775808 ≤ op) (h1 : op ≤ 9223372036854775807) (hm : w.cell? ⟨0, 0, none⟩ = some (.int .i64 mx)) (hs : nameM op = s) (hl : 4 ≤ s.size) (hl2 : s.size ≤ 1000)
    (ht : kindV s = t) (k1 : Lib.hasSuffix s.data.toList [95, 115] = b1) (k2 : Lib.contains s.data.toList [115, 116, 111, 114, 101] = b2) (k3 : Lib.contains (s.extract 4 s.size).data.toList [56] = b3) (k4 : Lib.contains (s.extract 4 s.size).data.toList [49, 54] = b4) (k5 : Lib.contains (s.extract 4 s.size).data.toList [51, 50] = b5) :
    Calls Tryd.prog 11 #[.int .i64 op] w (AccPost w t (accN t b3 b4 b5) b1 b2 true) := by
  have hw0 : 0 < w.heap.size := World.block_lt_of_cell? _ _ hm
  have HI := Lib.hid (fun X => Imm_all X op h0 h1)
  have HN := Lib.hid (fun X (hX : X.cell? ⟨0, 0, none⟩ = some (.int .i64 mx)) => by rw [hs.symm]; exact Name_any mx op X hX : ∀ X, X.cell? ⟨0, 0, none⟩ = some (.int .i64 mx) → Calls Tryd.prog 9 #[.int .i64 op] X fun e W' => e = .returned (.string s) ∧ Below X.heap.size X W')
  have HK := Lib.hid (show ∀ X, Calls Tryd.prog 22 #[.string s] X fun e w' => e = .returned (.int .u8 t) ∧ X = w' from fun X => by rw [← ht]; exact kind_any s X (by omega) hl2)
  have HS := Lib.hid (show ∀ X, Calls Tryd.prog 23 #[.string s, .string ⟨#[95, 115]⟩] X fun e w' => e = .returned (.bool b1) ∧ X = w' from fun X => (Tryd.strings_HasSuffix s ⟨#[95, 115]⟩ X (by omega)).mono (by rintro e w' ⟨rfl, rfl⟩; exact ⟨by rw [← k1], rfl⟩))
  have HC := Lib.hid (show ∀ X, X.cell? ⟨0, 0, none⟩ = some (.int .i64 mx) → Calls Tryd.prog 24 #[.string s, .string ⟨#[115, 116, 111, 114, 101]⟩] X fun e w' => e = .returned (.bool b2) ∧ X = w' from fun X hX => (Tryd.strings_Contains s ⟨#[115, 116, 111, 114, 101]⟩ mx X (by omega) hX).mono (by rintro e w' ⟨rfl, rfl⟩; exact ⟨by rw [← k2], rfl⟩))
  have hsz : (s.extract 4 s.size).size ≤ 1000 := by simp; omega
  have HC8 := Lib.hid (show ∀ X, X.cell? ⟨0, 0, none⟩ = some (.int .i64 mx) → Calls Tryd.prog 24 #[.string (s.extract 4 s.size), .string ⟨#[56]⟩] X fun e w' => e = .returned (.bool b3) ∧ X = w' from fun X hX => (Tryd.strings_Contains _ ⟨#[56]⟩ mx X (by omega) hX).mono (by rintro e w' ⟨rfl, rfl⟩; exact ⟨by rw [← k3], rfl⟩))
  have HC16 := Lib.hid (show ∀ X, X.cell? ⟨0, 0, none⟩ = some (.int .i64 mx) → Calls Tryd.prog 24 #[.string (s.extract 4 s.size), .string ⟨#[49, 54]⟩] X fun e w' => e = .returned (.bool b4) ∧ X = w' from fun X hX => (Tryd.strings_Contains _ ⟨#[49, 54]⟩ mx X (by omega) hX).mono (by rintro e w' ⟨rfl, rfl⟩; exact ⟨by rw [← k4], rfl⟩))
  have HC32 := Lib.hid (show ∀ X, X.cell? ⟨0, 0, none⟩ = some (.int .i64 mx) → Calls Tryd.prog 24 #[.string (s.extract 4 s.size), .string ⟨#[51, 50]⟩] X fun e w' => e = .returned (.bool b5) ∧ X = w' from fun X hX => (Tryd.strings_Contains _ ⟨#[51, 50]⟩ mx X (by omega) hX).mono (by rintro e w' ⟨rfl, rfl⟩; exact ⟨by rw [← k5], rfl⟩))
  have hn : ((immM op).1 != 6) = false := by simp [h]
  have hl' : (4 : Int) ≤ (s.size : Int) := by omega
  generalize immM op = r at *
  obtain ⟨r1, r2⟩ := r
  simp only at hn
  clear h hs ht k1 k2 k3 k4 k5 hsz hl
  have hB00 := (Below.refl w.heap.size w).alloc (Nat.le_refl _) (.cells #[.int .u8 0, .int .i64 0, .bool false, .bool false] 28)
  go_enter Tryd.func11, Tryd.ntmps11
  go_wp2_with fail
  refine (HI.out _).mono ?_
  rintro e1 W1 ⟨rfl, hB1⟩
  have hB0 := hB00.trans (hB1.mono (by simp))
  have hb := (Blk.new w #[.int .u8 0, .int .i64 0, .bool false, .bool false] 28).below hB1 (by simp)
  have hm1 := pw_cell_below hB0 hm
  clear hB1 hB00
  go_wp2_with fail
  refine (HN.out _ (by exact hm1)).mono ?_
  rintro e2 W2 ⟨rfl, hB2⟩
  have hB02 := below_from hB0 hB2
  have hb2 := hb.below hB2 hb.lt
  have hm2 := pw_cell_below hB02 hm
  clear hB2 hB0 hm1 hb HN HI hm
  go_wp2_with (first
    | (go_at_call 22; refine (HK.out _).mono ?_; rintro e w' ⟨rfl, rfl⟩)
    | (go_at_call 23; refine (HS.out _).mono ?_; rintro e w' ⟨rfl, rfl⟩)
    | (go_at_call_of 24 (Value.string s); refine (HC.out _ hm2).mono ?_; rintro e w' ⟨rfl, rfl⟩))
  have hb3 := hb2.alloc (.cells #[.int .u8 t, .int .i64 4, .bool b1, .bool b2] 28)
  have hx3 := Blk.new W2 #[.int .u8 t, .int .i64 4, .bool b1, .bool b2] 28
  have hm3 := pw_cell_below ((Below.refl W2.heap.size W2).alloc (Nat.le_refl _) (.cells #[.int .u8 t, .int .i64 4, .bool b1, .bool b2] 28)) hm2
  have hB3 := hB02.alloc hB02.size (.cells #[.int .u8 t, .int .i64 4, .bool b1, .bool b2] 28)
  have hlt2 := hb2.lt
  have hs3 : (W2.alloc (.cells #[.int .u8 t, .int .i64 4, .bool b1, .bool b2] 28)).heap.size = W2.heap.size + 1 := World.size_alloc _ _
  generalize W2.alloc (.cells #[.int .u8 t, .int .i64 4, .bool b1, .bool b2] 28) = W3 at *
  obtain ⟨g2, hg2⟩ : ∃ g2, W2.heap.size = g2 := ⟨_, rfl⟩
  rw [hg2] at hx3 hlt2 hs3 ⊢
  clear hg2 hb2 hB02 hm2
  have x0 := hx3.cell 0
  have x1 := hx3.cell 1
  have x2 := hx3.cell 2
  have x3 := hx3.cell 3
  have xf := hx3.frozen 1
  simp at x0 x1 x2 x3
  have r0 := hb3.cell 0
  have r1' := hb3.cell 1
  have r2' := hb3.cell 2
  have r3 := hb3.cell 3
  have s0 := hb3.frozen 0
  have s1 := hb3.frozen 1
  have s2 := hb3.frozen 2
  have s3 := hb3.frozen 3
  simp at r0 r1' r2' r3
  have H8 := Lib.hid (HC8.out _ hm3)
  have H16 := Lib.hid (HC16.out _ hm3)
  have H32 := Lib.hid (HC32.out _ hm3)
  have HB3 := Lib.hid hb3
  have HBB := Lib.hid hB3
  have hne : w.heap.size ≠ g2 := by omega
  clear HC8 HC16 HC32 hm3 hx3 hb3 hB3
  have key : ∀ (n : Int) X, accN t b3 b4 b5 = n → Blk X w.heap.size #[.int .u8 0, .int .i64 0, .bool false, .bool false] 28 → Below w.heap.size w X → ∀ (a : Act), a.tmps[2]? = some (.pointer (some ⟨w.heap.size, 0, none⟩)) → a.tmps[3]? = some (.bool true) → a.defers = [] →
      bodyPost Tryd.prog Tryd.f11 (AccPost w t (accN t b3 b4 b5) b1 b2 true) .ret a ((((X.setCell ⟨w.heap.size, 0, none⟩ (.int .u8 t)).setCell ⟨w.heap.size, 1, none⟩ (.int .i64 n)).setCell ⟨w.heap.size, 2, none⟩ (.bool b1)).setCell ⟨w.heap.size, 3, none⟩ (.bool b2)) := fun n X hn hb hB a h2 h3 hd => by
    obtain ⟨e0, e1, e2, e3⟩ := set4 hb (.int .u8 t) (.int .i64 n) (.bool b1) (.bool b2)
    obtain ⟨tmps, defers⟩ := a
    simp only at h2 h3 hd
    subst hd
    exact bodyPost_ret (v := .tuple #[.agg #[.int .u8 t, .int .i64 n, .bool b1, .bool b2], .bool true]) (by simp [results, Tryd.results11, go_sem, e0, e1, e2, e3, h2, h3]) rfl ⟨by rw [hn], by (repeat (first | exact hB | refine Below.setCell ?_ (by first | (simp; done) | (simp; omega)) _ | refine Below.alloc ?_ (by first | (simp; done) | (simp [World.setCell]; omega)) _))⟩
  have KEY := Lib.hid key
  clear key
  have hbs := Lib.hid (fun v : Int => (⟨HB3.out.set_other ⟨g2, 1, none⟩ (.int .i64 v) hne, HBB.out.setCell (p := ⟨g2, 1, none⟩) (by simp; omega) (.int .i64 v)⟩ : Blk (W3.setCell ⟨g2, 1, none⟩ (.int .i64 v)) w.heap.size #[.int .u8 0, .int .i64 0, .bool false, .bool false] 28 ∧ Below w.heap.size w (W3.setCell ⟨g2, 1, none⟩ (.int .i64 v))))
  cases b3
  case true =>
    go_wp2_with (go_at_call_of 24 (Value.string ⟨#[56]⟩); refine H8.out.mono ?_; rintro e w' ⟨rfl, rfl⟩)
    exact KEY.out 1 _ rfl (hbs.out 1).1 (hbs.out 1).2 _ rfl rfl rfl
  case false =>
  cases b4
  case true =>
    go_wp2_with (first
      | (go_at_call_of 24 (Value.string ⟨#[56]⟩); refine H8.out.mono ?_; rintro e w' ⟨rfl, rfl⟩)
      | (go_at_call_of 24 (Value.string ⟨#[49, 54]⟩); refine H16.out.mono ?_; rintro e w' ⟨rfl, rfl⟩))
    exact KEY.out 2 _ rfl (hbs.out 2).1 (hbs.out 2).2 _ rfl rfl rfl
  case false =>
  cases b5
  case true =>
    go_wp2_with (first
      | (go_at_call_of 24 (Value.string ⟨#[56]⟩); refine H8.out.mono ?_; rintro e w' ⟨rfl, rfl⟩)
      | (go_at_call_of 24 (Value.string ⟨#[49, 54]⟩); refine H16.out.mono ?_; rintro e w' ⟨rfl, rfl⟩)
      | (go_at_call_of 24 (Value.string ⟨#[51, 50]⟩); refine H32.out.mono ?_; rintro e w' ⟨rfl, rfl⟩))
    exact KEY.out 4 _ rfl HB3.out HBB.out _ rfl rfl rfl
  case false =>
  by_cases t1 : t = 126
  · subst t1
    go_wp2_with (first
      | (go_at_call_of 24 (Value.string ⟨#[56]⟩); refine H8.out.mono ?_; rintro e w' ⟨rfl, rfl⟩)
      | (go_at_call_of 24 (Value.string ⟨#[49, 54]⟩); refine H16.out.mono ?_; rintro e w' ⟨rfl, rfl⟩)
      | (go_at_call_of 24 (Value.string ⟨#[51, 50]⟩); refine H32.out.mono ?_; rintro e w' ⟨rfl, rfl⟩))
    exact KEY.out 8 _ rfl (hbs.out 8).1 (hbs.out 8).2 _ rfl rfl rfl
  have n1 : (t == 126) = false := beq_eq_false_iff_ne.2 t1
  by_cases t2 : t = 124
  · subst t2
    clear t1
    go_wp2_with (first
      | (go_at_call_of 24 (Value.string ⟨#[56]⟩); refine H8.out.mono ?_; rintro e w' ⟨rfl, rfl⟩)
      | (go_at_call_of 24 (Value.string ⟨#[49, 54]⟩); refine H16.out.mono ?_; rintro e w' ⟨rfl, rfl⟩)
      | (go_at_call_of 24 (Value.string ⟨#[51, 50]⟩); refine H32.out.mono ?_; rintro e w' ⟨rfl, rfl⟩))
    exact KEY.out 8 _ rfl (hbs.out 8).1 (hbs.out 8).2 _ rfl rfl rfl
  have n2 : (t == 124) = false := beq_eq_false_iff_ne.2 t2
  have HV := Lib.hid (show accN t false false false = 4 from by simp [accN, t1, t2])
  clear t1 t2
  go_wp2_with (first
    | (go_at_call_of 24 (Value.string ⟨#[56]⟩); refine H8.out.mono ?_; rintro e w' ⟨rfl, rfl⟩)
    | (go_at_call_of 24 (Value.string ⟨#[49, 54]⟩); refine H16.out.mono ?_; rintro e w' ⟨rfl, rfl⟩)
    | (go_at_call_of 24 (Value.string ⟨#[51, 50]⟩); refine H32.out.mono ?_; rintro e w' ⟨rfl, rfl⟩))
  exact KEY.out 4 _ HV.out HB3.out HBB.out _ rfl rfl rfl
end Go.Proofs.YtfndlpfceokloaaDoor
