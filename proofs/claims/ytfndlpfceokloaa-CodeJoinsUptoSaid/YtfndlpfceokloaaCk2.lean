/- Lemmas towards this claim's statement: what the functions named here come to, each under the conditions that it states itself. -/
import Derived.Test.YtfndlpfceokloaaCk1
import Derived.Shelf.Abstract
import Derived.Laws.BitsAllLaws
import Derived.Lib.Hide
section
namespace Go.Proofs.Ytfndlpfceokloaa
open Go.RowKit YtfndlpfceokloaaB Go.Proofs.YtfndlpfceokloaaW.PrintWords
theorem three (w : World) (c1 c2 c3 : Array Value) (t1 t2 t3 : TypeId) : let W := ((w.alloc (.cells c1 t1)).alloc (.cells c2 t2)).alloc (.cells c3 t3)
    Blk W w.heap.size c1 t1 ∧ Blk W (w.heap.size + 1) c2 t2 ∧ Blk W (w.heap.size + 1 + 1) c3 t3 ∧ Below w.heap.size w W ∧ W.heap.size = w.heap.size + 3 := by
  refine ⟨((Blk.new _ _ _).alloc _).alloc _, ?_, ?_, ((((Below.refl _ _).alloc (Nat.le_refl _) _).alloc (by simp) _).alloc (by simp; omega) _), by simp⟩
  · have h := (Blk.new (w.alloc (.cells c1 t1)) c2 t2).alloc (.cells c3 t3)
    rw [World.size_alloc] at h
    exact h
  · have h := Blk.new ((w.alloc (.cells c1 t1)).alloc (.cells c2 t2)) c3 t3
    rw [World.size_alloc, World.size_alloc] at h
    exact h
/-- A cost is returned. -/
def CPost (w : World) (k : Bool) (m : Int) (e : Ending) (w' : World) : Prop := ∃ n, e = .returned (.agg #[.int .u64 n, .bool k]) ∧ Hid (n = if k then m else 0) ∧ Below w.heap.size w w'
def OfPost (w : World) (l : List Ins) : Ending → World → Prop := CPost w (knL l) (coL l)
def OnePost (w : World) (x : Ins) : Ending → World → Prop := CPost w (knI x) (coI x)
theorem sum_c (A : Option Addr) (c : Nat) (ps : List (Int × Bool)) (k : Bool) (m : Int) (w : World) (hr : RdP w A ps) (hl : ps.length ≤ 2097152) (hp : ∀ p ∈ ps, 0 ≤ p.1) (hs : sumN ps ≤ 9223372036854775807) (hk : ps.all (·.2) = k) (hm : k = true → sumN ps = m) :
    Calls Try.prog 102 #[.slice A ps.length c] w (CPost w k m) := by
  refine (sum_any A c ps w hr hl hp hs).mono ?_
  rintro e w' ⟨rfl, hB⟩
  refine ⟨_, by rw [costArr, hk], ?_, hB⟩
  show _ = _
  cases k
  · rfl
  · simp [hm rfl]
theorem greater_c (A : Option Addr) (c : Nat) (ps : List (Int × Bool)) (k : Bool) (m : Int) (w : World) (hr : RdP w A ps) (hl : ps.length ≤ 2097152) (hp : ∀ p ∈ ps, 0 ≤ p.1) (hs : ∀ p ∈ ps, p.1 ≤ 9223372036854775807) (hk : ps.all (·.2) = k) (hm : k = true → maxN ps = m) :
    Calls Try.prog 125 #[.slice A ps.length c] w (CPost w k m) := by
  refine (greater_any A c ps w hr hl hp hs).mono ?_
  rintro e w' ⟨rfl, hB⟩
  refine ⟨_, by rw [costArr, hk], ?_, hB⟩
  show _ = _
  cases k
  · rfl
  · simp [hm rfl]
/-- Two costs, just built in a block of their own. -/
theorem RdP.two (w : World) (n1 n2 : Int) (k1 k2 : Bool) (t : TypeId) : RdP (w.alloc (.cells #[.int .u64 n1, .bool k1, .int .u64 n2, .bool k2] t)) (some ⟨w.heap.size, 0, none⟩) [(n1, k1), (n2, k2)] := by
  have h := Blk.new w #[.int .u64 n1, .bool k1, .int .u64 n2, .bool k2] t
  intro j p hj
  refine ⟨_, _, rfl, ?_⟩
  rw [h.cell, h.cell]
  match j, hj with
  | 0, hj => simp at hj; subst hj; exact ⟨rfl, rfl⟩
  | 1, hj => simp at hj; subst hj; exact ⟨rfl, rfl⟩
  | (j + 2), hj => simp at hj
theorem sum_side {n : Int} {k : Bool} {m : Nat} (hn : n = if k then (m : Int) else 0) (hm : m ≤ 1048576) :
    (∀ p ∈ [((1 : Int), true), (n, k)], 0 ≤ p.1) ∧ sumN [((1 : Int), true), (n, k)] ≤ 9223372036854775807 ∧ [((1 : Int), true), (n, k)].all (·.2) = k ∧ (k = true → sumN [((1 : Int), true), (n, k)] = 1 + (m : Int)) := by
  cases k
  · simp at hn; subst hn; exact ⟨by simp, by simp [sumN], by simp, by simp⟩
  · simp at hn; subst hn; exact ⟨by simp, by simp [sumN]; omega, by simp, by simp [sumN]⟩
theorem max_side {n1 n2 : Int} {k1 k2 : Bool} {m1 m2 : Nat} (h1 : n1 = if k1 then (m1 : Int) else 0) (h2 : n2 = if k2 then (m2 : Int) else 0) (hm1 : m1 ≤ 1048576) (hm2 : m2 ≤ 1048576) :
    (∀ p ∈ [(n1, k1), (n2, k2)], 0 ≤ p.1) ∧ (∀ p ∈ [(n1, k1), (n2, k2)], p.1 ≤ 9223372036854775807) ∧ [(n1, k1), (n2, k2)].all (·.2) = (k1 && k2) ∧ ((k1 && k2) = true → maxN [(n1, k1), (n2, k2)] = ((max m1 m2 : Nat) : Int)) := by
  have a1 : 0 ≤ n1 ∧ n1 ≤ m1 := by rw [h1]; split <;> omega
  have a2 : 0 ≤ n2 ∧ n2 ≤ m2 := by rw [h2]; split <;> omega
  refine ⟨?_, ?_, by simp, ?_⟩
  · intro p hp; simp at hp; rcases hp with rfl | rfl <;> simp <;> omega
  · intro p hp; simp at hp; rcases hp with rfl | rfl <;> simp <;> omega
  · intro hk
    simp only [Bool.and_eq_true] at hk
    simp [hk.1, hk.2] at h1 h2
    subst h1; subst h2
    simp [maxN]; omega
set_option maxRecDepth 100000 in
set_option maxHeartbeats 4000000 in
theorem one_any (x : Ins) (hbk : bkI x ≤ 1048576) (IH : ∀ (l : List Ins), bkL l < bkI x → ∀ (w : World) (A : Option Addr) (c : Nat), kI.C w A l.length l → Calls Try.prog 69 #[.slice A l.length c] w (OfPost w l))
    (w : World) (AL AT AE : Option Addr) (cL cT cE : Nat) (hT : kI.C w AT x.th.length x.th) (hE : kI.C w AE x.el.length x.el) :
    Calls Try.prog 101 #[.agg (insCells x AL AT AE cL cT cE)] w (OnePost w x) := by
  have hIH := Lib.hid IH
  have hbt := bkL_th x
  have hbe := bkL_el x
  have hTl := Lib.hid hT
  have hEl := Lib.hid hE
  clear IH hT hE
  obtain ⟨op, ty, a, b, bits, list, th, el, has⟩ := x
  simp only [insCells, Ins.op, Ins.ty, Ins.a, Ins.b, Ins.bits, Ins.list, Ins.th, Ins.el, Ins.has] at *
  generalize hx : Ins.mk op ty a b bits list th el has = x at *
  by_cases h3 : op = 3 ∨ op = 16 ∨ op = 17
  · have HF := Lib.hid (show knI x = false from by rw [← hx, knI]; rcases h3 with rfl | rfl | rfl <;> rfl)
    have HP := Lib.hid (show ∀ w', Below w.heap.size w w' → OnePost w x (.returned (.agg #[.int .u64 0, .bool false])) w' from fun w' hB => by rw [OnePost, HF.out]; exact ⟨_, rfl, rfl, hB⟩)
    clear hx hTl hEl hIH
    rcases h3 with rfl | rfl | rfl
    all_goals
      go_enter Try.func101, Try.ntmps101
      go_wp2_with fail
      refine (none_any _).mono ?_
      rintro e wn ⟨rfl, hBn⟩
      obtain ⟨-, hR, -, hB3, hs3⟩ := three w #[.int .i64 _, .int .u8 ty, .int .u32 a, .int .u32 b, .int .u64 bits, .slice AL list.length cL, .slice AT th.length cT, .slice AE el.length cE, .bool has] #[.int .u64 0, .bool false] #[.int .u64 1, .bool true] 160 176 176
      have hRn := hR.below hBn (by rw [hs3]; omega)
      have hB4 := hB3.trans (hBn.mono (by rw [hs3]; omega))
      have hnsz := hBn.size
      rw [hs3] at hnsz
      clear hBn hR hB3 hs3
      have r0 : wn.cell? ⟨w.heap.size + 1, 0, none⟩ = some (.int .u64 0) := by rw [hRn.cell]; rfl
      have r1 : wn.cell? ⟨w.heap.size + 1, 1, none⟩ = some (.bool false) := by rw [hRn.cell]; rfl
      have r0f := hRn.frozen 0
      have r1f := hRn.frozen 1
      go_wp2_with fail
      exact bodyPost_ret (v := .agg #[.int .u64 0, .bool false]) (by simp [results, Try.results101, go_sem, r0, r1]) rfl (HP.out _ (by (repeat (first | exact hB4 | refine Below.setCell ?_ (by first | (simp; done) | (simp; omega)) _ | refine Below.alloc ?_ (by first | (simp; done) | (simp [World.setCell]; omega)) _))))
  · by_cases h2 : op = 2
    · subst h2
      have HF := Lib.hid (show knI x = knL th ∧ coI x = 1 + coL th from by rw [← hx, knI, coI]; simp)
      go_enter Try.func101, Try.ntmps101
      go_wp2_with fail
      obtain ⟨hX, hR, hS1, hB3, hs3⟩ := three w #[.int .i64 2, .int .u8 ty, .int .u32 a, .int .u32 b, .int .u64 bits, .slice AL list.length cL, .slice AT th.length cT, .slice AE el.length cE, .bool has] #[.int .u64 0, .bool false] #[.int .u64 1, .bool true] 160 176 176
      have hT3 := Lib.hid (Kd.C_below hTl.out (hB3))
      generalize ((w.alloc _).alloc _).alloc _ = W at *
      clear hTl hEl hx
      have x6 : W.cell? ⟨w.heap.size, 6, none⟩ = some (.slice AT th.length cT) := by rw [hX.cell]; rfl
      have s0 : W.cell? ⟨w.heap.size + 1 + 1, 0, none⟩ = some (.int .u64 1) := by rw [hS1.cell]; rfl
      have s1 : W.cell? ⟨w.heap.size + 1 + 1, 1, none⟩ = some (.bool true) := by rw [hS1.cell]; rfl
      have r0 : W.cell? ⟨w.heap.size + 1, 0, none⟩ = some (.int .u64 0) := by rw [hR.cell]; rfl
      have r1 : W.cell? ⟨w.heap.size + 1, 1, none⟩ = some (.bool false) := by rw [hR.cell]; rfl
      have r0f := hR.frozen 0
      have r1f := hR.frozen 1
      have hct := coL_bk th
      go_region_held3 (fun w' => w'.cell? ⟨w.heap.size, 6, none⟩ = some (.slice AT th.length cT) ∧ w'.cell? ⟨w.heap.size + 1 + 1, 0, none⟩ = some (.int .u64 1) ∧ w'.cell? ⟨w.heap.size + 1 + 1, 1, none⟩ = some (.bool true))
        (first | exact ⟨x6, s0, s1⟩ | exact ⟨p6, p0, p1⟩ | exact ⟨pw_cell_below (w := W.drew) (hB1a _) x6, pw_cell_below (w := W.drew) (hB1a _) s0, pw_cell_below (w := W.drew) (hB1a _) s1⟩ | exact ⟨q6, q0, q1⟩ | exact ⟨by simp [World.cell?_setCell_far, q6], by simp [World.cell?_setCell_far, q0], by simp [World.cell?_setCell_far, q1]⟩)
        (first
          | (go_at_call 69; refine (hIH.out th (by omega) _ AT cT (Kd.C_below hT3.out (Below.refl _ _).drew)).mono ?_; rintro e1 W1 ⟨n1, rfl, hn1, hB1⟩; have p6 := pw_cell_below (w := W.drew) hB1 x6; have p0 := pw_cell_below (w := W.drew) hB1 s0; have p1 := pw_cell_below (w := W.drew) hB1 s1; have hB1a := fun o' => hB1.alloc hB1.size o'; obtain ⟨y1, y2, y3, y4⟩ := sum_side hn1.out (by omega))
          | (go_at_call 102; refine (sum_c (some ⟨W1.heap.size, 0, none⟩) 2 [(1, true), (n1, knL th)] (knL th) (1 + (coL th : Int)) _ (RdP.two W1 1 n1 true (knL th) _) (by simp) y1 y2 y3 y4).mono ?_; rintro e2 W2 ⟨n2, rfl, hn2, hB2⟩; have hB3' := (hB1a _).trans (hB2.mono (hB1a _).size); have q6 := pw_cell_below (w := W.drew) hB3' x6; have q0 := pw_cell_below (w := W.drew) hB3' s0; have q1 := pw_cell_below (w := W.drew) hB3' s1; have hR2 := Blk.below (w := W.drew) hR hB3' hR.lt; have r0 : W2.cell? ⟨w.heap.size + 1, 0, none⟩ = some (.int .u64 0) := (by rw [hR2.cell]; rfl); have r1 : W2.cell? ⟨w.heap.size + 1, 1, none⟩ = some (.bool false) := (by rw [hR2.cell]; rfl); have r0f := hR2.frozen 0; have r1f := hR2.frozen 1; have hB4 := (hB3.drew).trans (hB3'.mono hB3.size)))
      go_wp2_with fail
      exact bodyPost_ret (v := .agg #[.int .u64 n2, .bool (knL th)]) (by simp [results, Try.results101, go_sem, r0, r1]) rfl (by rw [OnePost, HF.out.1, HF.out.2]; exact ⟨_, rfl, by rw [Int.natCast_add]; exact hn2, by (repeat (first | exact hB4 | refine Below.setCell ?_ (by first | (simp; done) | (simp; omega)) _ | refine Below.alloc ?_ (by first | (simp; done) | (simp [World.setCell]; omega)) _))⟩)
    · by_cases h4 : op = 4
      · subst h4
        have HF := Lib.hid (show knI x = (knL th && knL el) ∧ coI x = 1 + max (coL th) (coL el) from by rw [← hx, knI, coI]; simp)
        go_enter Try.func101, Try.ntmps101
        go_wp2_with fail
        obtain ⟨hX, hR, hS1, hB3, hs3⟩ := three w #[.int .i64 4, .int .u8 ty, .int .u32 a, .int .u32 b, .int .u64 bits, .slice AL list.length cL, .slice AT th.length cT, .slice AE el.length cE, .bool has] #[.int .u64 0, .bool false] #[.int .u64 1, .bool true] 160 176 176
        have hT3 := Lib.hid (Kd.C_below hTl.out (hB3))
        have hE3 := Lib.hid (Kd.C_below hEl.out (hB3))
        generalize ((w.alloc _).alloc _).alloc _ = W at *
        clear hTl hEl hx
        have x6 : W.cell? ⟨w.heap.size, 6, none⟩ = some (.slice AT th.length cT) := by rw [hX.cell]; rfl
        have x7 : W.cell? ⟨w.heap.size, 7, none⟩ = some (.slice AE el.length cE) := by rw [hX.cell]; rfl
        have s0 : W.cell? ⟨w.heap.size + 1 + 1, 0, none⟩ = some (.int .u64 1) := by rw [hS1.cell]; rfl
        have s1 : W.cell? ⟨w.heap.size + 1 + 1, 1, none⟩ = some (.bool true) := by rw [hS1.cell]; rfl
        have r0 : W.cell? ⟨w.heap.size + 1, 0, none⟩ = some (.int .u64 0) := by rw [hR.cell]; rfl
        have r1 : W.cell? ⟨w.heap.size + 1, 1, none⟩ = some (.bool false) := by rw [hR.cell]; rfl
        have hct := coL_bk th
        have hce := coL_bk el
        go_region_held3 (fun w' => w'.cell? ⟨w.heap.size, 6, none⟩ = some (.slice AT th.length cT) ∧ w'.cell? ⟨w.heap.size, 7, none⟩ = some (.slice AE el.length cE) ∧ w'.cell? ⟨w.heap.size + 1 + 1, 0, none⟩ = some (.int .u64 1) ∧ w'.cell? ⟨w.heap.size + 1 + 1, 1, none⟩ = some (.bool true))
          (first | exact ⟨x6, x7, s0, s1⟩ | exact ⟨pw_cell_below (w := W.drew) HBx x6, pw_cell_below (w := W.drew) HBx x7, pw_cell_below (w := W.drew) HBx s0, pw_cell_below (w := W.drew) HBx s1⟩ | exact ⟨pw_cell_below (w := W.drew) (HBa _) x6, pw_cell_below (w := W.drew) (HBa _) x7, pw_cell_below (w := W.drew) (HBa _) s0, pw_cell_below (w := W.drew) (HBa _) s1⟩ | exact ⟨by simp [World.cell?_setCell_far, q6], by simp [World.cell?_setCell_far, q7], by simp [World.cell?_setCell_far, q0], by simp [World.cell?_setCell_far, q1]⟩)
          (first
            | (go_at_call_of 69 (Value.slice AT th.length cT); refine (hIH.out th (by omega) _ AT cT (Kd.C_below hT3.out (Below.refl _ _).drew)).mono ?_; rintro e1 W1 ⟨n1, rfl, hn1, hB1⟩; have HBx := hB1)
            | (go_at_call_of 69 (Value.slice AE el.length cE); refine (hIH.out el (by omega) _ AE cE (Kd.C_below (Kd.C_below hE3.out (Below.refl _ _).drew) hB1)).mono ?_; rintro e2 W2 ⟨n2, rfl, hn2, hB2⟩; have HBx := hB1.trans (hB2.mono hB1.size); have HBa := fun o' => HBx.alloc HBx.size o'; obtain ⟨y1, y2, y3, y4⟩ := max_side hn1.out hn2.out (by omega) (by omega))
            | (go_at_call 125; refine (greater_c (some ⟨W2.heap.size, 0, none⟩) 2 [(n1, knL th), (n2, knL el)] (knL th && knL el) ((max (coL th) (coL el) : Nat) : Int) _ (RdP.two W2 n1 n2 (knL th) (knL el) _) (by simp) y1 y2 y3 y4).mono ?_; rintro e3 W3 ⟨n3, rfl, hn3, hB3'⟩; have HBy := (HBa _).trans (hB3'.mono (HBa _).size); clear HBx HBa; have HBx := HBy; have HBa := fun o' => HBx.alloc HBx.size o'; clear HBy; obtain ⟨z1, z2, z3, z4⟩ := sum_side hn3.out (by omega))
            | (go_at_call 102; refine (sum_c (some ⟨W3.heap.size, 0, none⟩) 2 [(1, true), (n3, knL th && knL el)] (knL th && knL el) (1 + ((max (coL th) (coL el) : Nat) : Int)) _ (RdP.two W3 1 n3 true (knL th && knL el) _) (by simp) z1 z2 z3 z4).mono ?_; rintro e4 W4 ⟨n4, rfl, hn4, hB4⟩; have HBy := (HBa _).trans (hB4.mono (HBa _).size); clear HBx HBa; have HBx := HBy; have q6 := pw_cell_below (w := W.drew) HBx x6; have q7 := pw_cell_below (w := W.drew) HBx x7; have q0 := pw_cell_below (w := W.drew) HBx s0; have q1 := pw_cell_below (w := W.drew) HBx s1; have hR2 := Blk.below (w := W.drew) hR HBx hR.lt; have r0 : W4.cell? ⟨w.heap.size + 1, 0, none⟩ = some (.int .u64 0) := (by rw [hR2.cell]; rfl); have r1 : W4.cell? ⟨w.heap.size + 1, 1, none⟩ = some (.bool false) := (by rw [hR2.cell]; rfl); have r0f := hR2.frozen 0; have r1f := hR2.frozen 1; have hB5 := (hB3.drew).trans (HBx.mono hB3.size)))
        go_wp2_with fail
        exact bodyPost_ret (v := .agg #[.int .u64 n4, .bool (knL th && knL el)]) (by simp [results, Try.results101, go_sem, r0, r1]) rfl (by rw [OnePost, HF.out.1, HF.out.2]; exact ⟨_, rfl, by rw [Int.natCast_add]; exact hn4, by (repeat (first | exact hB5 | refine Below.setCell ?_ (by first | (simp; done) | (simp; omega)) _ | refine Below.alloc ?_ (by first | (simp; done) | (simp [World.setCell]; omega)) _))⟩)
      · have HF := Lib.hid (show knI x = true ∧ coI x = 1 from by
          rw [← hx, knI, coI]
          simp only [if_neg h2, if_neg h4]
          simp only [not_or] at h3
          simp [h2, h3, h4])
        have k3 : op ≠ 3 := fun h => h3 (.inl h)
        have k16 : op ≠ 16 := fun h => h3 (.inr (.inl h))
        have k17 : op ≠ 17 := fun h => h3 (.inr (.inr h))
        clear hIH hTl hEl hx h3
        go_enter Try.func101, Try.ntmps101
        go_wp2_with fail
        obtain ⟨hX, hR, hS1, hB3, hs3⟩ := three w #[.int .i64 op, .int .u8 ty, .int .u32 a, .int .u32 b, .int .u64 bits, .slice AL list.length cL, .slice AT th.length cT, .slice AE el.length cE, .bool has] #[.int .u64 0, .bool false] #[.int .u64 1, .bool true] 160 176 176
        exact bodyPost_ret (v := .agg #[.int .u64 1, .bool true]) (by simp [results, Try.results101, go_sem]) rfl (by rw [OnePost, HF.out.1, HF.out.2]; exact ⟨_, rfl, rfl, by (repeat (first | exact (Below.refl _ _) | refine Below.setCell ?_ (by first | (simp; done) | (simp; omega)) _ | refine Below.alloc ?_ (by first | (simp; done) | (simp [World.setCell]; omega)) _))⟩)
end Go.Proofs.Ytfndlpfceokloaa
end
section
namespace Go.Proofs.YtfndlpfceokloaaB
open Go.RowKit Go.Proofs.YtfndlpfceokloaaW.PrintWords
theorem own_block {w : World} {base n sz : Nat} {e : TypeId} {v : Value} {xs : List Value} (h : w.ownsRow base e sz v n xs) {k : Nat} (hk : v.ownBlock = some k) : base ≤ k ∧ k < w.heap.size := by
  obtain ⟨h1, h2⟩ := h
  rcases h2 with ⟨rfl, h0⟩ | ⟨g, cap, cur, rfl, hg, hh, h3, h4, h5, h6⟩
  · cases hk
  · injection hk with hk
    subst hk
    exact ⟨hg, (Array.getElem?_eq_some_iff.1 hh).1⟩
def psOf (l : List Ins) : List (Int × Bool) := l.map (fun x => (if knI x then (coI x : Int) else 0, knI x))
def pCells (ps : List (Int × Bool)) : List Value := ps.flatMap (fun p => [.int .u64 p.1, .bool p.2])
theorem pCells_len (ps : List (Int × Bool)) : (pCells ps).length = ps.length * 2 := by
  induction ps with
  | nil => rfl
  | cons p ps ih => simp only [pCells, List.flatMap_cons, List.length_append, List.length_cons, List.length_nil] at *; omega
theorem pCells_at (ps : List (Int × Bool)) : ∀ (j : Nat) (p : Int × Bool), ps[j]? = some p → (pCells ps)[j * 2]? = some (.int .u64 p.1) ∧ (pCells ps)[j * 2 + 1]? = some (.bool p.2) := by
  induction ps with
  | nil => intro j p h; simp at h
  | cons q ps ih =>
    intro j p h
    cases j with
    | zero => simp at h; subst h; exact ⟨rfl, rfl⟩
    | succ j =>
      have := ih j p (by simpa using h)
      rw [show (j + 1) * 2 = j * 2 + 2 from by omega, show j * 2 + 2 + 1 = (j * 2 + 1) + 2 from by omega]
      exact this
theorem psOf_take {l : List Ins} {j : Nat} {x : Ins} (h : l[j]? = some x) : psOf (l.take (j + 1)) = psOf (l.take j) ++ [(if knI x then (coI x : Int) else 0, knI x)] := by
  rw [List.take_add_one, h]
  simp [psOf]
theorem own_rdP {w : World} {base n : Nat} {e : TypeId} {v : Value} {ps : List (Int × Bool)} (h : w.ownsRow base e 2 v n (pCells ps)) : ∃ A c, v = .slice A ps.length c ∧ ps.length = n ∧ RdP w A ps := by
  have hn : ps.length = n := by have := h.1; rw [pCells_len] at this; omega
  obtain ⟨A, c, rfl, hs⟩ := own_src h
  refine ⟨A, c, by rw [hn], hn, fun j p hj => ?_⟩
  have hjl : j < ps.length := (List.getElem?_eq_some_iff.1 hj).1
  obtain ⟨ad, rfl, hc⟩ := hs (by omega)
  obtain ⟨h1, h2⟩ := h
  rcases h2 with ⟨h0, _⟩ | ⟨g, cap, cur, hv, hg, hh, h3, h4, h5, h6⟩
  · cases h0
  · simp only [Value.slice.injEq, Option.some.injEq] at hv
    obtain ⟨rfl, _⟩ := hv
    obtain ⟨e1, e2⟩ := pCells_at ps j p hj
    have a1 := hc _ _ e1
    have a2 := hc _ _ e2
    rw [add_plain] at a1 a2
    exact ⟨g, 0, rfl, by simpa using a1, by simpa [Nat.add_assoc] using a2⟩
theorem kn_cut (l : List Ins) : ∀ j : Nat, (∀ y ∈ l.take j, stops y.op = false) → knL l = ((l.take j).all knI && knL (l.drop j)) ∧ coL l = ((l.take j).map coI).sum + coL (l.drop j) := by
  induction l with
  | nil => intro j _; simp [knL, coL]
  | cons x l ih =>
    intro j h
    cases j with
    | zero => simp
    | succ j =>
      have hx := h x (by simp)
      obtain ⟨h1, h2⟩ := ih j (fun y hy => h y (by simp [hy]))
      constructor
      · rw [knL, hx, h1]; simp [Bool.and_assoc]
      · rw [coL, hx, h2]; simp; omega
theorem psOf_all (l : List Ins) : (psOf l).all (·.2) = l.all knI := by
  induction l with
  | nil => rfl
  | cons x l ih => simp only [psOf, List.map_cons, List.all_cons] at *; rw [ih]
theorem psOf_nn (l : List Ins) : ∀ p ∈ psOf l, 0 ≤ p.1 := by
  intro p hp
  simp only [psOf, List.mem_map] at hp
  obtain ⟨x, _, rfl⟩ := hp
  simp only
  split <;> omega
theorem psOf_sum (l : List Ins) (h : l.all knI = true) : sumN (psOf l) = ((l.map coI).sum : Nat) := by
  induction l with
  | nil => rfl
  | cons x l ih =>
    simp only [List.all_cons, Bool.and_eq_true] at h
    have := ih h.2
    simp only [psOf, sumN, List.map_cons, List.sum_cons, h.1, if_true] at *
    omega
theorem psOf_le (l : List Ins) : sumN (psOf l) ≤ (bkL l : Int) := by
  induction l with
  | nil => simp [psOf, sumN, bkL]
  | cons x l ih =>
    have := coI_bk x
    rw [bkL]
    simp only [psOf, sumN, List.map_cons, List.sum_cons] at *
    split <;> omega
theorem psOf_stop {l : List Ins} {j : Nat} {x : Ins} (h : l[j]? = some x) (hn : ∀ y ∈ l.take j, stops y.op = false) (hx : stops x.op = true) : (l.take (j + 1)).all knI = knL l ∧ (((l.take (j + 1)).map coI).sum = coL l) := by
  obtain ⟨h1, h2⟩ := kn_cut l j hn
  obtain ⟨hj, hxe⟩ := List.getElem?_eq_some_iff.1 h
  have hd : l.drop j = x :: l.drop (j + 1) := by rw [List.drop_eq_getElem_cons hj, hxe]
  rw [h1, h2, hd, knL, coL, hx, List.take_add_one, h]
  simp
theorem psOf_end {l : List Ins} (hn : ∀ y ∈ l, stops y.op = false) : l.all knI = knL l ∧ (l.map coI).sum = coL l := by
  obtain ⟨h1, h2⟩ := kn_cut l l.length (by rw [List.take_length]; exact hn)
  rw [List.take_length, List.drop_length] at h1 h2
  rw [h1, h2]
  simp [knL, coL]
end Go.Proofs.YtfndlpfceokloaaB
namespace Go.Proofs.Ytfndlpfceokloaa
open Go.RowKit YtfndlpfceokloaaB Go.Proofs.YtfndlpfceokloaaW.PrintWords
theorem infoC : (Try.prog.info? 176).map (fun i => (i.zero, i.size, i.bytes)) = some (some (.agg #[.int .u64 0, .bool false]), 2, 16) := by kernel_rfl
set_option maxRecDepth 100000 in
set_option maxHeartbeats 40000000 in
theorem of_any : ∀ (n : Nat) (l : List Ins), bkL l ≤ n → n ≤ 1048576 → ∀ (w : World) (A : Option Addr) (c : Nat), kI.C w A l.length l → Calls Try.prog 69 #[.slice A l.length c] w (OfPost w l) := by
  intro n
  induction n using Nat.strongRecOn with
  | ind n ih =>
  intro l hbk hn w A c hC
  have hlen := bkL_len l
  have IH := Lib.hid ih
  clear ih
  go_enter Try.func69, Try.ntmps69
  go_wp2_with fail
  go_loopw [3, 8] (fun v k wr => ∃ j : Nat, j ≤ l.length ∧ k = .int .i64 j ∧ wr.ownsRow (w.heap.size + 1) 176 2 v j (pCells (psOf (l.take j))) ∧ Hid (∀ y ∈ l.take j, stops y.op = false) ∧ Blk wr w.heap.size #[.int .u64 0, .bool false] 176 ∧ Below w.heap.size w wr) (fun _ k _ => l.length - (intOf k).toNat)
  case atStart => exact ⟨0, Nat.zero_le _, rfl, own_nil _ _ _ _, by intro y hy; simp at hy, Blk.new _ _ _, (Below.refl _ _).alloc (Nat.le_refl _) _⟩
  case round =>
    obtain ⟨j, hj, rfl, hown, hns, hR, hB⟩ := hrel
    have hsz := hB.size
    by_cases hlt : j < l.length
    · obtain ⟨b, o, x, cs, rfl, hx, hk, hc⟩ := C_at (Kd.C_below hC hB) (by decide) j hlt
      obtain ⟨AL, cL, AT, cT, AE, cE, rfl, g1, g2, g3, g4, g5, hL, hT, hE, l1, l2, l3⟩ := ins_openC hk
      have hz : kI.sz = 9 := rfl
      have d0 := hc 0 _ rfl
      have d1 := hc 1 _ rfl
      have d2 := hc 2 _ rfl
      have d3 := hc 3 _ rfl
      have d4 := hc 4 _ rfl
      have d5 := hc 5 _ rfl
      have d6 := hc 6 _ rfl
      have d7 := hc 7 _ rfl
      have d8 := hc 8 _ rfl
      simp only [hz, Nat.add_zero] at d0 d1 d2 d3 d4 d5 d6 d7 d8
      have hblt : b < wr.heap.size := World.block_lt_of_cell? _ _ d0
      have hbx := bkL_get hx.out
      clear hc hk hz
      have hBl : Below w.heap.size w (wr.alloc (.cells (insCells x AL AT AE cL cT cE) 160)) := hB.alloc (by omega) _
      have hTl := Lib.hid (Kd.C_below hT ((Below.refl wr.heap.size wr).alloc (Nat.le_refl _) (.cells (insCells x AL AT AE cL cT cE) 160)))
      have hEl := Lib.hid (Kd.C_below hE ((Below.refl wr.heap.size wr).alloc (Nat.le_refl _) (.cells (insCells x AL AT AE cL cT cE) 160)))
      have hOl := hown.alloc (.cells (insCells x AL AT AE cL cT cE) 160)
      have hRl := hR.alloc (.cells (insCells x AL AT AE cL cT cE) 160)
      have hW := Blk.new wr (insCells x AL AT AE cL cT cE) 160
      have hsW : (wr.alloc (.cells (insCells x AL AT AE cL cT cE) 160)).heap.size = wr.heap.size + 1 := World.size_alloc _ _
      have hvb := Lib.hid (show ∀ k, u3.ownBlock = some k → w.heap.size + 1 ≤ k ∧ k < wr.heap.size from fun k hk => own_block hown hk)
      go_wp2_with fail
      simp only [insCells] at hW hBl hTl hEl hOl hRl hsW
      generalize hWe : wr.alloc (.cells #[.int .i64 x.op, .int .u8 x.ty, .int .u32 x.a, .int .u32 x.b, .int .u64 x.bits, .slice AL x.list.length cL, .slice AT x.th.length cT, .slice AE x.el.length cE, .bool x.has] 160) = W at *
      clear hWe hown hL hT hE hR
      refine (one_any x (by omega) (fun l' hl' w' A' c' hC' => IH.out (bkL l') (by omega) l' (Nat.le_refl _) (by omega) w' A' c' hC') _ AL AT AE cL cT cE hTl.out hEl.out).mono ?_
      rintro e1 W1 ⟨n1, rfl, hn1, hB1⟩
      have hs1 := hB1.size
      have hO1 := pw_own_below hOl hB1
      have hR1 := hRl.below hB1 hRl.lt
      have hW1 := hW.below hB1 hW.lt
      have hBw1 := hBl.trans (hB1.mono hBl.size)
      clear hTl hEl hOl hRl hW hBl hB1
      have hN := Blk.new W1 #[.int .u64 n1, .bool (knI x)] 176
      have HSRC := Lib.hid (show ∀ jj u, [Value.int .u64 n1, .bool (knI x)][jj]? = some u → (W1.alloc (.cells #[.int .u64 n1, .bool (knI x)] 176)).cell? ((⟨W1.heap.size, 0, none⟩ : Addr).add jj) = some u from fun jj u hu => by rw [add_plain, hN.cell]; simpa using hu)
      obtain ⟨op, hop⟩ : ∃ op, op = x.op := ⟨_, rfl⟩
      have HW := Lib.hid (show ∀ w1, (W1.alloc (.cells #[.int .u64 n1, .bool (knI x)] 176)).grownBy w1 u3.ownBlock → w1.cell? ⟨wr.heap.size, 0, none⟩ = some (.int .i64 op) ∧ Blk w1 w.heap.size #[.int .u64 0, .bool false] 176 ∧ Below w.heap.size w w1 from fun w1 hg => by
        have hne : ∀ k, k < wr.heap.size + 1 → (k = w.heap.size ∨ k = wr.heap.size) → some k ≠ u3.ownBlock := fun k hk hkk e => by
          have := hvb.out k e.symm
          omega
        refine ⟨?_, (hR1.alloc _).grown hg (hne _ (by omega) (.inl rfl)), (hBw1.alloc hBw1.size _).grown hg (by simp; have := hBw1.size; omega) (fun k hk => by have := hvb.out k hk; omega)⟩
        rw [((hW1.alloc _).grown hg (hne _ (by omega) (.inr rfl))).cell, hop]; rfl)
      by_cases hst : stops op = true
      · have hop4 : op = 0 ∨ op = 12 ∨ op = 14 ∨ op = 15 := by simpa [stops, or_assoc] using hst
        obtain ⟨y1, y2⟩ := psOf_stop hx.out hns.out (by rw [← hop]; exact hst)
        have HE := Lib.hid (show pCells (psOf (l.take j)) ++ [.int .u64 n1, .bool (knI x)] = pCells (psOf (l.take (j + 1))) from by rw [psOf_take hx.out, ← hn1.out]; simp [pCells])
        have Y1 := Lib.hid y1
        have Y2 := Lib.hid y2
        have HOP := Lib.hid hop
        clear hst y1 y2 hop
        rcases hop4 with rfl | rfl | rfl | rfl
        all_goals
          go_wp2_with (go_wp2_with (refine wpList_append_src (w.heap.size + 1) rfl (.tmp 12) (.tmp 15) 240 176 (.agg #[.int .u64 0, .bool false]) 2 16 rfl Try.underlying240 infoC rfl (by decide) (by decide) u3 j (pCells (psOf (l.take j))) [.int .u64 n1, .bool (knI x)] (some ⟨W1.heap.size, 0, none⟩) 1 1 rfl rfl (hO1.alloc _) rfl (fun _ => ⟨_, rfl, HSRC.out⟩) (by simp [Value.oneCell']) (by simp; have := hR1.lt; omega) (by omega) ?_; intro v1 w1 hown1 hg1 hat1; obtain ⟨q0, hR2, hB2⟩ := HW.out w1 hg1; clear hg1 hat1); rw [HE.out] at hown1; obtain ⟨A2, c2, rfl, hpl, hRd⟩ := own_rdP hown1)
          refine (sum_c A2 c2 (psOf (l.take (j + 1))) (knL l) (coL l) _ hRd (by rw [hpl]; omega) (psOf_nn _) ?_ ?_ ?_).mono ?_
          · have h1 := psOf_le (l.take (j + 1))
            have h2 := bkL_take l (j + 1)
            omega
          · rw [psOf_all]; exact Y1.out
          · intro hk
            rw [psOf_sum _ (by rw [Y1.out]; exact hk), Y2.out]
          rintro e2 W2 ⟨n2, rfl, hn2, hB3⟩
          have hR3 := hR2.below hB3 hR2.lt
          have hB4 := hB2.trans (hB3.mono hB2.size)
          have r0 : W2.cell? ⟨w.heap.size, 0, none⟩ = some (.int .u64 0) := by rw [hR3.cell]; rfl
          have r1 : W2.cell? ⟨w.heap.size, 1, none⟩ = some (.bool false) := by rw [hR3.cell]; rfl
          have r0f := hR3.frozen 0
          have r1f := hR3.frozen 1
          go_wp2_with fail
          exact bodyPost_ret (v := .agg #[.int .u64 n2, .bool (knL l)]) (by simp [results, Try.results69, go_sem, r0, r1]) rfl ⟨_, rfl, hn2, by (repeat (first | exact hB4 | refine Below.setCell ?_ (by first | (simp; done) | (simp; omega)) _ | refine Below.alloc ?_ (by first | (simp; done) | (simp [World.setCell]; omega)) _))⟩
      · have HNS := Lib.hid (take_all_succ hns.out hx.out (show stops x.op = false from by rw [← hop]; simpa using hst))
        have HE := Lib.hid (show pCells (psOf (l.take j)) ++ [.int .u64 n1, .bool (knI x)] = pCells (psOf (l.take (j + 1))) from by rw [psOf_take hx.out, ← hn1.out]; simp [pCells])
        have k0 : (op == 0) = false := by rw [beq_eq_false_iff_ne]; exact fun h => hst (by rw [h]; rfl)
        have k1 : (op == 12) = false := by rw [beq_eq_false_iff_ne]; exact fun h => hst (by rw [h]; rfl)
        have k2 : (op == 14) = false := by rw [beq_eq_false_iff_ne]; exact fun h => hst (by rw [h]; rfl)
        have k3 : (op == 15) = false := by rw [beq_eq_false_iff_ne]; exact fun h => hst (by rw [h]; rfl)
        clear hst hop
        go_wp2_with (go_wp2_with (refine wpList_append_src (w.heap.size + 1) rfl (.tmp 12) (.tmp 15) 240 176 (.agg #[.int .u64 0, .bool false]) 2 16 rfl Try.underlying240 infoC rfl (by decide) (by decide) u3 j (pCells (psOf (l.take j))) [.int .u64 n1, .bool (knI x)] (some ⟨W1.heap.size, 0, none⟩) 1 1 rfl rfl (hO1.alloc _) rfl (fun _ => ⟨_, rfl, HSRC.out⟩) (by simp [Value.oneCell']) (by simp; have := hR1.lt; omega) (by omega) ?_; intro v1 w1 hown1 hg1 hat1; obtain ⟨q0, hR2, hB2⟩ := HW.out w1 hg1; clear hg1 hat1); rw [HE.out] at hown1)
        go_roundw
        case rel => exact ⟨j + 1, by omega, by go_num, hown1, HNS, hR2, hB2⟩
        case measure => simp [intOf]; omega
    · obtain rfl : j = l.length := by omega
      rw [List.take_length] at hown hns
      obtain ⟨y1, y2⟩ := psOf_end hns.out
      have Y1 := Lib.hid y1
      have Y2 := Lib.hid y2
      clear y1 y2
      obtain ⟨A2, c2, rfl, hpl, hRd⟩ := own_rdP hown
      have HPL := Lib.hid hpl
      clear hpl hown
      go_wp2_with fail
      refine (sum_c A2 c2 (psOf l) (knL l) (coL l) _ hRd (by rw [HPL.out]; omega) (psOf_nn _) ?_ ?_ ?_).mono ?_
      · have h1 := psOf_le l
        omega
      · rw [psOf_all]; exact Y1.out
      · intro hk
        rw [psOf_sum _ (by rw [Y1.out]; exact hk), Y2.out]
      rintro e2 W2 ⟨n2, rfl, hn2, hB3⟩
      have hR3 := hR.below hB3 hR.lt
      have hB4 := hB.trans (hB3.mono hB.size)
      have r0 : W2.cell? ⟨w.heap.size, 0, none⟩ = some (.int .u64 0) := by rw [hR3.cell]; rfl
      have r1 : W2.cell? ⟨w.heap.size, 1, none⟩ = some (.bool false) := by rw [hR3.cell]; rfl
      have r0f := hR3.frozen 0
      have r1f := hR3.frozen 1
      go_wp2_with fail
      exact bodyPost_ret (v := .agg #[.int .u64 n2, .bool (knL l)]) (by simp [results, Try.results69, go_sem, r0, r1]) rfl ⟨_, rfl, hn2, by (repeat (first | exact hB4 | refine Below.setCell ?_ (by first | (simp; done) | (simp; omega)) _ | refine Below.alloc ?_ (by first | (simp; done) | (simp [World.setCell]; omega)) _))⟩
end Go.Proofs.Ytfndlpfceokloaa
end
section
namespace Go.Proofs.Ytfndlpfceokloaa
open Go.RowKit YtfndlpfceokloaaB Go.Proofs.YtfndlpfceokloaaW.PrintWords
def OfPost2 (w : World) (l : List Ins) (e : Ending) (w' : World) : Prop := ∃ n : Int, e = .returned (.tuple #[.int .u64 n, .bool (knL l)]) ∧ Hid (n = if knL l then (coL l : Int) else 0) ∧ Below w.heap.size w w'
set_option maxHeartbeats 1000000 in
theorem Of_any (l : List Ins) (hbk : bkL l ≤ 1048576) (w : World) (A : Option Addr) (c : Nat) (hC : kI.C w A l.length l) :
    Calls Try.prog 29 #[.slice A l.length c] w (OfPost2 w l) := by
  go_enter Try.func29, Try.ntmps29
  go_wp2_with fail
  refine (of_any _ l (Nat.le_refl _) hbk _ A c hC).mono ?_
  rintro e1 W1 ⟨n1, rfl, hn1, hB1⟩
  have hN := Blk.new W1 #[.int .u64 n1, .bool (knL l)] 176
  have x0 : (W1.alloc (.cells #[.int .u64 n1, .bool (knL l)] 176)).cell? ⟨W1.heap.size, 0, none⟩ = some (.int .u64 n1) := by rw [hN.cell]; rfl
  have x1 : (W1.alloc (.cells #[.int .u64 n1, .bool (knL l)] 176)).cell? ⟨W1.heap.size, 1, none⟩ = some (.bool (knL l)) := by rw [hN.cell]; rfl
  have hB2 := hB1.alloc hB1.size (.cells #[.int .u64 n1, .bool (knL l)] 176)
  go_wp2_with fail
  go_quiet (fail)
  go_wp2_with fail
  go_ret2
  exact ⟨n1, rfl, hn1, hB2.trans ⟨rfl, rfl, rfl, Nat.le_refl _, fun _ _ => rfl⟩⟩
theorem kn_at {l : List Ins} {j : Nat} {x : Ins} (h : l[j]? = some x) (hn : ∀ y ∈ l.take j, stops y.op = false) (hk : (l.take j).all knI = true) :
    (knI x = false → knL l = false) ∧ (knI x = true → stops x.op = true → knL l = true) ∧ (stops x.op = false → ∀ y ∈ l.take (j + 1), stops y.op = false) ∧ (knI x = true → (l.take (j + 1)).all knI = true) := by
  obtain ⟨h1, _⟩ := kn_cut l j hn
  obtain ⟨hj, hxe⟩ := List.getElem?_eq_some_iff.1 h
  have hd : l.drop j = x :: l.drop (j + 1) := by rw [List.drop_eq_getElem_cons hj, hxe]
  rw [hk, hd, knL] at h1
  refine ⟨fun e => by rw [h1, e]; rfl, fun e s => by rw [h1, e, s]; rfl, fun e => take_all_succ hn h e, fun e => ?_⟩
  rw [List.take_add_one, h, List.all_append, hk]
  simp [e]
set_option maxRecDepth 100000 in
set_option maxHeartbeats 40000000 in
theorem known_any : ∀ (n : Nat) (l : List Ins), bkL l ≤ n → n ≤ 1048576 → ∀ (w : World) (A : Option Addr) (c : Nat), kR.C w A l.length l → Calls Try.prog 30 #[.slice A l.length c] w (fun e w' => e = .returned (.bool (knL l)) ∧ w = w') := by
  intro n
  induction n using Nat.strongRecOn with
  | ind n ih =>
  intro l hbk hn w A c hC
  have hlen := bkL_len l
  have IH := Lib.hid ih
  clear ih
  have HC := Lib.hid hC
  clear hC
  go_enter Try.func30, Try.ntmps30
  go_wp2_with fail
  go_loop [3] (fun k => ∃ j : Nat, j ≤ l.length ∧ k = .int .i64 j ∧ Hid (∀ y ∈ l.take j, stops y.op = false) ∧ Hid ((l.take j).all knI = true)) (fun k => l.length - (intOf k).toNat)
  case atStart => exact ⟨0, Nat.zero_le _, rfl, by intro y hy; simp at hy, by show _ = _; simp⟩
  case round =>
    obtain ⟨j, hj, rfl, hns, hkn⟩ := hrel
    by_cases hlt : j < l.length
    · obtain ⟨b, o, x, cs, rfl, hx, hk, hc⟩ := C_at HC.out (by decide) j hlt
      obtain ⟨AL, cL, AT, cT, AE, cE, rfl, g1, g2, g3, g4, g5, hL, hT, hE, l1, l2, l3⟩ := ins_openC hk
      have hz : kR.sz = 9 := rfl
      have d0 := hc 0 _ rfl
      have d6 := hc 6 _ rfl
      have d7 := hc 7 _ rfl
      simp only [hz, Nat.add_zero] at d0 d6 d7
      have hbx := bkL_get hx.out
      have hbt := bkL_th x
      have hbe := bkL_el x
      have HT := Lib.hid hT
      have HE := Lib.hid hE
      obtain ⟨a1, a2, a3, a4⟩ := kn_at hx.out hns.out hkn.out
      have A1 := Lib.hid a1
      have A2 := Lib.hid a2
      have A3 := Lib.hid a3
      have A4 := Lib.hid a4
      clear hc hk hz hT hE hL g1 g2 g3 g4 g5 a1 a2 a3 a4 HC hns hkn hx
      obtain ⟨op, ty, a, bb, bits, list, th, el, has⟩ := x
      simp only [Ins.op, Ins.th, Ins.el, Ins.list] at *
      have HK := Lib.hid (show knI (.mk op ty a bb bits list th el has) = (!(op == 3 || op == 16 || op == 17) && (!(op == 2 || op == 4) || knL th) && (!(op == 4) || knL el)) from by rw [knI])
      generalize Ins.mk op ty a bb bits list th el has = x at *
      by_cases h3 : op = 3 ∨ op = 16 ∨ op = 17
      · have HF := Lib.hid (show knL l = false from A1.out (by rw [HK.out]; rcases h3 with rfl | rfl | rfl <;> rfl))
        clear A1 A2 A3 A4 HK
        rcases h3 with rfl | rfl | rfl
        all_goals
          go_wp2_with fail
          go_ret
          exact ⟨by rw [HF.out]; rfl, rfl⟩
      · have k3 : (op == 3) = false := by rw [beq_eq_false_iff_ne]; exact fun h => h3 (.inl h)
        have k16 : (op == 16) = false := by rw [beq_eq_false_iff_ne]; exact fun h => h3 (.inr (.inl h))
        have k17 : (op == 17) = false := by rw [beq_eq_false_iff_ne]; exact fun h => h3 (.inr (.inr h))
        clear h3
        by_cases h2 : op = 2
        · subst h2
          rw [show (!((2 : Int) == 3 || (2 : Int) == 16 || (2 : Int) == 17) && (!((2 : Int) == 2 || (2 : Int) == 4) || knL th) && (!((2 : Int) == 4) || knL el)) = knL th from by simp] at HK
          have H := IH.out (bkL th) (by omega) th (Nat.le_refl _) (by omega) w AT cT HT.out
          rcases hth : knL th
          · have HF := Lib.hid (show knL l = false from A1.out (by rw [HK.out, hth]))
            rw [hth] at H
            clear A1 A2 A3 A4 HK
            go_wp2_with fail
            refine H.mono ?_
            rintro e w' ⟨rfl, rfl⟩
            go_wp2_with fail
            go_ret
            exact ⟨by rw [HF.out]; rfl, rfl⟩
          · have HA := Lib.hid (A4.out (by rw [HK.out, hth]))
            have HS := Lib.hid (A3.out rfl)
            rw [hth] at H
            clear A1 A2 A3 A4 HK
            go_wp2_with fail
            refine H.mono ?_
            rintro e w' ⟨rfl, rfl⟩
            go_wp2_with fail
            go_round
            case rel => exact ⟨j + 1, by omega, by go_num, HS.out, HA.out⟩
            case measure => simp [intOf]; omega
        · have k2 : (op == 2) = false := by rw [beq_eq_false_iff_ne]; exact h2
          by_cases h4 : op = 4
          · subst h4
            rw [show (!((4 : Int) == 3 || (4 : Int) == 16 || (4 : Int) == 17) && (!((4 : Int) == 2 || (4 : Int) == 4) || knL th) && (!((4 : Int) == 4) || knL el)) = (knL th && knL el) from by simp] at HK
            have H := IH.out (bkL th) (by omega) th (Nat.le_refl _) (by omega) w AT cT HT.out
            have H2 := IH.out (bkL el) (by omega) el (Nat.le_refl _) (by omega) w AE cE HE.out
            rcases hth : knL th
            · have HF := Lib.hid (show knL l = false from A1.out (by rw [HK.out, hth]; rfl))
              rw [hth] at H
              clear A1 A2 A3 A4 HK H2
              go_wp2_with fail
              refine H.mono ?_
              rintro e w' ⟨rfl, rfl⟩
              go_wp2_with fail
              go_ret
              exact ⟨by rw [HF.out]; rfl, rfl⟩
            · rw [hth] at H
              rcases hel : knL el
              · have HF := Lib.hid (show knL l = false from A1.out (by rw [HK.out, hth, hel]; rfl))
                rw [hel] at H2
                clear A1 A2 A3 A4 HK
                go_wp2_with fail
                refine H.mono ?_
                rintro e w' ⟨rfl, rfl⟩
                go_wp2_with fail
                refine H2.mono ?_
                rintro e w' ⟨rfl, rfl⟩
                go_wp2_with fail
                go_ret
                exact ⟨by rw [HF.out]; rfl, rfl⟩
              · have HA := Lib.hid (A4.out (by rw [HK.out, hth, hel]; rfl))
                have HS := Lib.hid (A3.out rfl)
                rw [hel] at H2
                clear A1 A2 A3 A4 HK
                go_wp2_with fail
                refine H.mono ?_
                rintro e w' ⟨rfl, rfl⟩
                go_wp2_with fail
                refine H2.mono ?_
                rintro e w' ⟨rfl, rfl⟩
                go_wp2_with fail
                go_round
                case rel => exact ⟨j + 1, by omega, by go_num, HS.out, HA.out⟩
                case measure => simp [intOf]; omega
          · have k4 : (op == 4) = false := by rw [beq_eq_false_iff_ne]; exact h4
            have HK1 := HK.out
            rw [k3, k16, k17, k2, k4] at HK1
            have HK2 := Lib.hid (show knI x = true from by rw [HK1]; rfl)
            clear HK HK1
            by_cases hst : stops op = true
            · have hop4 : op = 0 ∨ op = 12 ∨ op = 14 ∨ op = 15 := by simpa [stops, or_assoc] using hst
              have HF := Lib.hid (show knL l = true from A2.out HK2.out hst)
              clear A1 A2 A3 A4 hst h2 h4
              rcases hop4 with rfl | rfl | rfl | rfl
              all_goals
                go_wp2_with fail
                go_ret
                exact ⟨by rw [HF.out]; rfl, rfl⟩
            · have HA := Lib.hid (A4.out HK2.out)
              have HS := Lib.hid (A3.out (by simpa using hst))
              have q0 : (op == 0) = false := by rw [beq_eq_false_iff_ne]; exact fun h => hst (by rw [h]; rfl)
              have q1 : (op == 12) = false := by rw [beq_eq_false_iff_ne]; exact fun h => hst (by rw [h]; rfl)
              have q2 : (op == 14) = false := by rw [beq_eq_false_iff_ne]; exact fun h => hst (by rw [h]; rfl)
              have q3 : (op == 15) = false := by rw [beq_eq_false_iff_ne]; exact fun h => hst (by rw [h]; rfl)
              clear A1 A2 A3 A4 hst h2 h4
              go_wp2_with fail
              go_round
              case rel => exact ⟨j + 1, by omega, by go_num, HS.out, HA.out⟩
              case measure => simp [intOf]; omega
    · obtain rfl : j = l.length := by omega
      rw [List.take_length] at hns hkn
      have HF := Lib.hid (show knL l = true from by rw [← (psOf_end hns.out).1]; exact hkn.out)
      go_wp2_with fail
      go_ret
      exact ⟨by rw [HF.out]; rfl, rfl⟩
end Go.Proofs.Ytfndlpfceokloaa
end
section
namespace Go.Proofs.Ytfndlpfceokloaa
open Go.RowKit YtfndlpfceokloaaB Go.Proofs.YtfndlpfceokloaaW.PrintWords
def coS (l : List Ins) : Nat := (l.map coI).sum
theorem coS_take {l : List Ins} {j : Nat} {x : Ins} (h : l[j]? = some x) : coS (l.take (j + 1)) = coS (l.take j) + coI x := by
  rw [List.take_add_one, h]
  simp [coS]
theorem C_drewN {α : Type} {d : Kd α} {w : World} {A : Option Addr} {n : Nat} {xs : List α} (h : d.C w A n xs) (m : Nat) : d.C (w.drewN m) A n xs := Kd.C_below h ⟨rfl, rfl, rfl, Nat.le_refl _, fun _ _ => rfl⟩
theorem coS_bk (l : List Ins) : coS l ≤ bkL l := by
  induction l with
  | nil => simp [coS]
  | cons x l ih =>
    have := coI_bk x
    rw [bkL]
    simp only [coS, List.map_cons, List.sum_cons] at *
    omega
set_option maxRecDepth 100000 in
set_option maxHeartbeats 40000000 in
theorem refCost_any : ∀ (n : Nat) (l : List Ins), bkL l ≤ n → n ≤ 1048576 → ∀ (w : World) (A : Option Addr) (c : Nat), kR.C w A l.length l → Calls Try.prog 33 #[.slice A l.length c] w (fun e w' => e = .returned (.int .u64 (coL l : Int)) ∧ ∃ m, w' = w.drewN m) := by
  intro n
  induction n using Nat.strongRecOn with
  | ind n ih =>
  intro l hbk hn w A c hC
  have hlen := bkL_len l
  have IH := Lib.hid ih
  clear ih
  have HC := Lib.hid hC
  clear hC
  go_enter Try.func33, Try.ntmps33
  go_wp2_with fail
  go_loopw [3, 4] (fun v k wr => ∃ j : Nat, j ≤ l.length ∧ k = .int .i64 j ∧ v = .int .u64 (coS (l.take j) : Int) ∧ Hid (∀ y ∈ l.take j, stops y.op = false) ∧ ∃ m, wr = w.drewN m) (fun _ k _ => l.length - (intOf k).toNat)
  case atStart => exact ⟨0, Nat.zero_le _, rfl, rfl, by intro y hy; simp at hy, 0, rfl⟩
  case round =>
    obtain ⟨j, hj, rfl, rfl, hns, hD⟩ := hrel
    have hCr : kR.C wr A l.length l := by obtain ⟨m, rfl⟩ := hD; exact C_drewN HC.out m
    have HD := Lib.hid hD
    clear hD
    by_cases hlt : j < l.length
    · obtain ⟨b, o, x, cs, rfl, hx, hk, hc⟩ := C_at hCr (by decide) j hlt
      obtain ⟨AL, cL, AT, cT, AE, cE, rfl, g1, g2, g3, g4, g5, hL, hT, hE, l1, l2, l3⟩ := ins_openC hk
      have hz : kR.sz = 9 := rfl
      have d0 := hc 0 _ rfl
      have d6 := hc 6 _ rfl
      have d7 := hc 7 _ rfl
      simp only [hz, Nat.add_zero] at d0 d6 d7
      have hbx := bkL_get hx.out
      have hbt := bkL_th x
      have hbe := bkL_el x
      have HT := Lib.hid hT
      have HE := Lib.hid hE
      have HST := Lib.hid (psOf_stop hx.out hns.out)
      have HNS := Lib.hid (take_all_succ hns.out hx.out)
      have HS := Lib.hid (coS_take hx.out)
      have hs1 := coS_bk (l.take (j + 1))
      have hs2 := bkL_take l (j + 1)
      rw [HS.out] at hs1
      have hct := coL_bk x.th
      have hce := coL_bk x.el
      clear hc hk hz hT hE hL g1 g2 g3 g4 g5 HC hns hx hCr
      obtain ⟨op, ty, a, bb, bits, list, th, el, has⟩ := x
      simp only [Ins.op, Ins.th, Ins.el, Ins.list] at *
      have hcI : coI (.mk op ty a bb bits list th el has) = 1 + (if op = 2 then coL th else if op = 4 then max (coL th) (coL el) else 0) := by rw [coI]
      generalize Ins.mk op ty a bb bits list th el has = x at *
      generalize coS (l.take j) = s at *
      generalize bkL (l.take (j + 1)) = s9 at *
      by_cases h2 : op = 2
      · subst h2
        have H := IH.out (bkL th) (by omega) th (Nat.le_refl _) (by omega) wr AT cT HT.out
        rw [if_pos rfl] at hcI
        rw [hcI] at hs1
        have HSS := Lib.hid (show (coS (l.take (j + 1)) : Int) = s + 1 + coL th from by rw [HS.out, hcI]; omega)
        have HN := Lib.hid (HNS.out rfl)
        clear HS hcI HST HNS
        generalize coL th = m at *
        go_wp2_with fail
        refine H.mono ?_
        rintro e w' ⟨rfl, m1, rfl⟩
        go_wp2_with fail
        go_roundw
        case rel => exact ⟨j + 1, by omega, by go_num, by rw [HSS.out], HN.out, by obtain ⟨m0, rfl⟩ := HD.out; exact ⟨m0 + m1, World.drewN_drewN _ _ _⟩⟩
        case measure => simp [intOf]; omega
      · have k2 : (op == 2) = false := by rw [beq_eq_false_iff_ne]; exact h2
        rw [if_neg h2] at hcI
        by_cases h4 : op = 4
        · subst h4
          have H := IH.out (bkL th) (by omega) th (Nat.le_refl _) (by omega) wr AT cT HT.out
          have H2 := IH.out (bkL el) (by omega) el (Nat.le_refl _) (by omega) wr AE cE HE.out
          rw [if_pos rfl] at hcI
          rw [hcI] at hs1
          have HSS := Lib.hid (show (coS (l.take (j + 1)) : Int) = s + 1 + (if coL th < coL el then (coL el : Int) else (coL th : Int)) from by rw [HS.out, hcI]; split <;> omega)
          have HN := Lib.hid (HNS.out rfl)
          clear HS hcI HST HNS k2
          clear H H2
          go_wp2_with fail
          go_quiet (first
            | (go_at_call_of 33 (Value.slice AT th.length cT); exact Calls.quiet_of (IH.out (bkL th) (by omega) th (Nat.le_refl _) (by omega) _ AT cT (C_drewN HT.out _)))
            | (go_at_call_of 33 (Value.slice AE el.length cE); exact Calls.quiet_of (IH.out (bkL el) (by omega) el (Nat.le_refl _) (by omega) _ AE cE (C_drewN HE.out _))))
          go_wp2_with fail
          go_roundw
          case rel => exact ⟨j + 1, by omega, by go_num, by rw [HSS.out], HN.out, by obtain ⟨m0, rfl⟩ := HD.out; exact ⟨m0 + nq, World.drewN_drewN _ _ _⟩⟩
          case measure => simp [intOf]; omega
        · have k4 : (op == 4) = false := by rw [beq_eq_false_iff_ne]; exact h4
          rw [if_neg h4] at hcI
          rw [hcI] at hs1
          clear hbt hbe hct hce HT HE IH
          by_cases hst : stops op = true
          · have hop4 : op = 0 ∨ op = 12 ∨ op = 14 ∨ op = 15 := by simpa [stops, or_assoc] using hst
            have HF := Lib.hid (show (coL l : Int) = s + 1 from by rw [← (HST.out hst).2]; show ((coS (l.take (j + 1)) : Nat) : Int) = _; rw [HS.out, hcI]; omega)
            clear HST HNS HS hcI hst h2 h4
            rcases hop4 with rfl | rfl | rfl | rfl
            all_goals
              go_wp2_with fail
              go_ret
              exact ⟨by rw [HF.out]; rfl, HD.out⟩
          · have HN := Lib.hid (HNS.out (by simpa using hst))
            have HSS := Lib.hid (show (coS (l.take (j + 1)) : Int) = s + 1 from by rw [HS.out, hcI]; omega)
            have q0 : (op == 0) = false := by rw [beq_eq_false_iff_ne]; exact fun h => hst (by rw [h]; rfl)
            have q1 : (op == 12) = false := by rw [beq_eq_false_iff_ne]; exact fun h => hst (by rw [h]; rfl)
            have q2 : (op == 14) = false := by rw [beq_eq_false_iff_ne]; exact fun h => hst (by rw [h]; rfl)
            have q3 : (op == 15) = false := by rw [beq_eq_false_iff_ne]; exact fun h => hst (by rw [h]; rfl)
            clear HST HNS HS hcI hst h2 h4
            go_wp2_with fail
            go_roundw
            case rel => exact ⟨j + 1, by omega, by go_num, by rw [HSS.out], HN.out, HD.out⟩
            case measure => simp [intOf]; omega
    · obtain rfl : j = l.length := by omega
      rw [List.take_length] at hns
      have HF := Lib.hid (show (coL l : Int) = coS (l.take l.length) from by rw [List.take_length, ← (psOf_end hns.out).2]; rfl)
      generalize coS (l.take l.length) = s at *
      go_wp2_with fail
      go_ret
      exact ⟨by rw [HF.out]; rfl, HD.out⟩
end Go.Proofs.Ytfndlpfceokloaa
end
section
namespace Go.Proofs.Ytfndlpfceokloaa
open Go.RowKit YtfndlpfceokloaaB Go.Proofs.YtfndlpfceokloaaW.PrintWords
theorem moL_append (l r : List Ins) : moL (l ++ r) = max (moL l) (moL r) := by
  induction l with
  | nil => simp [moL]
  | cons x l ih => rw [List.cons_append, moL, moL, ih]; omega
theorem moL_take {l : List Ins} {j : Nat} {x : Ins} (h : l[j]? = some x) : moL (l.take (j + 1)) = max (moL (l.take j)) (moI x) := by
  rw [List.take_add_one, h, moL_append]
  simp [moL]
set_option maxRecDepth 100000 in
set_option maxHeartbeats 40000000 in
theorem refMost_any : ∀ (n : Nat) (l : List Ins), bkL l ≤ n → n ≤ 1048576 → ∀ (w : World) (A : Option Addr) (c : Nat), kR.C w A l.length l → Calls Try.prog 32 #[.slice A l.length c] w (fun e w' => e = .returned (.int .i64 (moL l : Int)) ∧ ∃ m, w' = w.drewN m) := by
  intro n
  induction n using Nat.strongRecOn with
  | ind n ih =>
  intro l hbk hn w A c hC
  have hlen := bkL_len l
  have IH := Lib.hid ih
  clear ih
  have HC := Lib.hid hC
  clear hC
  go_enter Try.func32, Try.ntmps32
  go_wp2_with fail
  go_loopw [3, 4] (fun v k wr => ∃ j : Nat, j ≤ l.length ∧ k = .int .i64 j ∧ v = .int .i64 (moL (l.take j) : Int) ∧ ∃ m, wr = w.drewN m) (fun _ k _ => l.length - (intOf k).toNat)
  case atStart => exact ⟨0, Nat.zero_le _, rfl, rfl, 0, rfl⟩
  case round =>
    obtain ⟨j, hj, rfl, rfl, hD⟩ := hrel
    have hCr : kR.C wr A l.length l := by obtain ⟨m, rfl⟩ := hD; exact C_drewN HC.out m
    have HD := Lib.hid hD
    clear hD
    by_cases hlt : j < l.length
    · obtain ⟨b, o, x, cs, rfl, hx, hk, hc⟩ := C_at hCr (by decide) j hlt
      obtain ⟨AL, cL, AT, cT, AE, cE, rfl, g1, g2, g3, g4, g5, hL, hT, hE, l1, l2, l3⟩ := ins_openC hk
      have hz : kR.sz = 9 := rfl
      have d5 := hc 5 _ rfl
      have d6 := hc 6 _ rfl
      have d7 := hc 7 _ rfl
      simp only [hz, Nat.add_zero] at d5 d6 d7
      have hbx := bkL_get hx.out
      have hbt := bkL_th x
      have hbe := bkL_el x
      have HT := Lib.hid hT
      have HE := Lib.hid hE
      have HS := Lib.hid (moL_take hx.out)
      have hs1 := moL_bk (l.take j)
      have hs2 := bkL_take l j
      have hct := moL_bk x.th
      have hce := moL_bk x.el
      have hcl := bkL_list x
      clear hc hk hz hT hE hL g1 g2 g3 g4 g5 HC hx hCr
      obtain ⟨op, ty, a, bb, bits, list, th, el, has⟩ := x
      simp only [Ins.op, Ins.th, Ins.el, Ins.list] at *
      have hcI : moI (.mk op ty a bb bits list th el has) = max list.length (max (moL th) (moL el)) := by rw [moI]
      generalize Ins.mk op ty a bb bits list th el has = x at *
      rw [hcI] at HS
      clear hcI
      generalize moL (l.take j) = s at *
      generalize bkL (l.take j) = s9 at *
      generalize list.length = ll at *
      go_wp2_with fail
      go_quiet (first
        | (go_at_call_of 32 (Value.slice AT th.length cT); exact Calls.quiet_of (IH.out (bkL th) (by omega) th (Nat.le_refl _) (by omega) _ AT cT (C_drewN HT.out _)))
        | (go_at_call_of 32 (Value.slice AE el.length cE); exact Calls.quiet_of (IH.out (bkL el) (by omega) el (Nat.le_refl _) (by omega) _ AE cE (C_drewN HE.out _))))
      have HV : (if (s : Int) < (if (ll : Int) < (if moL th < moL el then (moL el : Int) else (moL th : Int)) then (if moL th < moL el then (moL el : Int) else (moL th : Int)) else (ll : Int)) then (if (ll : Int) < (if moL th < moL el then (moL el : Int) else (moL th : Int)) then (if moL th < moL el then (moL el : Int) else (moL th : Int)) else (ll : Int)) else (s : Int)) = (moL (l.take (j + 1)) : Int) := by
        rw [HS.out]
        by_cases h1 : moL th < moL el
        · simp only [h1, if_true]; split <;> split <;> omega
        · simp only [h1, if_false]; split <;> split <;> omega
      rw [HV]
      clear HV HS
      go_wp2_with fail
      go_roundw
      case rel => exact ⟨j + 1, by omega, by go_num, rfl, by obtain ⟨m0, rfl⟩ := HD.out; exact ⟨m0 + nq, World.drewN_drewN _ _ _⟩⟩
      case measure => simp [intOf]; omega
    · obtain rfl : j = l.length := by omega
      have HF := Lib.hid (show (moL l : Int) = moL (l.take l.length) from by rw [List.take_length])
      generalize moL (l.take l.length) = s at *
      go_wp2_with fail
      go_ret
      exact ⟨by rw [HF.out]; rfl, HD.out⟩
end Go.Proofs.Ytfndlpfceokloaa
end
section
namespace Go.Proofs.YtfndlpfceokloaaB
open Go.RowKit Go.Proofs.YtfndlpfceokloaaW.PrintWords
theorem gset (W : World) (b i : Nat) (v : Value) : W.grownBy (W.setCell ⟨b, i, none⟩ v) (some b) :=
  ⟨rfl, rfl, rfl, by simp [World.setCell], fun k _ hk => Below.heap_setCell W _ v k (fun e => hk (by rw [e]))⟩
/-- Bytes that are read, all in block q. -/
def ByQ (W : World) (q : Nat) (A : Option Addr) (B : List Int) : Prop :=
  0 < B.length → ∃ o, A = some ⟨q, o, none⟩ ∧ ∀ j x, B[j]? = some x → W.cell? ⟨q, o + j, none⟩ = some (.int .u8 x)
theorem ByQ.grown {W W' : World} {q : Nat} {A : Option Addr} {B : List Int} (h : ByQ W q A B) {row : Option Nat} (hg : W.grownBy W' row) (hq : some q ≠ row) : ByQ W' q A B := fun hp => by
  obtain ⟨o, e, hc⟩ := h hp
  exact ⟨o, e, fun j x hj => by
    have hx := hc j x hj
    have hlt := World.block_lt_of_cell? _ _ hx
    rw [← hx]
    exact World.cell?_of_block (hg.block q hlt hq)⟩
theorem ByQ.at_ {W : World} {q : Nat} {A : Option Addr} {B : List Int} (h : ByQ W q A B) (i : Nat) (hi : i < B.length) : ∃ o x, A = some ⟨q, o, none⟩ ∧ Hid (B[i]? = some x) ∧ W.cell? ⟨q, o + i, none⟩ = some (.int .u8 x) := by
  obtain ⟨o, e, hc⟩ := h (by omega)
  exact ⟨o, B[i], e, List.getElem?_eq_getElem hi, hc i _ (List.getElem?_eq_getElem hi)⟩
/-- All bytes of a list. -/
def Byts (B : List Int) : Prop := B.length ≤ 1048576 ∧ ∀ x ∈ B, 0 ≤ x ∧ x ≤ 255
theorem Byts.get {B : List Int} (h : Byts B) {i : Nat} {x : Int} (hx : B[i]? = some x) : 0 ≤ x ∧ x ≤ 255 := h.2 x (List.mem_of_getElem? hx)
end Go.Proofs.YtfndlpfceokloaaB
namespace Go.Proofs.Ytfndlpfceokloaa
open Go.RowKit YtfndlpfceokloaaB Go.Proofs.YtfndlpfceokloaaW.PrintWords
/-- The cells of a cursor. -/
def CurB (W : World) (p q : Nat) (A : Option Addr) (c : Nat) (B : List Int) (a : Nat) (e : Int) : Prop :=
  Blk W p #[.slice A B.length c, .int .i64 a, .int .i64 e] 224 ∧ ByQ W q A B
/-- A cursor at p over the bytes B: its place, the first failure. -/
def Cur (W : World) (p q : Nat) (B : List Int) (a : Nat) (e : Int) : Prop := p ≠ q ∧ a ≤ B.length ∧ ∃ A c, B.length ≤ c ∧ CurB W p q A c B a e
theorem Cur.grown {W W' : World} {p q : Nat} {B : List Int} {a : Nat} {e : Int} (h : Cur W p q B a e) {row : Option Nat} (hg : W.grownBy W' row) (hp : some p ≠ row) (hq : some q ≠ row) : Cur W' p q B a e := by
  obtain ⟨h0, h1, A, c, h2, h3, h4⟩ := h
  exact ⟨h0, h1, A, c, h2, h3.grown hg hp, h4.grown hg hq⟩
theorem Cur.below {W W' : World} {p q : Nat} {B : List Int} {a : Nat} {e : Int} (h : Cur W p q B a e) (hb : Below W.heap.size W W') : Cur W' p q B a e := h.grown (grown_below hb none) (by simp) (by simp)
theorem Cur.alloc {W : World} {p q : Nat} {B : List Int} {a : Nat} {e : Int} (h : Cur W p q B a e) (o : Obj) : Cur (W.alloc o) p q B a e := h.grown (World.grownBy_alloc W o none) (by simp) (by simp)
theorem Cur.lt {W : World} {p q : Nat} {B : List Int} {a : Nat} {e : Int} (h : Cur W p q B a e) : p < W.heap.size := by
  obtain ⟨_, _, A, c, _, h3, _⟩ := h
  exact h3.lt
theorem Cur.set {W : World} {p q : Nat} {B : List Int} {a : Nat} {e : Int} (h : Cur W p q B a e) (a' : Nat) (e' : Int) (ha : a' ≤ B.length) : Cur ((W.setCell ⟨p, 2, none⟩ (.int .i64 e')).setCell ⟨p, 1, none⟩ (.int .i64 a')) p q B a' e' := by
  obtain ⟨h0, h1, A, c, h2, h3, h4⟩ := h
  refine ⟨h0, ha, A, c, h2, ?_, ?_⟩
  · have := (h3.set 2 (.int .i64 e')).set 1 (.int .i64 a')
    simpa using this
  · exact (h4.grown (gset W p 2 (.int .i64 e')) (fun e => h0 (by injection e with e; exact e.symm))).grown (gset _ p 1 (.int .i64 a')) (fun e => h0 (by injection e with e; exact e.symm))
theorem Cur.setAt {W : World} {p q : Nat} {B : List Int} {a : Nat} {e : Int} (h : Cur W p q B a e) (a' : Nat) (ha : a' ≤ B.length) : Cur (W.setCell ⟨p, 1, none⟩ (.int .i64 a')) p q B a' e := by
  obtain ⟨h0, h1, A, c, h2, h3, h4⟩ := h
  refine ⟨h0, ha, A, c, h2, ?_, ?_⟩
  · have := h3.set 1 (.int .i64 a')
    simpa using this
  · exact h4.grown (gset _ p 1 (.int .i64 a')) (fun e => h0 (by injection e with e; exact e.symm))
/-- What a reading call does to the world. -/
def Goes (W W' : World) (p q : Nat) (B : List Int) (a : Nat) (e : Int) : Prop := Cur W' p q B a e ∧ W.grownBy W' (some p)
theorem Goes.same {W : World} {p q : Nat} {B : List Int} {a : Nat} {e : Int} (h : Cur W p q B a e) : Goes W W p q B a e := ⟨h, World.grownBy.refl W _⟩
theorem Goes.drewN {W : World} {p q : Nat} {B : List Int} {a : Nat} {e : Int} (h : Cur W p q B a e) (m : Nat) : Goes W (W.drewN m) p q B a e := ⟨h.below ⟨rfl, rfl, rfl, Nat.le_refl _, fun _ _ => rfl⟩, ⟨rfl, rfl, rfl, Nat.le_refl _, fun _ _ _ => rfl⟩⟩
theorem Goes.trans {W W1 W2 : World} {p q : Nat} {B : List Int} {a a' : Nat} {e e' : Int} (h : Goes W W1 p q B a e) (h' : Goes W1 W2 p q B a' e') : Goes W W2 p q B a' e' := ⟨h'.1, h.2.trans h'.2⟩
/-- The three cells of a cursor, as a walk wants them. -/
theorem Cur.cells {W : World} {p q : Nat} {B : List Int} {a : Nat} {e : Int} (h : Cur W p q B a e) :
    ∃ A c, W.cell? ⟨p, 0, none⟩ = some (.slice A B.length c) ∧ W.cell? ⟨p, 1, none⟩ = some (.int .i64 a) ∧ W.cell? ⟨p, 2, none⟩ = some (.int .i64 e) ∧ W.frozen? ⟨p, 0, none⟩ = false ∧ W.frozen? ⟨p, 1, none⟩ = false ∧ W.frozen? ⟨p, 2, none⟩ = false ∧ B.length ≤ c ∧ ByQ W q A B ∧ p < W.heap.size ∧ a ≤ B.length := by
  obtain ⟨h0, h1, A, c, h2, h3, h4⟩ := h
  exact ⟨A, c, by rw [h3.cell]; rfl, by rw [h3.cell]; rfl, by rw [h3.cell]; rfl, h3.frozen 0, h3.frozen 1, h3.frozen 2, h2, h4, h3.lt, h1⟩
/-- The place of a cursor, its first failure, what is left. -/
theorem good_any (W : World) (p q : Nat) (B : List Int) (a : Nat) (e : Int) (b : Bool) (hC : Cur W p q B a e) (hb : (e == 0) = b) :
    Calls Try.prog 152 #[.pointer (some ⟨p, 0, none⟩)] W fun E w' => E = .returned (.bool b) ∧ W = w' := by
  obtain ⟨A, c, c0, c1, c2, f0, f1, f2, hle, hq, hlt, ha⟩ := hC.cells
  have HB := Lib.hid hb
  clear hb hC
  go_enter Try.func152, Try.ntmps152
  go_wp2
  go_ret
  exact ⟨by rw [← HB.out]; rfl, rfl⟩
theorem at_any (W : World) (p q : Nat) (B : List Int) (a : Nat) (e : Int) (hC : Cur W p q B a e) :
    Calls Try.prog 59 #[.pointer (some ⟨p, 0, none⟩)] W fun E w' => E = .returned (.int .i64 a) ∧ W = w' := by
  obtain ⟨A, c, c0, c1, c2, f0, f1, f2, hle, hq, hlt, ha⟩ := hC.cells
  clear hC
  go_enter Try.func59, Try.ntmps59
  go_wp2
  go_ret
  exact ⟨rfl, rfl⟩
theorem err_any (W : World) (p q : Nat) (B : List Int) (a : Nat) (e : Int) (hC : Cur W p q B a e) :
    Calls Try.prog 58 #[.pointer (some ⟨p, 0, none⟩)] W fun E w' => E = .returned (.int .i64 e) ∧ W = w' := by
  obtain ⟨A, c, c0, c1, c2, f0, f1, f2, hle, hq, hlt, ha⟩ := hC.cells
  clear hC
  go_enter Try.func58, Try.ntmps58
  go_wp2
  go_ret
  exact ⟨rfl, rfl⟩
theorem left_any (W : World) (p q : Nat) (B : List Int) (a : Nat) (e : Int) (hC : Cur W p q B a e) (hB : Byts B) :
    Calls Try.prog 93 #[.pointer (some ⟨p, 0, none⟩)] W fun E w' => E = .returned (.int .i64 ((B.length : Int) - a)) ∧ Goes W w' p q B a e := by
  have HC := Lib.hid hC
  obtain ⟨A, c, c0, c1, c2, f0, f1, f2, hle, hq, hlt, ha⟩ := hC.cells
  have hl := hB.1
  clear hC hB
  go_enter Try.func93, Try.ntmps93
  go_wp2
  go_quiet (fail)
  go_wp2
  go_ret
  exact ⟨rfl, Goes.drewN HC.out _⟩
set_option maxHeartbeats 400000 in
theorem fail_yes (W : World) (p q : Nat) (B : List Int) (a a' : Nat) (e' : Int) (hC : Cur W p q B a 0) (he : (e' == 0) = false) (ha' : a' ≤ B.length) :
    Calls Try.prog 130 #[.pointer (some ⟨p, 0, none⟩), .int .i64 e', .int .i64 a'] W fun E w' => E = .returned (.tuple #[]) ∧ Goes W w' p q B a' e' := by
  have HC := Lib.hid hC
  have he2 : (e' != 0) = true := by simp only [bne, he]; rfl
  obtain ⟨A, c, c0, c1, c2, f0, f1, f2, hle, hq, hlt, ha⟩ := hC.cells
  clear hC
  go_enter Try.func130, Try.ntmps130
  go_wp2_with (go_at_call 152; refine (good_any _ _ _ _ _ _ true HC.out rfl).mono ?_; rintro e w' ⟨rfl, rfl⟩)
  go_end0
  exact ⟨rfl, HC.out.set a' e' ha', (gset _ _ _ _).trans (gset _ _ _ _)⟩
theorem fail_no (W : World) (p q : Nat) (B : List Int) (a : Nat) (e e' a' : Int) (hC : Cur W p q B a e) (he : (e == 0) = false) :
    Calls Try.prog 130 #[.pointer (some ⟨p, 0, none⟩), .int .i64 e', .int .i64 a'] W fun E w' => E = .returned (.tuple #[]) ∧ W = w' := by
  have HC := Lib.hid hC
  have HE := Lib.hid he
  clear hC he
  go_enter Try.func130, Try.ntmps130
  go_wp2_with (go_at_call 152; refine (good_any _ _ _ _ _ _ false HC.out HE.out).mono ?_; rintro e w' ⟨rfl, rfl⟩)
  go_end0
  exact ⟨rfl, rfl⟩
/-- Cursor.Fail. -/
def failE (e e' : Int) : Int := if e = 0 then e' else e
set_option maxRecDepth 100000 in
theorem Fail_any (W : World) (p q : Nat) (B : List Int) (a : Nat) (e e' : Int) (hC : Cur W p q B a e) (he : (e' == 0) = false) :
    Calls Try.prog 118 #[.pointer (some ⟨p, 0, none⟩), .int .i64 e'] W fun E w' => E = .returned (.tuple #[]) ∧ Goes W w' p q B a (failE e e') := by
  have HC := Lib.hid hC
  obtain ⟨A, c, c0, c1, c2, f0, f1, f2, hle, hq, hlt, ha⟩ := hC.cells
  have H := Lib.hid (show ∀ W', Cur W' p q B a e → Calls Try.prog 130 #[.pointer (some ⟨p, 0, none⟩), .int .i64 e', .int .i64 a] W' fun E w' => E = .returned (.tuple #[]) ∧ Goes W' w' p q B a (failE e e') from fun W' h => by
    by_cases h0 : e = 0
    · subst h0
      rw [failE, if_pos rfl]
      exact fail_yes W' p q B a a e' h he ha
    · rw [failE, if_neg h0]
      exact (fail_no W' p q B a e e' a h (beq_eq_false_iff_ne.2 h0)).mono (by rintro E w' ⟨rfl, rfl⟩; exact ⟨rfl, Goes.same h⟩))
  clear hC he
  go_enter Try.func118, Try.ntmps118
  go_wp2_with fail
  go_still_tail 9, (by kernel_rfl)
  change wpList _ _ _ _ _ W.drew
  have HD := Lib.hid (show Cur W.drew p q B a e from HC.out.below ⟨rfl, rfl, rfl, Nat.le_refl _, fun _ _ => rfl⟩)
  have HG := Lib.hid (show W.grownBy W.drew (some p) from ⟨rfl, rfl, rfl, Nat.le_refl _, fun _ _ _ => rfl⟩)
  generalize W.drew = W2 at *
  go_wp2_with (go_at_call 130; refine (H.out _ HD.out).mono ?_; rintro e w' ⟨rfl, hG⟩)
  go_end0
  exact ⟨rfl, hG.1, HG.out.trans hG.2⟩
theorem infoB : (Try.prog.info? 5).map (·.size) = some 1 := by kernel_rfl
set_option maxRecDepth 100000 in
theorem take_no (W : World) (p q : Nat) (B : List Int) (a n : Nat) (hC : Cur W p q B a 0) (hB : Byts B) (hn : B.length < a + n) (hn2 : n ≤ 4294967296) :
    Calls Try.prog 129 #[.pointer (some ⟨p, 0, none⟩), .int .i64 n] W fun E w' => E = .returned (.slice none 0 0) ∧ Goes W w' p q B a 100 := by
  have hl := hB.1
  go_enter Try.func129, Try.ntmps129
  go_wp2_with fail
  refine (left_any _ _ _ _ _ _ hC hB).mono ?_
  rintro E1 W1 ⟨rfl, hG1⟩
  obtain ⟨A, c, c0, c1, c2, f0, f1, f2, hle, hq, hlt, ha⟩ := hG1.1.cells
  have HG1 := Lib.hid hG1
  clear hq hC hB hG1
  go_wp2_with fail
  go_still_tail 8, (by kernel_rfl)
  change wpList _ _ _ _ _ W1.drew
  have HD := Lib.hid (Goes.trans HG1.out (Goes.drewN HG1.out.1 1))
  have HDC := Lib.hid (show Cur W1.drew p q B a 0 from HD.out.1)
  clear HG1
  have HG2 := Lib.hid (show W.grownBy W1.drew (some p) from HD.out.2)
  clear HD
  generalize W1.drew = W2 at *
  go_wp2_with (go_at_call 130; refine (fail_yes _ _ _ _ _ _ _ HDC.out rfl ha).mono ?_; rintro e w' ⟨rfl, hG⟩)
  go_ret
  exact ⟨rfl, hG.1, HG2.out.trans hG.2⟩
set_option maxRecDepth 100000 in
theorem take_yes (W : World) (p q : Nat) (B : List Int) (a n : Nat) (hC : Cur W p q B a 0) (hB : Byts B) (hn : a + n ≤ B.length) :
    Calls Try.prog 129 #[.pointer (some ⟨p, 0, none⟩), .int .i64 n] W fun E w' => (∃ A' c', E = .returned (.slice A' n c') ∧ ByQ w' q A' ((B.drop a).take n)) ∧ Goes W w' p q B (a + n) 0 := by
  have hl := hB.1
  go_enter Try.func129, Try.ntmps129
  go_wp2_with fail
  refine (left_any _ _ _ _ _ _ hC hB).mono ?_
  rintro E1 W1 ⟨rfl, hG1⟩
  obtain ⟨A, c, c0, c1, c2, f0, f1, f2, hle, hq, hlt, ha⟩ := hG1.1.cells
  have HQ := Lib.hid hq
  have HG1 := Lib.hid hG1
  clear hC hB hq hG1
  obtain ⟨A', hrun, hA'⟩ := cut_lh (P := Try.prog) 85 5 .i64 .i64 1 Try.underlying85 infoB A B.length c a (a + n) (by omega) (by omega)
  rw [Int.natCast_add] at hrun
  have HA := Lib.hid hA'
  clear hA'
  have hQ := Lib.hid (show ByQ W1 q A' ((B.drop a).take n) from fun hp => by
    have hn0 : 0 < n ∧ a < B.length := by rw [List.length_take, List.length_drop] at hp; omega
    obtain ⟨o, rfl, hc⟩ := HQ.out (by omega)
    refine ⟨o + a, by rw [HA.out (by omega)]; simp [Addr.add] <;> omega, fun j x hj => ?_⟩
    rw [List.getElem?_take] at hj
    split at hj
    · rw [List.getElem?_drop] at hj
      rw [Nat.add_assoc]
      exact hc _ _ hj
    · cases hj)
  clear HQ
  go_wp2_with fail
  have hw : IntKind.i64.wrap ((a : Int) + n - n) = a := by rw [IntKind.wrap_i64]; omega
  go_quiet (fail)
  go_wp2
  have h2 : Cur (W1.setCell ⟨p, 1, none⟩ (.int .i64 ((a : Int) + n))) p q B (a + n) 0 := by rw [← Int.natCast_add]; exact HG1.out.1.setAt (a + n) hn
  have h3 : Goes W ((W1.setCell ⟨p, 1, none⟩ (.int .i64 ((a : Int) + n))).drewN nq) p q B (a + n) 0 := (HG1.out.trans ⟨h2, gset _ _ _ _⟩).trans (Goes.drewN h2 nq)
  go_ret
  exact ⟨⟨A', c - a, rfl, (hQ.out.grown (gset W1 p 1 (.int .i64 ((a : Int) + n))) (fun e => h2.1 (by injection e with e; exact e.symm))).grown (row := none) ⟨rfl, rfl, rfl, Nat.le_refl _, fun _ _ _ => rfl⟩ (by simp)⟩, h3⟩
end Go.Proofs.Ytfndlpfceokloaa
end
section
namespace Go.Proofs.Ytfndlpfceokloaa
open Go.RowKit Go.Shelf YtfndlpfceokloaaB Go.Proofs.YtfndlpfceokloaaW.PrintWords
/-- What a read answers, and where it stands then. -/
def rsV (v e' : Int) : Int := if e' = 0 then v else 0
def rsA (a a' : Nat) (e' : Int) : Nat := if e' = 0 then a' else a
def RsPost (f : Int → Value) (W : World) (p q : Nat) (B : List Int) (a : Nat) (e' : Int) (R : Int → Nat → Prop) (E : Ending) (w' : World) : Prop := ∃ v nx, R v nx ∧ E = .returned (f (rsV v e')) ∧ Goes W w' p q B (rsA a nx e') e'
set_option maxRecDepth 100000 in
theorem reads_bad_byte (W : World) (p q : Nat) (B : List Int) (a : Nat) (e : Int) (f : Value) (hC : Cur W p q B a e) (he : (e == 0) = false) :
    Calls Try.prog 127 #[.pointer (some ⟨p, 0, none⟩), f] W fun E w' => E = .returned (.int .u8 0) ∧ W = w' := by
  have HC := Lib.hid hC
  have HE := Lib.hid he
  clear hC he
  go_enter Try.func127, Try.ntmps127
  go_wp2_with (go_at_call 152; refine (good_any _ _ _ _ _ _ false HC.out HE.out).mono ?_; rintro e w' ⟨rfl, rfl⟩)
  go_ret
  exact ⟨rfl, rfl⟩
set_option maxRecDepth 100000 in
theorem reads_ex_byte (W : World) (p q : Nat) (B : List Int) (a : Nat) (g : FuncId) (hent : Enters Try.prog g) (lb : Array Value) (R : Int → Nat → Prop) (e' : Int) (hC : Cur W p q B a 0)
    (hg : Calls Try.prog g lb W fun E w' => ∃ v nx, E = .returned (.int .u8 v) ∧ R v nx ∧ Goes W w' p q B nx e') :
    Calls Try.prog 127 #[.pointer (some ⟨p, 0, none⟩), .func (.func g) #[] lb] W (RsPost (Value.int .u8) W p q B a e' R) := by
  have HC := Lib.hid hC
  have HG := Lib.hid hg
  obtain ⟨A, c, c0, c1, c2, f0, f1, f2, hle, hq, hlt, ha⟩ := hC.cells
  have hin : ∀ args w, Sem.run Try.prog (callFunc g args) w = .ok (.enter g args) w := hent
  clear hC hg hq hent
  go_enter Try.func127, Try.ntmps127
  go_wp2_with fail
  refine (good_any _ _ _ _ _ _ true HC.out rfl).mono ?_
  rintro E w' ⟨rfl, rfl⟩
  go_wp2_with fail
  refine HG.out.mono ?_
  rintro E W2 ⟨v, a', rfl, hR, hG2⟩
  have HR := Lib.hid hR
  clear hR
  by_cases he : e' = 0
  · subst he
    have HG2 := Lib.hid hG2
    clear hG2 HG
    go_wp2_with fail
    refine (good_any _ _ _ _ _ _ true HG2.out.1 rfl).mono ?_
    rintro E w' ⟨rfl, rfl⟩
    go_wp2_with fail
    go_ret
    exact ⟨v, a', HR.out, rfl, HG2.out⟩
  · have he2 : (e' == 0) = false := beq_eq_false_iff_ne.2 he
    have HE2 := Lib.hid he2
    obtain ⟨A', c', g0, g1, g2, k0, k1, k2, gle, gq, glt, ga⟩ := hG2.1.cells
    have HG2 := Lib.hid hG2
    have HE := Lib.hid he
    clear hG2 HG gq he2 he
    go_wp2_with fail
    refine (good_any _ _ _ _ _ _ false HG2.out.1 HE2.out).mono ?_
    rintro E w' ⟨rfl, rfl⟩
    go_wp2_with fail
    go_ret
    refine ⟨v, a', HR.out, ?_⟩
    rw [rsV, rsA, if_neg HE.out, if_neg HE.out]
    exact ⟨rfl, HG2.out.1.setAt a ha, HG2.out.2.trans (gset _ _ _ _)⟩
theorem reads_byte (W : World) (p q : Nat) (B : List Int) (a : Nat) (g : FuncId) (hent : Enters Try.prog g) (lb : Array Value) (v : Int) (a' : Nat) (e' : Int) (hC : Cur W p q B a 0)
    (hg : Calls Try.prog g lb W fun E w' => E = .returned (.int .u8 v) ∧ Goes W w' p q B a' e') :
    Calls Try.prog 127 #[.pointer (some ⟨p, 0, none⟩), .func (.func g) #[] lb] W fun E w' => E = .returned (.int .u8 (rsV v e')) ∧ Goes W w' p q B (rsA a a' e') e' :=
  (reads_ex_byte W p q B a g hent lb (fun x n => x = v ∧ n = a') e' hC (hg.mono fun E w' h => ⟨v, a', h.1, ⟨rfl, rfl⟩, h.2⟩)).mono fun E w' h => by
    obtain ⟨x, n, ⟨rfl, rfl⟩, h1, h2⟩ := h
    exact ⟨h1, h2⟩
set_option maxRecDepth 100000 in
theorem reads_bad_uint32 (W : World) (p q : Nat) (B : List Int) (a : Nat) (e : Int) (f : Value) (hC : Cur W p q B a e) (he : (e == 0) = false) :
    Calls Try.prog 155 #[.pointer (some ⟨p, 0, none⟩), f] W fun E w' => E = .returned (.int .u32 0) ∧ W = w' := by
  have HC := Lib.hid hC
  have HE := Lib.hid he
  clear hC he
  go_enter Try.func155, Try.ntmps155
  go_wp2_with (go_at_call 152; refine (good_any _ _ _ _ _ _ false HC.out HE.out).mono ?_; rintro e w' ⟨rfl, rfl⟩)
  go_ret
  exact ⟨rfl, rfl⟩
set_option maxRecDepth 100000 in
theorem reads_ex_uint32 (W : World) (p q : Nat) (B : List Int) (a : Nat) (g : FuncId) (hent : Enters Try.prog g) (lb : Array Value) (R : Int → Nat → Prop) (e' : Int) (hC : Cur W p q B a 0)
    (hg : Calls Try.prog g lb W fun E w' => ∃ v nx, E = .returned (.int .u32 v) ∧ R v nx ∧ Goes W w' p q B nx e') :
    Calls Try.prog 155 #[.pointer (some ⟨p, 0, none⟩), .func (.func g) #[] lb] W (RsPost (Value.int .u32) W p q B a e' R) := by
  have HC := Lib.hid hC
  have HG := Lib.hid hg
  obtain ⟨A, c, c0, c1, c2, f0, f1, f2, hle, hq, hlt, ha⟩ := hC.cells
  have hin : ∀ args w, Sem.run Try.prog (callFunc g args) w = .ok (.enter g args) w := hent
  clear hC hg hq hent
  go_enter Try.func155, Try.ntmps155
  go_wp2_with fail
  refine (good_any _ _ _ _ _ _ true HC.out rfl).mono ?_
  rintro E w' ⟨rfl, rfl⟩
  go_wp2_with fail
  refine HG.out.mono ?_
  rintro E W2 ⟨v, a', rfl, hR, hG2⟩
  have HR := Lib.hid hR
  clear hR
  by_cases he : e' = 0
  · subst he
    have HG2 := Lib.hid hG2
    clear hG2 HG
    go_wp2_with fail
    refine (good_any _ _ _ _ _ _ true HG2.out.1 rfl).mono ?_
    rintro E w' ⟨rfl, rfl⟩
    go_wp2_with fail
    go_ret
    exact ⟨v, a', HR.out, rfl, HG2.out⟩
  · have he2 : (e' == 0) = false := beq_eq_false_iff_ne.2 he
    have HE2 := Lib.hid he2
    obtain ⟨A', c', g0, g1, g2, k0, k1, k2, gle, gq, glt, ga⟩ := hG2.1.cells
    have HG2 := Lib.hid hG2
    have HE := Lib.hid he
    clear hG2 HG gq he2 he
    go_wp2_with fail
    refine (good_any _ _ _ _ _ _ false HG2.out.1 HE2.out).mono ?_
    rintro E w' ⟨rfl, rfl⟩
    go_wp2_with fail
    go_ret
    refine ⟨v, a', HR.out, ?_⟩
    rw [rsV, rsA, if_neg HE.out, if_neg HE.out]
    exact ⟨rfl, HG2.out.1.setAt a ha, HG2.out.2.trans (gset _ _ _ _)⟩
theorem reads_uint32 (W : World) (p q : Nat) (B : List Int) (a : Nat) (g : FuncId) (hent : Enters Try.prog g) (lb : Array Value) (v : Int) (a' : Nat) (e' : Int) (hC : Cur W p q B a 0)
    (hg : Calls Try.prog g lb W fun E w' => E = .returned (.int .u32 v) ∧ Goes W w' p q B a' e') :
    Calls Try.prog 155 #[.pointer (some ⟨p, 0, none⟩), .func (.func g) #[] lb] W fun E w' => E = .returned (.int .u32 (rsV v e')) ∧ Goes W w' p q B (rsA a a' e') e' :=
  (reads_ex_uint32 W p q B a g hent lb (fun x n => x = v ∧ n = a') e' hC (hg.mono fun E w' h => ⟨v, a', h.1, ⟨rfl, rfl⟩, h.2⟩)).mono fun E w' h => by
    obtain ⟨x, n, ⟨rfl, rfl⟩, h1, h2⟩ := h
    exact ⟨h1, h2⟩
set_option maxRecDepth 100000 in
theorem reads_bad_uint64 (W : World) (p q : Nat) (B : List Int) (a : Nat) (e : Int) (f : Value) (hC : Cur W p q B a e) (he : (e == 0) = false) :
    Calls Try.prog 162 #[.pointer (some ⟨p, 0, none⟩), f] W fun E w' => E = .returned (.int .u64 0) ∧ W = w' := by
  have HC := Lib.hid hC
  have HE := Lib.hid he
  clear hC he
  go_enter Try.func162, Try.ntmps162
  go_wp2_with (go_at_call 152; refine (good_any _ _ _ _ _ _ false HC.out HE.out).mono ?_; rintro e w' ⟨rfl, rfl⟩)
  go_ret
  exact ⟨rfl, rfl⟩
set_option maxRecDepth 100000 in
theorem reads_ex_uint64 (W : World) (p q : Nat) (B : List Int) (a : Nat) (g : FuncId) (hent : Enters Try.prog g) (lb : Array Value) (R : Int → Nat → Prop) (e' : Int) (hC : Cur W p q B a 0)
    (hg : Calls Try.prog g lb W fun E w' => ∃ v nx, E = .returned (.int .u64 v) ∧ R v nx ∧ Goes W w' p q B nx e') :
    Calls Try.prog 162 #[.pointer (some ⟨p, 0, none⟩), .func (.func g) #[] lb] W (RsPost (Value.int .u64) W p q B a e' R) := by
  have HC := Lib.hid hC
  have HG := Lib.hid hg
  obtain ⟨A, c, c0, c1, c2, f0, f1, f2, hle, hq, hlt, ha⟩ := hC.cells
  have hin : ∀ args w, Sem.run Try.prog (callFunc g args) w = .ok (.enter g args) w := hent
  clear hC hg hq hent
  go_enter Try.func162, Try.ntmps162
  go_wp2_with fail
  refine (good_any _ _ _ _ _ _ true HC.out rfl).mono ?_
  rintro E w' ⟨rfl, rfl⟩
  go_wp2_with fail
  refine HG.out.mono ?_
  rintro E W2 ⟨v, a', rfl, hR, hG2⟩
  have HR := Lib.hid hR
  clear hR
  by_cases he : e' = 0
  · subst he
    have HG2 := Lib.hid hG2
    clear hG2 HG
    go_wp2_with fail
    refine (good_any _ _ _ _ _ _ true HG2.out.1 rfl).mono ?_
    rintro E w' ⟨rfl, rfl⟩
    go_wp2_with fail
    go_ret
    exact ⟨v, a', HR.out, rfl, HG2.out⟩
  · have he2 : (e' == 0) = false := beq_eq_false_iff_ne.2 he
    have HE2 := Lib.hid he2
    obtain ⟨A', c', g0, g1, g2, k0, k1, k2, gle, gq, glt, ga⟩ := hG2.1.cells
    have HG2 := Lib.hid hG2
    have HE := Lib.hid he
    clear hG2 HG gq he2 he
    go_wp2_with fail
    refine (good_any _ _ _ _ _ _ false HG2.out.1 HE2.out).mono ?_
    rintro E w' ⟨rfl, rfl⟩
    go_wp2_with fail
    go_ret
    refine ⟨v, a', HR.out, ?_⟩
    rw [rsV, rsA, if_neg HE.out, if_neg HE.out]
    exact ⟨rfl, HG2.out.1.setAt a ha, HG2.out.2.trans (gset _ _ _ _)⟩
theorem reads_uint64 (W : World) (p q : Nat) (B : List Int) (a : Nat) (g : FuncId) (hent : Enters Try.prog g) (lb : Array Value) (v : Int) (a' : Nat) (e' : Int) (hC : Cur W p q B a 0)
    (hg : Calls Try.prog g lb W fun E w' => E = .returned (.int .u64 v) ∧ Goes W w' p q B a' e') :
    Calls Try.prog 162 #[.pointer (some ⟨p, 0, none⟩), .func (.func g) #[] lb] W fun E w' => E = .returned (.int .u64 (rsV v e')) ∧ Goes W w' p q B (rsA a a' e') e' :=
  (reads_ex_uint64 W p q B a g hent lb (fun x n => x = v ∧ n = a') e' hC (hg.mono fun E w' h => ⟨v, a', h.1, ⟨rfl, rfl⟩, h.2⟩)).mono fun E w' h => by
    obtain ⟨x, n, ⟨rfl, rfl⟩, h1, h2⟩ := h
    exact ⟨h1, h2⟩
set_option maxRecDepth 100000 in
theorem reads_bad_int (W : World) (p q : Nat) (B : List Int) (a : Nat) (e : Int) (f : Value) (hC : Cur W p q B a e) (he : (e == 0) = false) :
    Calls Try.prog 176 #[.pointer (some ⟨p, 0, none⟩), f] W fun E w' => E = .returned (.int .i64 0) ∧ W = w' := by
  have HC := Lib.hid hC
  have HE := Lib.hid he
  clear hC he
  go_enter Try.func176, Try.ntmps176
  go_wp2_with (go_at_call 152; refine (good_any _ _ _ _ _ _ false HC.out HE.out).mono ?_; rintro e w' ⟨rfl, rfl⟩)
  go_ret
  exact ⟨rfl, rfl⟩
set_option maxRecDepth 100000 in
theorem reads_ex_int (W : World) (p q : Nat) (B : List Int) (a : Nat) (g : FuncId) (hent : Enters Try.prog g) (lb : Array Value) (R : Int → Nat → Prop) (e' : Int) (hC : Cur W p q B a 0)
    (hg : Calls Try.prog g lb W fun E w' => ∃ v nx, E = .returned (.int .i64 v) ∧ R v nx ∧ Goes W w' p q B nx e') :
    Calls Try.prog 176 #[.pointer (some ⟨p, 0, none⟩), .func (.func g) #[] lb] W (RsPost (Value.int .i64) W p q B a e' R) := by
  have HC := Lib.hid hC
  have HG := Lib.hid hg
  obtain ⟨A, c, c0, c1, c2, f0, f1, f2, hle, hq, hlt, ha⟩ := hC.cells
  have hin : ∀ args w, Sem.run Try.prog (callFunc g args) w = .ok (.enter g args) w := hent
  clear hC hg hq hent
  go_enter Try.func176, Try.ntmps176
  go_wp2_with fail
  refine (good_any _ _ _ _ _ _ true HC.out rfl).mono ?_
  rintro E w' ⟨rfl, rfl⟩
  go_wp2_with fail
  refine HG.out.mono ?_
  rintro E W2 ⟨v, a', rfl, hR, hG2⟩
  have HR := Lib.hid hR
  clear hR
  by_cases he : e' = 0
  · subst he
    have HG2 := Lib.hid hG2
    clear hG2 HG
    go_wp2_with fail
    refine (good_any _ _ _ _ _ _ true HG2.out.1 rfl).mono ?_
    rintro E w' ⟨rfl, rfl⟩
    go_wp2_with fail
    go_ret
    exact ⟨v, a', HR.out, rfl, HG2.out⟩
  · have he2 : (e' == 0) = false := beq_eq_false_iff_ne.2 he
    have HE2 := Lib.hid he2
    obtain ⟨A', c', g0, g1, g2, k0, k1, k2, gle, gq, glt, ga⟩ := hG2.1.cells
    have HG2 := Lib.hid hG2
    have HE := Lib.hid he
    clear hG2 HG gq he2 he
    go_wp2_with fail
    refine (good_any _ _ _ _ _ _ false HG2.out.1 HE2.out).mono ?_
    rintro E w' ⟨rfl, rfl⟩
    go_wp2_with fail
    go_ret
    refine ⟨v, a', HR.out, ?_⟩
    rw [rsV, rsA, if_neg HE.out, if_neg HE.out]
    exact ⟨rfl, HG2.out.1.setAt a ha, HG2.out.2.trans (gset _ _ _ _)⟩
theorem reads_int (W : World) (p q : Nat) (B : List Int) (a : Nat) (g : FuncId) (hent : Enters Try.prog g) (lb : Array Value) (v : Int) (a' : Nat) (e' : Int) (hC : Cur W p q B a 0)
    (hg : Calls Try.prog g lb W fun E w' => E = .returned (.int .i64 v) ∧ Goes W w' p q B a' e') :
    Calls Try.prog 176 #[.pointer (some ⟨p, 0, none⟩), .func (.func g) #[] lb] W fun E w' => E = .returned (.int .i64 (rsV v e')) ∧ Goes W w' p q B (rsA a a' e') e' :=
  (reads_ex_int W p q B a g hent lb (fun x n => x = v ∧ n = a') e' hC (hg.mono fun E w' h => ⟨v, a', h.1, ⟨rfl, rfl⟩, h.2⟩)).mono fun E w' h => by
    obtain ⟨x, n, ⟨rfl, rfl⟩, h1, h2⟩ := h
    exact ⟨h1, h2⟩
end Go.Proofs.Ytfndlpfceokloaa
end
section
namespace Go.Proofs.Ytfndlpfceokloaa
open Go.RowKit Go.Shelf YtfndlpfceokloaaB Go.Proofs.YtfndlpfceokloaaW.PrintWords
theorem Goes.of_alloc {W W' : World} {p q : Nat} {B : List Int} {a : Nat} {e : Int} {o : Obj} (h : Goes (W.alloc o) W' p q B a e) : Goes W W' p q B a e := ⟨h.1, (World.grownBy_alloc W o _).trans h.2⟩
/-- A closure's door: the fact that each is entered. -/
theorem ent_Byte1 : Enters Try.prog 128 := enters_of Try.func128 (by kernel_rfl) rfl
theorem ent_U321 : Enters Try.prog 156 := enters_of Try.func156 (by kernel_rfl) rfl
theorem ent_S321 : Enters Try.prog 160 := enters_of Try.func160 (by kernel_rfl) rfl
theorem ent_S641 : Enters Try.prog 163 := enters_of Try.func163 (by kernel_rfl) rfl
theorem ent_Fixed1 : Enters Try.prog 164 := enters_of Try.func164 (by kernel_rfl) rfl
theorem ent_Count1 : Enters Try.prog 177 := enters_of Try.func177 (by kernel_rfl) rfl
theorem ent_among1 : Enters Try.prog 182 := enters_of Try.func182 (by kernel_rfl) rfl
theorem ent_lU1 : Enters Try.prog 175 := enters_of Try.func175 (by kernel_rfl) rfl
theorem ent_lS1 : Enters Try.prog 178 := enters_of Try.func178 (by kernel_rfl) rfl
theorem ent_lU : Enters Try.prog 158 := enters_of Try.func158 (by kernel_rfl) rfl
theorem ent_lS : Enters Try.prog 161 := enters_of Try.func161 (by kernel_rfl) rfl
def rdByte (B : List Int) (a : Nat) (e : Int) : Int × Nat × Int := if e = 0 then (match B[a]? with | some x => (x, a + 1, 0) | none => (0, a, 100)) else (0, a, e)
set_option maxRecDepth 100000 in
theorem Byte1_any (W : World) (p q r : Nat) (B : List Int) (a : Nat) (hC : Cur W p q B a 0) (hB : Byts B) (hr : W.cell? ⟨r, 0, none⟩ = some (.pointer (some ⟨p, 0, none⟩))) :
    Calls Try.prog 128 #[.pointer (some ⟨r, 0, none⟩)] W fun E w' => E = .returned (.int .u8 (rdByte B a 0).1) ∧ Goes W w' p q B (rdByte B a 0).2.1 (rdByte B a 0).2.2 := by
  have hl := hB.1
  have ha := hC.2.1
  rcases Nat.lt_or_ge a B.length with hlt | hge
  · have hx : B[a]? = some B[a] := List.getElem?_eq_getElem hlt
    have HV := Lib.hid (show rdByte B a 0 = (B[a], a + 1, 0) from by simp [rdByte, hx])
    have HT := Lib.hid (take_yes W p q B a 1 hC hB (by omega))
    have hxx : ((B.drop a).take 1)[0]? = some B[a] := by rw [List.getElem?_take, if_pos (by omega), List.getElem?_drop]; exact hx
    have HX := Lib.hid hxx
    have hl1 : ((B.drop a).take 1).length = 1 := by rw [List.length_take, List.length_drop]; omega
    have HL := Lib.hid hl1
    clear hC hB hxx hl1 hx
    go_enter Try.func128, Try.ntmps128
    go_wp2_with fail
    refine HT.out.mono ?_
    rintro E W1 ⟨⟨A', c', rfl, hq⟩, hG⟩
    have HG := Lib.hid hG
    obtain ⟨o, rfl, hc⟩ := hq (by rw [HL.out]; omega)
    have x0 : W1.cell? ⟨q, o, none⟩ = some (.int .u8 B[a]) := hc 0 _ HX.out
    clear hG hq hc HT
    go_wp2_with fail
    go_ret
    rw [HV.out]
    exact ⟨rfl, HG.out⟩
  · obtain rfl : a = B.length := by omega
    have HV := Lib.hid (show rdByte B B.length 0 = (0, B.length, 100) from by simp [rdByte])
    have HT := Lib.hid (take_no W p q B B.length 1 hC hB (by omega) (by omega))
    clear hC hB
    go_enter Try.func128, Try.ntmps128
    go_wp2_with fail
    refine HT.out.mono ?_
    rintro E W1 ⟨rfl, hG⟩
    have HG := Lib.hid hG
    clear hG HT
    go_wp2_with fail
    go_ret
    rw [HV.out]
    exact ⟨rfl, HG.out⟩
set_option maxRecDepth 100000 in
theorem Byte_any (W : World) (p q : Nat) (B : List Int) (a : Nat) (e : Int) (hC : Cur W p q B a e) (hB : Byts B) :
    Calls Try.prog 117 #[.pointer (some ⟨p, 0, none⟩)] W fun E w' => E = .returned (.int .u8 (rdByte B a e).1) ∧ Goes W w' p q B (rdByte B a e).2.1 (rdByte B a e).2.2 := by
  have hC2 := hC.alloc (.cells #[.pointer (some ⟨p, 0, none⟩)] 144)
  by_cases he : e = 0
  · subst he
    have H := Lib.hid (reads_byte _ p q B a _ ent_Byte1 #[.pointer (some ⟨W.heap.size, 0, none⟩)] _ _ _ hC2 (Byte1_any _ p q W.heap.size B a hC2 hB (by rw [(Blk.new W #[.pointer (some ⟨p, 0, none⟩)] 144).cell 0]; rfl)))
    have HV := Lib.hid (show rsV (rdByte B a 0).1 (rdByte B a 0).2.2 = (rdByte B a 0).1 ∧ rsA a (rdByte B a 0).2.1 (rdByte B a 0).2.2 = (rdByte B a 0).2.1 from by
      unfold rdByte rsV rsA; cases B[a]? <;> simp)
    clear hC hC2 hB
    go_enter Try.func117, Try.ntmps117
    go_wp2_with fail
    refine H.out.mono ?_
    rintro E W1 ⟨rfl, hG⟩
    rw [HV.out.1]
    rw [HV.out.2] at hG
    have HG := Lib.hid hG
    clear hG H
    go_wp2_with fail
    go_ret
    exact ⟨rfl, HG.out.of_alloc⟩
  · have H := Lib.hid (reads_bad_byte _ p q B a e (.func (.func 128) #[] #[.pointer (some ⟨W.heap.size, 0, none⟩)]) hC2 (beq_eq_false_iff_ne.2 he))
    have HV := Lib.hid (show rdByte B a e = (0, a, e) from by simp [rdByte, he])
    have HG := Lib.hid (Goes.of_alloc (Goes.same hC2))
    clear hC hC2 hB he
    go_enter Try.func117, Try.ntmps117
    go_wp2_with fail
    refine H.out.mono ?_
    rintro E W1 ⟨rfl, rfl⟩
    go_wp2_with fail
    go_ret
    rw [HV.out]
    exact ⟨rfl, HG.out⟩
end Go.Proofs.Ytfndlpfceokloaa
end
section
namespace Go.Proofs.YtfndlpfceokloaaB
open Go.RowKit
theorem leb_or (n x h : Nat) (hx : x < 256) (hh : h ≤ 63) (hn : n < 2 ^ h) :
    bits .or .u64 (n : Int) (IntKind.u64.wrap (IntKind.u64.wrap (bits .and .u8 (x : Int) 127) * 2 ^ h)) = (((n + (x % 128) * 2 ^ h) % 18446744073709551616 : Nat) : Int) := by
  have h1 : bits .and .u8 (x : Int) 127 = ((x % 128 : Nat) : Int) := by
    have := u8_and_nat x 127 hx (by omega)
    rw [show ((127 : Nat) : Int) = 127 from rfl] at this
    rw [this, show x &&& 127 = x % 128 from Nat.and_two_pow_sub_one_eq_mod x 7]
  have h2 : IntKind.u64.wrap ((x % 128 : Nat) : Int) = ((x % 128 : Nat) : Int) := by rw [IntKind.wrap_u64]; omega
  rw [h1, h2]
  generalize hm : x % 128 = m
  have hm2 : m < 128 := by omega
  have hp : (18446744073709551616 : Nat) = 2 ^ (64 - h) * 2 ^ h := by rw [← Nat.pow_add, show 64 - h + h = 64 from by omega]
  have h3 : IntKind.u64.wrap ((m : Int) * 2 ^ h) = (((m * 2 ^ h) % 18446744073709551616 : Nat) : Int) := by
    rw [IntKind.wrap_u64, Int.natCast_emod, Int.natCast_mul, Int.natCast_pow]
    rfl
  rw [h3]
  have h63 : 2 ^ h ≤ 2 ^ 63 := Nat.pow_le_pow_right (by omega) hh
  have hy : (m * 2 ^ h) % 18446744073709551616 = (m % 2 ^ (64 - h)) * 2 ^ h := by rw [hp, Nat.mul_mod_mul_right]
  have hlt : m % 2 ^ (64 - h) + 1 ≤ 2 ^ (64 - h) := Nat.mod_lt _ (Nat.two_pow_pos _)
  have hlt2 : (m % 2 ^ (64 - h) + 1) * 2 ^ h ≤ 18446744073709551616 := by rw [hp]; exact Nat.mul_le_mul_right _ hlt
  have hlt3 : (m % 2 ^ (64 - h)) * 2 ^ h + 2 ^ h ≤ 18446744073709551616 := by rw [Nat.add_mul, Nat.one_mul] at hlt2; exact hlt2
  have hs : (n + m * 2 ^ h) % 18446744073709551616 = (n + (m % 2 ^ (64 - h)) * 2 ^ h) % 18446744073709551616 := by
    rw [← hy, Nat.add_mod_mod]
  have hmod : ((m % 2 ^ (64 - h)) * 2 ^ h) % 2 ^ h = 0 := Nat.mul_mod_left _ _
  rw [hs, u64_or_nat _ _ (by omega) (Nat.mod_lt _ (by omega)), hy]
  generalize (m % 2 ^ (64 - h)) * 2 ^ h = y at *
  have hny : n + y < 18446744073709551616 := by omega
  rw [Nat.or_comm, nat_join h _ n hmod hn, Nat.mod_eq_of_lt hny, Nat.add_comm]
/-- The groups of a number that is read: what they are together, how many bits, how many bytes. -/
def lebG (lst : Int → Int → Bool) : List Int → Nat → Except Int (Nat × Nat × Nat)
  | [], _ => .error 100
  | x :: r, l => if x < 128 then (if lst x l then .ok (x.toNat, 7, 1) else .error 101) else if l ≤ 7 then .error 101 else
      match lebG lst r (l - 7) with
      | .error e => .error e
      | .ok (m, h, c) => .ok ((x - 128).toNat + 128 * m, h + 7, c + 1)
/-- A first part is read already: n0, k groups. -/
def lebC (n0 k : Nat) : Except Int (Nat × Nat × Nat) → Except Int (Nat × Nat × Nat)
  | .error e => .error e
  | .ok (m, h, c) => .ok (n0 + 2 ^ (7 * k) * m, h + 7 * k, c + k)
theorem lebC_0 (r : Except Int (Nat × Nat × Nat)) : lebC 0 0 r = r := by
  cases r with
  | error e => rfl
  | ok x => obtain ⟨m, h, c⟩ := x; simp [lebC]
theorem lebC_step (lst : Int → Int → Bool) (n0 k l : Nat) (x : Int) (r : List Int) (hx : ¬ x < 128) (hl : ¬ l ≤ 7) (hx2 : x ≤ 255) :
    lebC n0 k (lebG lst (x :: r) l) = lebC (n0 + (x.toNat % 128) * 2 ^ (7 * k)) (k + 1) (lebG lst r (l - 7)) := by
  rw [lebG, if_neg hx, if_neg hl]
  cases lebG lst r (l - 7) with
  | error e => rfl
  | ok y =>
    obtain ⟨m, h, c⟩ := y
    have e1 : (x - 128).toNat = x.toNat % 128 := by omega
    simp only [lebC, e1, Except.ok.injEq, Prod.mk.injEq]
    refine ⟨?_, by omega, by omega⟩
    rw [show 7 * (k + 1) = 7 * k + 7 from by omega, Nat.pow_add, show (2 : Nat) ^ 7 = 128 from rfl, Nat.mul_add, Nat.mul_comm (x.toNat % 128), Nat.add_assoc, Nat.mul_assoc]
theorem lebG_drop {lst : Int → Int → Bool} {B : List Int} {a : Nat} {x : Int} (h : B[a]? = some x) (l : Nat) : lebG lst (B.drop a) l = lebG lst (x :: B.drop (a + 1)) l := by
  obtain ⟨hj, hxe⟩ := List.getElem?_eq_some_iff.1 h
  rw [List.drop_eq_getElem_cons hj, hxe]
theorem lebG_nil {lst : Int → Int → Bool} {B : List Int} (l : Nat) : lebG lst (B.drop B.length) l = .error 100 := by rw [List.drop_length]; rfl
theorem lebG_c {lst : Int → Int → Bool} : ∀ (R : List Int) (l : Nat) (m h c : Nat), lebG lst R l = .ok (m, h, c) → 1 ≤ c ∧ c ≤ R.length
  | [], l, m, h, c, e => by simp [lebG] at e
  | x :: r, l, m, h, c, e => by
    rw [lebG] at e
    split at e
    · split at e
      · simp at e; simp; omega
      · cases e
    · split at e
      · cases e
      · cases hr : lebG lst r (l - 7) with
        | error e' => rw [hr] at e; cases e
        | ok y =>
          obtain ⟨m', h', c'⟩ := y
          rw [hr] at e
          simp at e
          have := lebG_c r (l - 7) m' h' c' hr
          simp
          omega
theorem leb_bound (n x h : Nat) (hn : n < 2 ^ h) : n + x % 128 * 2 ^ h < 2 ^ (h + 7) := by
  have h1 : x % 128 + 1 ≤ 128 := Nat.mod_lt _ (by omega)
  have h2 := Nat.mul_le_mul_right (2 ^ h) h1
  rw [Nat.pow_add, show (2 : Nat) ^ 7 = 128 from rfl, Nat.mul_comm (2 ^ h)]
  rw [Nat.add_mul, Nat.one_mul] at h2
  omega
theorem leb_small (n h : Nat) (hn : n < 2 ^ h) (hh : h ≤ 64) : n % 18446744073709551616 = n := by
  refine Nat.mod_eq_of_lt (Nat.lt_of_lt_of_le hn ?_)
  exact Nat.pow_le_pow_right (n := 2) (by omega) hh
end Go.Proofs.YtfndlpfceokloaaB
end
section
namespace Go.Proofs.Ytfndlpfceokloaa
open Go.RowKit Go.Shelf YtfndlpfceokloaaB Go.Proofs.YtfndlpfceokloaaW.PrintWords
/-- A series at p: its three cells. -/
def Ser (W : World) (p : Nat) (n h l : Int) : Prop := Blk W p #[.int .u64 n, .int .i64 h, .int .i64 l] 310
set_option maxRecDepth 100000 in
theorem take_leb (W : World) (p : Nat) (n h : Nat) (l x : Int) (hS : Ser W p n h l) (hx : 0 ≤ x ∧ x ≤ 255) (hh : h ≤ 63) (hl : 0 ≤ l ∧ l ≤ 64) (hn : n < 2 ^ h) :
    Calls Try.prog 183 #[.pointer (some ⟨p, 0, none⟩), .int .u8 x] W fun E w' => E = .returned (.tuple #[]) ∧ Ser w' p (((n + (x.toNat % 128) * 2 ^ h) % 18446744073709551616 : Nat) : Int) (h + 7) (l - 7) ∧ W.grownBy w' (some p) := by
  have HV := Lib.hid (leb_or n x.toNat h (by omega) hh hn)
  obtain ⟨y, rfl⟩ := Int.eq_ofNat_of_zero_le hx.1
  rw [Int.toNat_natCast] at HV
  obtain ⟨M, hM⟩ : ∃ M : Int, (((n + (y % 128) * 2 ^ h) % 18446744073709551616 : Nat) : Int) = M := ⟨_, rfl⟩
  rw [hM] at HV
  rw [Int.toNat_natCast, hM]
  obtain ⟨N, hN⟩ : ∃ N : Int, (n : Int) = N := ⟨_, rfl⟩
  rw [hN] at HV hS
  have hy2 : (y : Int) ≤ 255 := hx.2
  have hh2 : (h : Int) ≤ 63 := by omega
  clear hM hn hN hx
  have c0 : W.cell? ⟨p, 0, none⟩ = some (.int .u64 N) := by rw [hS.cell]; rfl
  have c1 : W.cell? ⟨p, 1, none⟩ = some (.int .i64 h) := by rw [hS.cell]; rfl
  have c2 : W.cell? ⟨p, 2, none⟩ = some (.int .i64 l) := by rw [hS.cell]; rfl
  have f0 := hS.frozen 0
  have f1 := hS.frozen 1
  have f2 := hS.frozen 2
  have hlt := hS.lt
  have HS := Lib.hid hS
  clear hS
  go_enter Try.func183, Try.ntmps183
  go_wp2_with fail
  go_still_tail 15, (by kernel_rfl)
  change wpList _ _ _ _ _ W.drew
  go_wp2
  go_end0
  rw [HV.out]
  have h1 := ((HS.out.set 0 (.int .u64 M)).set 1 (.int .i64 ((h : Int) + 7))).set 2 (.int .i64 (l - 7))
  refine ⟨rfl, ?_, ((gset W p 0 (.int .u64 M)).trans ((gset _ p 1 (.int .i64 ((h : Int) + 7))).trans (gset _ p 2 (.int .i64 (l - 7))))).trans ⟨rfl, rfl, rfl, Nat.le_refl _, fun _ _ _ => rfl⟩⟩
  have h2 := h1.drew
  simp at h2
  exact h2
/-- What scan answers. -/
def ScanPost (W : World) (a bits : Nat) (r : Except Int (Nat × Nat × Nat)) (E : Ending) (w' : World) : Prop :=
  Below W.heap.size W w' ∧ (match r with
  | .error e => E = .returned (.tuple #[.agg #[.int .u64 0, .int .i64 0, .int .i64 0], .int .i64 0, .int .i64 e])
  | .ok (m, h, c) => ∃ l' : Int, E = .returned (.tuple #[.agg #[.int .u64 ((m % 18446744073709551616 : Nat) : Int), .int .i64 h, .int .i64 l'], .int .i64 ((a + c : Nat) : Int), .int .i64 0]))
set_option maxRecDepth 100000 in
set_option maxHeartbeats 2000000 in
theorem scan_leb (lst : Int → Int → Bool) (g : FuncId) (hent : Enters Try.prog g)
    (hg : ∀ (x l : Int) (W : World), 0 ≤ x → x < 128 → 1 ≤ l → l ≤ 64 → Calls Try.prog g #[.int .u8 x, .int .i64 l] W fun E w' => E = .returned (.bool (lst x l)) ∧ W = w')
    (W : World) (q : Nat) (A : Option Addr) (c : Nat) (B : List Int) (a bits : Nat) (hB : Byts B) (hQ : ByQ W q A B) (hc : B.length ≤ c) (ha : a ≤ B.length) (hb : 1 ≤ bits ∧ bits ≤ 64) :
    Calls Try.prog 174 #[.slice A B.length c, .int .i64 a, .int .i64 bits, .func (.func g) #[] #[]] W (ScanPost W a bits (lebG lst (B.drop a) bits)) := by
  have hin : ∀ args w, Sem.run Try.prog (callFunc g args) w = .ok (.enter g args) w := hent
  have HG := Lib.hid hg
  have hl := hB.1
  have HB := Lib.hid hB
  have hb1 := hb.1
  have hb2 := hb.2
  obtain ⟨A', hrun, hA'⟩ := cut_lo (P := Try.prog) 85 5 .i64 1 Try.underlying85 infoB A B.length c a (by omega)
  have HQ := Lib.hid (show ∀ j x, (B.drop a)[j]? = some x → ∃ o, A' = some ⟨q, o, none⟩ ∧ W.cell? ⟨q, o + j, none⟩ = some (.int .u8 x) from fun j x hj => by
    have hj2 : a + j < B.length := by rw [List.getElem?_drop] at hj; exact (List.getElem?_eq_some_iff.1 hj).1
    obtain ⟨o, rfl, hcc⟩ := hQ (by omega)
    refine ⟨o + a, by rw [hA' (by omega)]; simp [Addr.add]; try omega, ?_⟩
    rw [List.getElem?_drop] at hj
    rw [Nat.add_assoc]
    exact hcc _ _ hj)
  have HR := Lib.hid (lebC_0 (lebG lst (B.drop a) bits))
  have z1 : decide ((bits : Int) < 1) = false := by simp; omega
  have z2 : decide ((64 : Int) < (bits : Int)) = false := by simp; omega
  have z3 : decide ((a : Int) < 0) = false := by simp
  have z4 : decide (B.length < a) = false := by simp; omega
  clear hent hg hB hQ hA' hb
  go_enter Try.func174, Try.ntmps174
  go_wp2_with fail
  have HN := Blk.new W #[.int .u64 0, .int .i64 0, .int .i64 bits] 310
  go_loopw [1, 36] (fun u k wr => ∃ j n0 : Nat, a + j ≤ B.length ∧ 7 * j < bits ∧ u = .int .i64 ((a : Int) + j) ∧ k = .int .i64 j ∧ Hid (n0 < 2 ^ (7 * j)) ∧ Ser wr W.heap.size n0 (7 * j : Nat) ((bits : Int) - (7 * j : Nat)) ∧ Hid (lebG lst (B.drop a) bits = lebC n0 j (lebG lst (B.drop (a + j)) (bits - 7 * j))) ∧ Below W.heap.size W wr ∧ W.heap.size < wr.heap.size) (fun _ k _ => B.length - a - (intOf k).toNat)
  case atStart =>
    refine ⟨0, 0, ha, by omega, by simp, rfl, by show _ < _; simp, ?_, by show _ = _; rw [Nat.mul_zero, Nat.add_zero, Nat.sub_zero]; exact HR.out.symm, (Below.refl _ _).alloc (Nat.le_refl _) _, by simp⟩
    simpa [Ser] using HN
  case round =>
    obtain ⟨j, n0, hj1, hj2, rfl, rfl, hn0, hS, HE, hBl, hsz⟩ := hrel
    clear HN
    by_cases hlt : a + j < B.length
    · have hx : B[a + j]? = some B[a + j] := List.getElem?_eq_getElem hlt
      have hxb := HB.out.get hx
      have hxd : (B.drop a)[j]? = some B[a + j] := by rw [List.getElem?_drop]; exact hx
      obtain ⟨o, rfl, hcell⟩ := HQ.out j _ hxd
      have x0 := pw_cell_below hBl hcell
      have HX := Lib.hid hx
      clear hx hxd hcell
      generalize B[a + j] = x at *
      have hL : (((bits - 7 * j : Nat) : Nat) : Int) = (bits : Int) - (7 * j : Nat) := by omega
      obtain ⟨h, hh⟩ : ∃ h : Nat, h = 7 * j := ⟨_, rfl⟩
      rw [← hh] at hS hL hj2 hn0 HE
      obtain ⟨L, hLL⟩ : ∃ L : Int, L = (bits : Int) - h := ⟨_, rfl⟩
      rw [← hLL] at hS hL
      have hL1 : 1 ≤ L := by omega
      have hL2 : L ≤ 64 := by omega
      have c0 : wr.cell? ⟨W.heap.size, 0, none⟩ = some (.int .u64 (n0 : Int)) := by rw [hS.cell]; rfl
      have c1 : wr.cell? ⟨W.heap.size, 1, none⟩ = some (.int .i64 (h : Int)) := by rw [hS.cell]; rfl
      have c2 : wr.cell? ⟨W.heap.size, 2, none⟩ = some (.int .i64 L) := by rw [hS.cell]; rfl
      have f0 := hS.frozen 0
      have f1 := hS.frozen 1
      have f2 := hS.frozen 2
      have HS := Lib.hid hS
      have HL := Lib.hid hL
      have HH := Lib.hid hh
      have HLL := Lib.hid hLL
      have HBl := Lib.hid hBl
      have hbk : h ≤ 63 := by omega
      have hx0 := hxb.1
      have hx1 := hxb.2
      have HT := Lib.hid (fun W' (hS' : Ser W' W.heap.size (n0 : Int) (h : Int) L) => take_leb W' W.heap.size n0 h L x hS' hxb hbk ⟨by omega, hL2⟩ hn0.out)
      have HD := Lib.hid (lebG_drop (lst := lst) HX.out (bits - h))
      have HNB := Lib.hid (leb_bound n0 x.toNat h hn0.out)
      clear hS hL hh hLL hBl hxb HQ hn0 HX
      by_cases hx : x < 128
      · cases hls : lst x L with
        | false =>
          have HLs := Lib.hid hls
          have HP := Lib.hid (show lebG lst (B.drop a) bits = .error 101 from by rw [HE.out, HD.out, lebG, if_pos hx, HL.out, hls]; rfl)
          clear HE HD hls HT
          go_wp2_with fail
          refine (HG.out x L _ hx0 hx hL1 hL2).mono ?_
          rintro E w' ⟨rfl, rfl⟩
          rw [HLs.out]
          go_wp2_with fail
          have r0 := ((HS.out.set 0 (.int .u64 0)).set 1 (.int .i64 0)).set 2 (.int .i64 0)
          have hBf := ((HBl.out.setCell (p := ⟨W.heap.size, 0, none⟩) (Nat.le_refl _) (.int .u64 0)).setCell (p := ⟨W.heap.size, 1, none⟩) (Nat.le_refl _) (.int .i64 0)).setCell (p := ⟨W.heap.size, 2, none⟩) (Nat.le_refl _) (.int .i64 0)
          generalize ((wr.setCell ⟨W.heap.size, 0, none⟩ (.int .u64 0)).setCell ⟨W.heap.size, 1, none⟩ (.int .i64 0)).setCell ⟨W.heap.size, 2, none⟩ (.int .i64 0) = Wf at *
          have q0 : Wf.cell? ⟨W.heap.size, 0, none⟩ = some (.int .u64 0) := by rw [r0.cell]; rfl
          have q1 : Wf.cell? ⟨W.heap.size, 1, none⟩ = some (.int .i64 0) := by rw [r0.cell]; rfl
          have q2 : Wf.cell? ⟨W.heap.size, 2, none⟩ = some (.int .i64 0) := by rw [r0.cell]; rfl
          exact bodyPost_ret (v := .tuple #[.agg #[.int .u64 0, .int .i64 0, .int .i64 0], .int .i64 0, .int .i64 101]) (by simp [results, Try.results174, go_sem, q0, q1, q2]) rfl ⟨hBf, by rw [HP.out]⟩
        | true =>
          have HLs := Lib.hid hls
          have HP := Lib.hid (show lebG lst (B.drop a) bits = .ok (n0 + 2 ^ (7 * j) * x.toNat, 7 + 7 * j, 1 + j) from by rw [HE.out, HD.out, lebG, if_pos hx, HL.out, hls]; rfl)
          have HV := Lib.hid (show n0 + x.toNat % 128 * 2 ^ h = n0 + 2 ^ (7 * j) * x.toNat from by rw [← HH.out, Nat.mod_eq_of_lt (by omega), Nat.mul_comm])
          clear HE HD hls
          go_wp2_with fail
          refine (HG.out x L _ hx0 hx hL1 hL2).mono ?_
          rintro E w' ⟨rfl, rfl⟩
          rw [HLs.out]
          go_wp2_with fail
          refine (HT.out _ HS.out).mono ?_
          rintro E W2 ⟨rfl, hS2, hg2⟩
          rw [HV.out] at hS2
          have hBf := HBl.out.grown hg2 (by omega) (fun k e => by cases e; exact Nat.le_refl _)
          have c0' : W2.cell? ⟨W.heap.size, 0, none⟩ = some (.int .u64 (((n0 + 2 ^ (7 * j) * x.toNat) % 18446744073709551616 : Nat) : Int)) := by rw [hS2.cell]; rfl
          have c1' : W2.cell? ⟨W.heap.size, 1, none⟩ = some (.int .i64 ((h : Int) + 7)) := by rw [hS2.cell]; rfl
          have c2' : W2.cell? ⟨W.heap.size, 2, none⟩ = some (.int .i64 (L - 7)) := by rw [hS2.cell]; rfl
          obtain ⟨V, hV⟩ : ∃ V : Int, (((n0 + 2 ^ (7 * j) * x.toNat) % 18446744073709551616 : Nat) : Int) = V := ⟨_, rfl⟩
          rw [hV] at c0' hS2
          have HV2 := Lib.hid hV
          have k0 := hS2.frozen 0
          have k1 := hS2.frozen 1
          have k2 := hS2.frozen 2
          have HS2 := Lib.hid hS2
          have HBf := Lib.hid hBf
          clear hS2 hV hBf hg2 HT
          go_wp2_with fail
          have r0 := ((HS2.out.set 0 (.int .u64 V)).set 1 (.int .i64 ((h : Int) + 7))).set 2 (.int .i64 (L - 7))
          have hBf := ((HBf.out.setCell (p := ⟨W.heap.size, 0, none⟩) (Nat.le_refl _) (.int .u64 V)).setCell (p := ⟨W.heap.size, 1, none⟩) (Nat.le_refl _) (.int .i64 ((h : Int) + 7))).setCell (p := ⟨W.heap.size, 2, none⟩) (Nat.le_refl _) (.int .i64 (L - 7))
          generalize ((W2.setCell ⟨W.heap.size, 0, none⟩ (.int .u64 V)).setCell ⟨W.heap.size, 1, none⟩ (.int .i64 ((h : Int) + 7))).setCell ⟨W.heap.size, 2, none⟩ (.int .i64 (L - 7)) = Wf at *
          have q0 : Wf.cell? ⟨W.heap.size, 0, none⟩ = some (.int .u64 V) := by rw [r0.cell]; rfl
          have q1 : Wf.cell? ⟨W.heap.size, 1, none⟩ = some (.int .i64 ((h : Int) + 7)) := by rw [r0.cell]; rfl
          have q2 : Wf.cell? ⟨W.heap.size, 2, none⟩ = some (.int .i64 (L - 7)) := by rw [r0.cell]; rfl
          refine bodyPost_ret (v := .tuple #[.agg #[.int .u64 V, .int .i64 ((h : Int) + 7), .int .i64 (L - 7)], .int .i64 ((a : Int) + j + 1), .int .i64 0]) (by simp [results, Try.results174, go_sem, q0, q1, q2]) rfl ⟨hBf, ?_⟩
          rw [HP.out]
          refine ⟨L - 7, ?_⟩
          rw [HV2.out, show ((7 + 7 * j : Nat) : Int) = (h : Int) + 7 from by rw [HH.out]; omega, show ((a + (1 + j) : Nat) : Int) = (a : Int) + j + 1 from by omega]
      · by_cases hl7 : L ≤ 7
        · have HP := Lib.hid (show lebG lst (B.drop a) bits = .error 101 from by rw [HE.out, HD.out, lebG, if_neg hx, if_pos (by have := HL.out; omega)]; rfl)
          clear HE HD HT
          go_wp2_with fail
          have r0 := ((HS.out.set 0 (.int .u64 0)).set 1 (.int .i64 0)).set 2 (.int .i64 0)
          have hBf := ((HBl.out.setCell (p := ⟨W.heap.size, 0, none⟩) (Nat.le_refl _) (.int .u64 0)).setCell (p := ⟨W.heap.size, 1, none⟩) (Nat.le_refl _) (.int .i64 0)).setCell (p := ⟨W.heap.size, 2, none⟩) (Nat.le_refl _) (.int .i64 0)
          generalize ((wr.setCell ⟨W.heap.size, 0, none⟩ (.int .u64 0)).setCell ⟨W.heap.size, 1, none⟩ (.int .i64 0)).setCell ⟨W.heap.size, 2, none⟩ (.int .i64 0) = Wf at *
          have q0 : Wf.cell? ⟨W.heap.size, 0, none⟩ = some (.int .u64 0) := by rw [r0.cell]; rfl
          have q1 : Wf.cell? ⟨W.heap.size, 1, none⟩ = some (.int .i64 0) := by rw [r0.cell]; rfl
          have q2 : Wf.cell? ⟨W.heap.size, 2, none⟩ = some (.int .i64 0) := by rw [r0.cell]; rfl
          exact bodyPost_ret (v := .tuple #[.agg #[.int .u64 0, .int .i64 0, .int .i64 0], .int .i64 0, .int .i64 101]) (by simp [results, Try.results174, go_sem, q0, q1, q2]) rfl ⟨hBf, by rw [HP.out]⟩
        · have HP := Lib.hid (show lebG lst (B.drop a) bits = lebC (n0 + x.toNat % 128 * 2 ^ h) (j + 1) (lebG lst (B.drop (a + (j + 1))) (bits - (h + 7))) from by
            have hc := lebC_step lst n0 j (bits - h) x (B.drop (a + j + 1)) hx (by have := HL.out; omega) hx1
            rw [HE.out, HD.out, hc, HH.out]; rfl)
          clear HE HD
          go_wp2_with fail
          refine (HT.out _ HS.out).mono ?_
          rintro E W2 ⟨rfl, hS2, hg2⟩
          have hBf := Lib.hid (HBl.out.grown hg2 (by omega) (fun k e => by cases e; exact Nat.le_refl _))
          have hsz2 := hg2.size
          have HS2 := Lib.hid hS2
          clear hS2 hg2 HT
          go_wp2_with fail
          go_roundw
          case rel =>
            have hjj : 7 * (j + 1) = h + 7 := by have := HH.out; omega
            have hlt2 : h + 7 < bits := by have := HLL.out; omega
            refine ⟨j + 1, n0 + x.toNat % 128 * 2 ^ h, by omega, by omega, (by first | go_num | (congr 1; done) | (congr 1; omega)), by go_num, ?_, ?_, ?_, hBf.out, by omega⟩
            · show _ < _
              rw [hjj]; exact HNB.out
            · have h3 := HS2.out
              rw [leb_small _ (h + 7) HNB.out (by omega)] at h3
              rw [hjj, show (bits : Int) - ((h + 7 : Nat) : Int) = L - 7 from by have := HLL.out; omega]
              exact h3
            · show _ = _
              rw [hjj]; exact HP.out
          case measure => simp [intOf]; omega
    · obtain rfl : j = B.length - a := by omega
      have HP := Lib.hid (show lebG lst (B.drop a) bits = .error 100 from by rw [HE.out, show a + (B.length - a) = B.length from by omega, lebG_nil]; rfl)
      have HS := Lib.hid hS
      have HBl := Lib.hid hBl
      have f0 := hS.frozen 0
      have f1 := hS.frozen 1
      have f2 := hS.frozen 2
      have hsc0 : (wr.cell? ⟨W.heap.size, 0, none⟩).isSome = true := by rw [hS.cell]; rfl
      have hsc1 : (wr.cell? ⟨W.heap.size, 1, none⟩).isSome = true := by rw [hS.cell]; rfl
      have hsc2 : (wr.cell? ⟨W.heap.size, 2, none⟩).isSome = true := by rw [hS.cell]; rfl
      have c0 : wr.cell? ⟨W.heap.size, 0, none⟩ = some (.int .u64 (n0 : Int)) := by rw [hS.cell]; rfl
      obtain ⟨h, hh⟩ : ∃ h : Int, h = ((7 * (B.length - a) : Nat) : Int) := ⟨_, rfl⟩
      rw [← hh] at HS hS
      have c1 : wr.cell? ⟨W.heap.size, 1, none⟩ = some (.int .i64 h) := by rw [hS.cell]; rfl
      have c2 : wr.cell? ⟨W.heap.size, 2, none⟩ = some (.int .i64 (bits - h)) := by rw [hS.cell]; rfl
      clear hS HE hBl hn0 hh hsc0 hsc1 hsc2 HQ
      go_wp2_with fail
      have r0 := ((HS.out.set 0 (.int .u64 0)).set 1 (.int .i64 0)).set 2 (.int .i64 0)
      have hBf := ((HBl.out.setCell (p := ⟨W.heap.size, 0, none⟩) (Nat.le_refl _) (.int .u64 0)).setCell (p := ⟨W.heap.size, 1, none⟩) (Nat.le_refl _) (.int .i64 0)).setCell (p := ⟨W.heap.size, 2, none⟩) (Nat.le_refl _) (.int .i64 0)
      generalize ((wr.setCell ⟨W.heap.size, 0, none⟩ (.int .u64 0)).setCell ⟨W.heap.size, 1, none⟩ (.int .i64 0)).setCell ⟨W.heap.size, 2, none⟩ (.int .i64 0) = Wf at *
      have q0 : Wf.cell? ⟨W.heap.size, 0, none⟩ = some (.int .u64 0) := by rw [r0.cell]; rfl
      have q1 : Wf.cell? ⟨W.heap.size, 1, none⟩ = some (.int .i64 0) := by rw [r0.cell]; rfl
      have q2 : Wf.cell? ⟨W.heap.size, 2, none⟩ = some (.int .i64 0) := by rw [r0.cell]; rfl
      exact bodyPost_ret (v := .tuple #[.agg #[.int .u64 0, .int .i64 0, .int .i64 0], .int .i64 0, .int .i64 100]) (by simp [results, Try.results174, go_sem, q0, q1, q2]) rfl ⟨hBf, by rw [HP.out]⟩

end Go.Proofs.Ytfndlpfceokloaa
end
