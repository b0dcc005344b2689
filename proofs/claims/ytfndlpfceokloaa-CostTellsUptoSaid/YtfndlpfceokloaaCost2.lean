/- Lemmas towards this claim's statement: what the functions named here come to, each under the conditions that it states itself. -/
import Derived.Test.YtfndlpfceokloaaCost
namespace Go.Proofs.Ytfndlpfceokloaa
open Go.RowKit YtfndlpfceokloaaB Go.Proofs.YtfndlpfceokloaaW.PrintWords
theorem three (w : World) (c1 c2 c3 : Array Value) (t1 t2 t3 : TypeId) : let W := ((w.alloc (.cells c1 t1)).alloc (.cells c2 t2)).alloc (.cells c3 t3)
    Blk W w.heap.size c1 t1 ∧ Blk W (w.heap.size + 1) c2 t2 ∧ Blk W (w.heap.size + 1 + 1) c3 t3 ∧ Below w.heap.size w W ∧ W.heap.size = w.heap.size + 3 := by
  refine ⟨((Blk.new _ _ _).alloc _).alloc _, ?_, ?_, ((((Below.refl _ _).alloc (Nat.le_refl _) _).alloc (by simp) _).alloc (by simp; omega) _), by simp⟩
  · have h := (Blk.new (w.alloc (.cells c1 t1)) c2 t2).alloc (.cells c3 t3)
    rw [World.size_alloc] at h
    exact h
  · have h := Blk.new ((w.alloc (.cells c1 t1)).alloc (.cells c2 t2)) c3 t3
    rw [World.size_alloc, World.size_alloc] at h
    exact h
/-- A cost is returned. -/
def CPost (w : World) (k : Bool) (m : Int) (e : Ending) (w' : World) : Prop := ∃ n, e = .returned (.agg #[.int .u64 n, .bool k]) ∧ Hid (n = if k then m else 0) ∧ Below w.heap.size w w'
def OfPost (w : World) (l : List Ins) : Ending → World → Prop := CPost w (knL l) (coL l)
def OnePost (w : World) (x : Ins) : Ending → World → Prop := CPost w (knI x) (coI x)
theorem sum_c (A : Option Addr) (c : Nat) (ps : List (Int × Bool)) (k : Bool) (m : Int) (w : World) (hr : RdP w A ps) (hl : ps.length ≤ 2097152) (hp : ∀ p ∈ ps, 0 ≤ p.1) (hs : sumN ps ≤ 9223372036854775807) (hk : ps.all (·.2) = k) (hm : k = true → sumN ps = m) :
    Calls Try.prog 102 #[.slice A ps.length c] w (CPost w k m) := by
  refine (sum_any A c ps w hr hl hp hs).mono ?_
  rintro e w' ⟨rfl, hB⟩
  refine ⟨_, by rw [costArr, hk], ?_, hB⟩
  show _ = _
  cases k
  · rfl
  · simp [hm rfl]
theorem greater_c (A : Option Addr) (c : Nat) (ps : List (Int × Bool)) (k : Bool) (m : Int) (w : World) (hr : RdP w A ps) (hl : ps.length ≤ 2097152) (hp : ∀ p ∈ ps, 0 ≤ p.1) (hs : ∀ p ∈ ps, p.1 ≤ 9223372036854775807) (hk : ps.all (·.2) = k) (hm : k = true → maxN ps = m) :
    Calls Try.prog 125 #[.slice A ps.length c] w (CPost w k m) := by
  refine (greater_any A c ps w hr hl hp hs).mono ?_
  rintro e w' ⟨rfl, hB⟩
  refine ⟨_, by rw [costArr, hk], ?_, hB⟩
  show _ = _
  cases k
  · rfl
  · simp [hm rfl]
/-- Two costs, just built in a block of their own. -/
theorem RdP.two (w : World) (n1 n2 : Int) (k1 k2 : Bool) (t : TypeId) : RdP (w.alloc (.cells #[.int .u64 n1, .bool k1, .int .u64 n2, .bool k2] t)) (some ⟨w.heap.size, 0, none⟩) [(n1, k1), (n2, k2)] := by
  have h := Blk.new w #[.int .u64 n1, .bool k1, .int .u64 n2, .bool k2] t
  intro j p hj
  refine ⟨_, _, rfl, ?_⟩
  rw [h.cell, h.cell]
  match j, hj with
  | 0, hj => simp at hj; subst hj; exact ⟨rfl, rfl⟩
  | 1, hj => simp at hj; subst hj; exact ⟨rfl, rfl⟩
  | (j + 2), hj => simp at hj
theorem sum_side {n : Int} {k : Bool} {m : Nat} (hn : n = if k then (m : Int) else 0) (hm : m ≤ 1048576) :
    (∀ p ∈ [((1 : Int), true), (n, k)], 0 ≤ p.1) ∧ sumN [((1 : Int), true), (n, k)] ≤ 9223372036854775807 ∧ [((1 : Int), true), (n, k)].all (·.2) = k ∧ (k = true → sumN [((1 : Int), true), (n, k)] = 1 + (m : Int)) := by
  cases k
  · simp at hn; subst hn; exact ⟨by simp, by simp [sumN], by simp, by simp⟩
  · simp at hn; subst hn; exact ⟨by simp, by simp [sumN]; omega, by simp, by simp [sumN]⟩
theorem max_side {n1 n2 : Int} {k1 k2 : Bool} {m1 m2 : Nat} (h1 : n1 = if k1 then (m1 : Int) else 0) (h2 : n2 = if k2 then (m2 : Int) else 0) (hm1 : m1 ≤ 1048576) (hm2 : m2 ≤ 1048576) :
    (∀ p ∈ [(n1, k1), (n2, k2)], 0 ≤ p.1) ∧ (∀ p ∈ [(n1, k1), (n2, k2)], p.1 ≤ 9223372036854775807) ∧ [(n1, k1), (n2, k2)].all (·.2) = (k1 && k2) ∧ ((k1 && k2) = true → maxN [(n1, k1), (n2, k2)] = ((max m1 m2 : Nat) : Int)) := by
  have a1 : 0 ≤ n1 ∧ n1 ≤ m1 := by rw [h1]; split <;> omega
  have a2 : 0 ≤ n2 ∧ n2 ≤ m2 := by rw [h2]; split <;> omega
  refine ⟨?_, ?_, by simp, ?_⟩
  · intro p hp; simp at hp; rcases hp with rfl | rfl <;> simp <;> omega
  · intro p hp; simp at hp; rcases hp with rfl | rfl <;> simp <;> omega
  · intro hk
    simp only [Bool.and_eq_true] at hk
    simp [hk.1, hk.2] at h1 h2
    subst h1; subst h2
    simp [maxN]; omega
set_option maxRecDepth 100000 in
set_option maxHeartbeats 4000000 in
theorem one_any (x : Ins) (hbk : bkI x ≤ 1048576) (IH : ∀ (l : List Ins), bkL l < bkI x → ∀ (w : World) (A : Option Addr) (c : Nat), kI.C w A l.length l → Calls Try.prog 69 #[.slice A l.length c] w (OfPost w l))
    (w : World) (AL AT AE : Option Addr) (cL cT cE : Nat) (hT : kI.C w AT x.th.length x.th) (hE : kI.C w AE x.el.length x.el) :
    Calls Try.prog 101 #[.agg (insCells x AL AT AE cL cT cE)] w (OnePost w x) := by
  have hIH := Lib.hid IH
  have hbt := bkL_th x
  have hbe := bkL_el x
  have hTl := Lib.hid hT
  have hEl := Lib.hid hE
  clear IH hT hE
  obtain ⟨op, ty, a, b, bits, list, th, el, has⟩ := x
  simp only [insCells, Ins.op, Ins.ty, Ins.a, Ins.b, Ins.bits, Ins.list, Ins.th, Ins.el, Ins.has] at *
  generalize hx : Ins.mk op ty a b bits list th el has = x at *
  by_cases h3 : op = 3 ∨ op = 16 ∨ op = 17
  · have HF := Lib.hid (show knI x = false from by rw [← hx, knI]; rcases h3 with rfl | rfl | rfl <;> rfl)
    have HP := Lib.hid (show ∀ w', Below w.heap.size w w' → OnePost w x (.returned (.agg #[.int .u64 0, .bool false])) w' from fun w' hB => by rw [OnePost, HF.out]; exact ⟨_, rfl, rfl, hB⟩)
    clear hx hTl hEl hIH
    rcases h3 with rfl | rfl | rfl
    all_goals
      go_enter Try.func101, Try.ntmps101
      go_wp2_with fail
      refine (none_any _).mono ?_
      rintro e wn ⟨rfl, hBn⟩
      obtain ⟨-, hR, -, hB3, hs3⟩ := three w #[.int .i64 _, .int .u8 ty, .int .u32 a, .int .u32 b, .int .u64 bits, .slice AL list.length cL, .slice AT th.length cT, .slice AE el.length cE, .bool has] #[.int .u64 0, .bool false] #[.int .u64 1, .bool true] 160 176 176
      have hRn := hR.below hBn (by rw [hs3]; omega)
      have hB4 := hB3.trans (hBn.mono (by rw [hs3]; omega))
      have hnsz := hBn.size
      rw [hs3] at hnsz
      clear hBn hR hB3 hs3
      have r0 : wn.cell? ⟨w.heap.size + 1, 0, none⟩ = some (.int .u64 0) := by rw [hRn.cell]; rfl
      have r1 : wn.cell? ⟨w.heap.size + 1, 1, none⟩ = some (.bool false) := by rw [hRn.cell]; rfl
      have r0f := hRn.frozen 0
      have r1f := hRn.frozen 1
      go_wp2_with fail
      exact bodyPost_ret (v := .agg #[.int .u64 0, .bool false]) (by simp [results, Try.results101, go_sem, r0, r1]) rfl (HP.out _ (by (repeat (first | exact hB4 | refine Below.setCell ?_ (by first | (simp; done) | (simp; omega)) _ | refine Below.alloc ?_ (by first | (simp; done) | (simp [World.setCell]; omega)) _))))
  · by_cases h2 : op = 2
    · subst h2
      have HF := Lib.hid (show knI x = knL th ∧ coI x = 1 + coL th from by rw [← hx, knI, coI]; simp)
      go_enter Try.func101, Try.ntmps101
      go_wp2_with fail
      obtain ⟨hX, hR, hS1, hB3, hs3⟩ := three w #[.int .i64 2, .int .u8 ty, .int .u32 a, .int .u32 b, .int .u64 bits, .slice AL list.length cL, .slice AT th.length cT, .slice AE el.length cE, .bool has] #[.int .u64 0, .bool false] #[.int .u64 1, .bool true] 160 176 176
      have hT3 := Lib.hid (Kd.C_below hTl.out (hB3))
      generalize ((w.alloc _).alloc _).alloc _ = W at *
      clear hTl hEl hx
      have x6 : W.cell? ⟨w.heap.size, 6, none⟩ = some (.slice AT th.length cT) := by rw [hX.cell]; rfl
      have s0 : W.cell? ⟨w.heap.size + 1 + 1, 0, none⟩ = some (.int .u64 1) := by rw [hS1.cell]; rfl
      have s1 : W.cell? ⟨w.heap.size + 1 + 1, 1, none⟩ = some (.bool true) := by rw [hS1.cell]; rfl
      have r0 : W.cell? ⟨w.heap.size + 1, 0, none⟩ = some (.int .u64 0) := by rw [hR.cell]; rfl
      have r1 : W.cell? ⟨w.heap.size + 1, 1, none⟩ = some (.bool false) := by rw [hR.cell]; rfl
      have r0f := hR.frozen 0
      have r1f := hR.frozen 1
      have hct := coL_bk th
      go_region_held3 (fun w' => w'.cell? ⟨w.heap.size, 6, none⟩ = some (.slice AT th.length cT) ∧ w'.cell? ⟨w.heap.size + 1 + 1, 0, none⟩ = some (.int .u64 1) ∧ w'.cell? ⟨w.heap.size + 1 + 1, 1, none⟩ = some (.bool true))
        (first | exact ⟨x6, s0, s1⟩ | exact ⟨p6, p0, p1⟩ | exact ⟨pw_cell_below (w := W.drew) (hB1a _) x6, pw_cell_below (w := W.drew) (hB1a _) s0, pw_cell_below (w := W.drew) (hB1a _) s1⟩ | exact ⟨q6, q0, q1⟩ | exact ⟨by simp [World.cell?_setCell_far, q6], by simp [World.cell?_setCell_far, q0], by simp [World.cell?_setCell_far, q1]⟩)
        (first
          | (go_at_call 69; refine (hIH.out th (by omega) _ AT cT (Kd.C_below hT3.out (Below.refl _ _).drew)).mono ?_; rintro e1 W1 ⟨n1, rfl, hn1, hB1⟩; have p6 := pw_cell_below (w := W.drew) hB1 x6; have p0 := pw_cell_below (w := W.drew) hB1 s0; have p1 := pw_cell_below (w := W.drew) hB1 s1; have hB1a := fun o' => hB1.alloc hB1.size o'; obtain ⟨y1, y2, y3, y4⟩ := sum_side hn1.out (by omega))
          | (go_at_call 102; refine (sum_c (some ⟨W1.heap.size, 0, none⟩) 2 [(1, true), (n1, knL th)] (knL th) (1 + (coL th : Int)) _ (RdP.two W1 1 n1 true (knL th) _) (by simp) y1 y2 y3 y4).mono ?_; rintro e2 W2 ⟨n2, rfl, hn2, hB2⟩; have hB3' := (hB1a _).trans (hB2.mono (hB1a _).size); have q6 := pw_cell_below (w := W.drew) hB3' x6; have q0 := pw_cell_below (w := W.drew) hB3' s0; have q1 := pw_cell_below (w := W.drew) hB3' s1; have hR2 := Blk.below (w := W.drew) hR hB3' hR.lt; have r0 : W2.cell? ⟨w.heap.size + 1, 0, none⟩ = some (.int .u64 0) := (by rw [hR2.cell]; rfl); have r1 : W2.cell? ⟨w.heap.size + 1, 1, none⟩ = some (.bool false) := (by rw [hR2.cell]; rfl); have r0f := hR2.frozen 0; have r1f := hR2.frozen 1; have hB4 := (hB3.drew).trans (hB3'.mono hB3.size)))
      go_wp2_with fail
      exact bodyPost_ret (v := .agg #[.int .u64 n2, .bool (knL th)]) (by simp [results, Try.results101, go_sem, r0, r1]) rfl (by rw [OnePost, HF.out.1, HF.out.2]; exact ⟨_, rfl, by rw [Int.natCast_add]; exact hn2, by (repeat (first | exact hB4 | refine Below.setCell ?_ (by first | (simp; done) | (simp; omega)) _ | refine Below.alloc ?_ (by first | (simp; done) | (simp [World.setCell]; omega)) _))⟩)
    · by_cases h4 : op = 4
      · subst h4
        have HF := Lib.hid (show knI x = (knL th && knL el) ∧ coI x = 1 + max (coL th) (coL el) from by rw [← hx, knI, coI]; simp)
        go_enter Try.func101, Try.ntmps101
        go_wp2_with fail
        obtain ⟨hX, hR, hS1, hB3, hs3⟩ := three w #[.int .i64 4, .int .u8 ty, .int .u32 a, .int .u32 b, .int .u64 bits, .slice AL list.length cL, .slice AT th.length cT, .slice AE el.length cE, .bool has] #[.int .u64 0, .bool false] #[.int .u64 1, .bool true] 160 176 176
        have hT3 := Lib.hid (Kd.C_below hTl.out (hB3))
        have hE3 := Lib.hid (Kd.C_below hEl.out (hB3))
        generalize ((w.alloc _).alloc _).alloc _ = W at *
        clear hTl hEl hx
        have x6 : W.cell? ⟨w.heap.size, 6, none⟩ = some (.slice AT th.length cT) := by rw [hX.cell]; rfl
        have x7 : W.cell? ⟨w.heap.size, 7, none⟩ = some (.slice AE el.length cE) := by rw [hX.cell]; rfl
        have s0 : W.cell? ⟨w.heap.size + 1 + 1, 0, none⟩ = some (.int .u64 1) := by rw [hS1.cell]; rfl
        have s1 : W.cell? ⟨w.heap.size + 1 + 1, 1, none⟩ = some (.bool true) := by rw [hS1.cell]; rfl
        have r0 : W.cell? ⟨w.heap.size + 1, 0, none⟩ = some (.int .u64 0) := by rw [hR.cell]; rfl
        have r1 : W.cell? ⟨w.heap.size + 1, 1, none⟩ = some (.bool false) := by rw [hR.cell]; rfl
        have hct := coL_bk th
        have hce := coL_bk el
        go_region_held3 (fun w' => w'.cell? ⟨w.heap.size, 6, none⟩ = some (.slice AT th.length cT) ∧ w'.cell? ⟨w.heap.size, 7, none⟩ = some (.slice AE el.length cE) ∧ w'.cell? ⟨w.heap.size + 1 + 1, 0, none⟩ = some (.int .u64 1) ∧ w'.cell? ⟨w.heap.size + 1 + 1, 1, none⟩ = some (.bool true))
          (first | exact ⟨x6, x7, s0, s1⟩ | exact ⟨pw_cell_below (w := W.drew) HBx x6, pw_cell_below (w := W.drew) HBx x7, pw_cell_below (w := W.drew) HBx s0, pw_cell_below (w := W.drew) HBx s1⟩ | exact ⟨pw_cell_below (w := W.drew) (HBa _) x6, pw_cell_below (w := W.drew) (HBa _) x7, pw_cell_below (w := W.drew) (HBa _) s0, pw_cell_below (w := W.drew) (HBa _) s1⟩ | exact ⟨by simp [World.cell?_setCell_far, q6], by simp [World.cell?_setCell_far, q7], by simp [World.cell?_setCell_far, q0], by simp [World.cell?_setCell_far, q1]⟩)
          (first
            | (go_at_call_of 69 (Value.slice AT th.length cT); refine (hIH.out th (by omega) _ AT cT (Kd.C_below hT3.out (Below.refl _ _).drew)).mono ?_; rintro e1 W1 ⟨n1, rfl, hn1, hB1⟩; have HBx := hB1)
            | (go_at_call_of 69 (Value.slice AE el.length cE); refine (hIH.out el (by omega) _ AE cE (Kd.C_below (Kd.C_below hE3.out (Below.refl _ _).drew) hB1)).mono ?_; rintro e2 W2 ⟨n2, rfl, hn2, hB2⟩; have HBx := hB1.trans (hB2.mono hB1.size); have HBa := fun o' => HBx.alloc HBx.size o'; obtain ⟨y1, y2, y3, y4⟩ := max_side hn1.out hn2.out (by omega) (by omega))
            | (go_at_call 125; refine (greater_c (some ⟨W2.heap.size, 0, none⟩) 2 [(n1, knL th), (n2, knL el)] (knL th && knL el) ((max (coL th) (coL el) : Nat) : Int) _ (RdP.two W2 n1 n2 (knL th) (knL el) _) (by simp) y1 y2 y3 y4).mono ?_; rintro e3 W3 ⟨n3, rfl, hn3, hB3'⟩; have HBy := (HBa _).trans (hB3'.mono (HBa _).size); clear HBx HBa; have HBx := HBy; have HBa := fun o' => HBx.alloc HBx.size o'; clear HBy; obtain ⟨z1, z2, z3, z4⟩ := sum_side hn3.out (by omega))
            | (go_at_call 102; refine (sum_c (some ⟨W3.heap.size, 0, none⟩) 2 [(1, true), (n3, knL th && knL el)] (knL th && knL el) (1 + ((max (coL th) (coL el) : Nat) : Int)) _ (RdP.two W3 1 n3 true (knL th && knL el) _) (by simp) z1 z2 z3 z4).mono ?_; rintro e4 W4 ⟨n4, rfl, hn4, hB4⟩; have HBy := (HBa _).trans (hB4.mono (HBa _).size); clear HBx HBa; have HBx := HBy; have q6 := pw_cell_below (w := W.drew) HBx x6; have q7 := pw_cell_below (w := W.drew) HBx x7; have q0 := pw_cell_below (w := W.drew) HBx s0; have q1 := pw_cell_below (w := W.drew) HBx s1; have hR2 := Blk.below (w := W.drew) hR HBx hR.lt; have r0 : W4.cell? ⟨w.heap.size + 1, 0, none⟩ = some (.int .u64 0) := (by rw [hR2.cell]; rfl); have r1 : W4.cell? ⟨w.heap.size + 1, 1, none⟩ = some (.bool false) := (by rw [hR2.cell]; rfl); have r0f := hR2.frozen 0; have r1f := hR2.frozen 1; have hB5 := (hB3.drew).trans (HBx.mono hB3.size)))
        go_wp2_with fail
        exact bodyPost_ret (v := .agg #[.int .u64 n4, .bool (knL th && knL el)]) (by simp [results, Try.results101, go_sem, r0, r1]) rfl (by rw [OnePost, HF.out.1, HF.out.2]; exact ⟨_, rfl, by rw [Int.natCast_add]; exact hn4, by (repeat (first | exact hB5 | refine Below.setCell ?_ (by first | (simp; done) | (simp; omega)) _ | refine Below.alloc ?_ (by first | (simp; done) | (simp [World.setCell]; omega)) _))⟩)
      · have HF := Lib.hid (show knI x = true ∧ coI x = 1 from by
          rw [← hx, knI, coI]
          simp only [if_neg h2, if_neg h4]
          simp only [not_or] at h3
          simp [h2, h3, h4])
        have k3 : op ≠ 3 := fun h => h3 (.inl h)
        have k16 : op ≠ 16 := fun h => h3 (.inr (.inl h))
        have k17 : op ≠ 17 := fun h => h3 (.inr (.inr h))
        clear hIH hTl hEl hx h3
        go_enter Try.func101, Try.ntmps101
        go_wp2_with fail
        obtain ⟨hX, hR, hS1, hB3, hs3⟩ := three w #[.int .i64 op, .int .u8 ty, .int .u32 a, .int .u32 b, .int .u64 bits, .slice AL list.length cL, .slice AT th.length cT, .slice AE el.length cE, .bool has] #[.int .u64 0, .bool false] #[.int .u64 1, .bool true] 160 176 176
        exact bodyPost_ret (v := .agg #[.int .u64 1, .bool true]) (by simp [results, Try.results101, go_sem]) rfl (by rw [OnePost, HF.out.1, HF.out.2]; exact ⟨_, rfl, rfl, by (repeat (first | exact (Below.refl _ _) | refine Below.setCell ?_ (by first | (simp; done) | (simp; omega)) _ | refine Below.alloc ?_ (by first | (simp; done) | (simp [World.setCell]; omega)) _))⟩)
end Go.Proofs.Ytfndlpfceokloaa
