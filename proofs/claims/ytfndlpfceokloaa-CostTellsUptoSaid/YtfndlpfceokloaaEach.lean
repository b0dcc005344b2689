/- Lemmas towards this claim's statement: what the functions named here come to, each under the conditions that it states itself. -/
import Derived.RangeFuncNested
import Derived.RangeFuncBound
import Derived.RangeFuncCalls
import Derived.RangeFuncLeaves
import Derived.Shelf.Abstract
import Derived.Shelf.RegionOpen
import Derived.OwnWalkIn
import Derived.TacticsInMore
import Derived.LoopNIn
import Derived.LoopIn
import Derived.Test.YtfndlpfceokloaaCost6
namespace Go.Proofs.YtfndlpfceokloaaB
open Go.RowKit Go.Shelf Go.Proofs.YtfndlpfceokloaaW.PrintWords
mutual
/-- What comes: each instruction with its depth. -/
def eachI (d : Int) : Ins → List (Int × Ins) | .mk o t a b n l th el h => (d, .mk o t a b n l th el h) :: (eachL (d + 1) th ++ eachL (d + 1) el)
def eachL (d : Int) : List Ins → List (Int × Ins) | [] => [] | x :: r => eachI d x ++ eachL d r
end
theorem eachI_eq (d : Int) (x : Ins) : eachI d x = (d, x) :: (eachL (d + 1) x.th ++ eachL (d + 1) x.el) := by cases x; rw [eachI]; rfl
mutual
theorem eachI_len : ∀ (d : Int) (x : Ins), (eachI d x).length ≤ bkI x
  | d, .mk o t a b n l th el h => by
    have h1 := eachL_len (d + 1) th
    have h2 := eachL_len (d + 1) el
    rw [eachI, bkI]
    simp only [List.length_cons, List.length_append]
    omega
theorem eachL_len : ∀ (d : Int) (l : List Ins), (eachL d l).length ≤ bkL l
  | d, [] => by simp [eachL, bkL]
  | d, x :: r => by
    have h1 := eachI_len d x
    have h2 := eachL_len d r
    rw [eachL, bkL, List.length_append]
    omega
end
theorem eachL_append (d : Int) (l r : List Ins) : eachL d (l ++ r) = eachL d l ++ eachL d r := by
  induction l with
  | nil => simp [eachL]
  | cons x l ih => rw [List.cons_append, eachL, eachL, ih, List.append_assoc]
theorem eachL_take {d : Int} {l : List Ins} {j : Nat} {x : Ins} (h : l[j]? = some x) : eachL d (l.take (j + 1)) = eachL d (l.take j) ++ ((d, x) :: (eachL (d + 1) x.th ++ eachL (d + 1) x.el)) := by
  rw [List.take_add_one, h, eachL_append]
  simp [eachL, eachI_eq]
theorem eachL_parts {d : Int} {l : List Ins} {j : Nat} {x : Ins} (h : l[j]? = some x) : eachL d l = eachL d (l.take j) ++ ((d, x) :: (eachL (d + 1) x.th ++ eachL (d + 1) x.el)) ++ eachL d (l.drop (j + 1)) := by
  rw [← eachL_take h, ← eachL_append, List.take_append_drop]
/-- An instruction that comes: its depth, and its cells as they lie in the world w0. -/
structure EachX (k : Kd Ins) (w0 : World) where
  d : Int
  x : Ins
  cs : List Value
  hk : k.K w0 x cs
  hd : 0 ≤ d ∧ d ≤ 4611686018427387904
def EachX.dx {k : Kd Ins} {w0 : World} (e : EachX k w0) : Int × Ins := (e.d, e.x)
def EachX.enc {k : Kd Ins} {w0 : World} (e : EachX k w0) : Array Value := #[.int .i64 e.d, .agg e.cs.toArray]
/-- What a round keeps: what lay below n0, and the rows of cells from n1 on. -/
def KeepC (n0 n1 : Nat) (W W' : World) : Prop := Below n0 W W' ∧ ∀ k cs t fr, n1 ≤ k → W.heap[k]? = some (.cells cs t fr) → W'.heap[k]? = some (.cells cs t fr)
theorem KeepC.refl (n0 n1 : Nat) (W : World) : KeepC n0 n1 W W := ⟨Below.refl _ _, fun _ _ _ _ _ h => h⟩
theorem KeepC.trans {n0 n1 : Nat} {A B C : World} (h : KeepC n0 n1 A B) (h' : KeepC n0 n1 B C) : KeepC n0 n1 A C := ⟨h.1.trans h'.1, fun k cs t fr hk hc => h'.2 k cs t fr hk (h.2 k cs t fr hk hc)⟩
theorem KeepC.alloc {n0 n1 : Nat} {A B : World} (h : KeepC n0 n1 A B) (o : Obj) (hn : n0 ≤ B.heap.size) : KeepC n0 n1 A (B.alloc o) :=
  h.trans ⟨(Below.refl _ _).alloc hn _, fun k cs t fr _ hc => (Below.heap_alloc B o k (Array.getElem?_eq_some_iff.1 hc).1).trans hc⟩
theorem KeepC.of_below {n0 n1 : Nat} {A B : World} (h : Below A.heap.size A B) (hn : n0 ≤ A.heap.size) : KeepC n0 n1 A B :=
  ⟨h.mono hn, fun k cs t fr _ hc => (h.block k (Array.getElem?_eq_some_iff.1 hc).1).trans hc⟩
theorem KeepC.blk {n0 n1 : Nat} {A B : World} (h : KeepC n0 n1 A B) {g : Nat} {cs : Array Value} {t : TypeId} (hg : n1 ≤ g) (hb : Blk A g cs t) : Blk B g cs t := h.2 g cs t _ hg hb
end Go.Proofs.YtfndlpfceokloaaB
namespace Go.Proofs.Ytfndlpfceokloaa
open Go.RowKit Go.Shelf YtfndlpfceokloaaB Go.Proofs.YtfndlpfceokloaaW.PrintWords
attribute [local go_sem] Oper.semAt_some
theorem anyDepth {F : Fence} (hd : F.depth = none) {m : Nat} (m' : Nat) {P : Program} {l : Nat} {args : Array Value} {W : World} {R : Ending → World → Prop} (h : YieldAt F m P l args W R) : YieldAt F m' P l args W R := by
  obtain ⟨fn, tmps, assign, body, hy, hR⟩ := h
  exact ⟨fn, tmps, assign, body, hy, ⟨hR.1, fun c cs _ => hR.2 c cs (fun d h => by rw [hd] at h; cases h)⟩⟩
def EachPost (w0 : World) (n1 : Nat) (W : World) (J Jx : List (EachX kI w0) → World → Prop) (pre : List (EachX kI w0)) (d : Int) (ls : List Ins) (e : Ending) (W' : World) : Prop :=
  (e = .returned (.bool true) ∧ ∃ ys, ys.map EachX.dx = eachL d ls ∧ J (pre ++ ys) W' ∧ KeepC w0.heap.size n1 W W') ∨
  (e = .returned (.bool false) ∧ ∃ q, q.map EachX.dx <+: eachL d ls ∧ Jx (pre ++ q) W')
set_option maxRecDepth 100000 in
set_option maxHeartbeats 4000000 in
theorem each_in (F : Fence) (hd : F.depth = none) (hF : F.fn 100) (hro : F.round = none) (l N n1 : Nat) (w0 : World) (hn1 : w0.heap.size ≤ n1) (J Jx : List (EachX kI w0) → World → Prop)
    (hA : ∀ pre W o, J pre W → J pre (W.alloc o))
    (hY : ∀ m pre (x : EachX kI w0) W, J pre W → pre.length < N → YieldAt F m Try.prog l x.enc W fun e W' =>
      (e = .returned (.bool true) ∧ J (pre ++ [x]) W' ∧ KeepC w0.heap.size n1 W W') ∨ (e = .returned (.bool false) ∧ Jx (pre ++ [x]) W')) :
    ∀ (b : Nat) (ls : List Ins), bkL ls ≤ b → ∀ (n : Nat) (d : Int) (A : Option Addr) (c : Nat) (pre : List (EachX kI w0)) (W : World), 0 ≤ d → d + bkL ls ≤ 4611686018427387904 → kI.C w0 A ls.length ls → Below w0.heap.size w0 W → n1 ≤ W.heap.size → J pre W → pre.length + (eachL d ls).length ≤ N →
      CallsIn F n Try.prog 100 #[.slice A ls.length c, .int .i64 d, .func (.yield l) #[] #[]] W (EachPost w0 n1 W J Jx pre d ls) := by
  intro b
  induction b using Nat.strongRecOn with
  | ind b ih =>
  intro ls hbk n d A c pre W hd0 hd1 hC hB0 hnW hJ hN
  have hdd : ∀ k : Nat, (F.depth.isSome = true → 1 ≤ k) := fun k h => by rw [hd] at h; cases h
  have hlen := bkL_len ls
  have IH := Lib.hid ih
  clear ih
  refine callsIn_of_wp Try.func100 rfl hF ?_ hro
  simp only [Try.ntmps100, List.size_toArray, List.length_cons, List.length_nil, Nat.reduceAdd, Nat.reduceSub, Array.replicate_succ, Array.replicate_zero, List.push_toArray, List.append_toArray, List.nil_append, List.cons_append]
  gi_wp2
  gi_loopw [11] (fun k wr => ∃ (j : Nat) (ys : List (EachX kI w0)), j ≤ ls.length ∧ k = .int .i64 j ∧ Hid (ys.map EachX.dx = eachL d (ls.take j)) ∧ J (pre ++ ys) wr ∧ KeepC w0.heap.size n1 W wr) (fun k _ => ls.length - (intOf k).toNat)
  case atStart => exact ⟨0, [], Nat.zero_le _, rfl, by simp [Hid, eachL], by simpa using hJ, KeepC.refl _ _ _⟩
  case round =>
    obtain ⟨j, ys, hj, rfl, hys, hJs, hKe⟩ := hrel
    have hsz := hKe.1.size
    have hB := hB0.trans hKe.1
    by_cases hlt : j < ls.length
    · obtain ⟨b', o, x, cs, rfl, hx, hk, hc⟩ := C_at hC (by decide) j hlt
      obtain ⟨AL, cL, AT, cT, AE, cE, rfl, g1, g2, g3, g4, g5, hL, hT, hE, l1, l2, l3⟩ := ins_openC hk
      have hz : kI.sz = 9 := rfl
      have d0 := pw_cell_below hB (hc 0 _ rfl)
      have d1 := pw_cell_below hB (hc 1 _ rfl)
      have d2 := pw_cell_below hB (hc 2 _ rfl)
      have d3 := pw_cell_below hB (hc 3 _ rfl)
      have d4 := pw_cell_below hB (hc 4 _ rfl)
      have d5 := pw_cell_below hB (hc 5 _ rfl)
      have d6 := pw_cell_below hB (hc 6 _ rfl)
      have d7 := pw_cell_below hB (hc 7 _ rfl)
      have d8 := pw_cell_below hB (hc 8 _ rfl)
      simp only [hz, Nat.add_zero] at d0 d1 d2 d3 d4 d5 d6 d7 d8
      have hblt : b' < wr.heap.size := World.block_lt_of_cell? _ _ d0
      have hbx := bkL_get hx.out
      have hbt := bkL_th x
      have hbe := bkL_el x
      have hW := Blk.new wr (insCells x AL AT AE cL cT cE) 160
      have hsW : (wr.alloc (.cells (insCells x AL AT AE cL cT cE) 160)).heap.size = wr.heap.size + 1 := World.size_alloc _ _
      have hKa := KeepC.alloc hKe (.cells (insCells x AL AT AE cL cT cE) 160) (by have := hB.size; omega)
      have hJa := hA _ _ (.cells (insCells x AL AT AE cL cT cE) 160) hJs
      have hES := Lib.hid (eachL_take (d := d) hx.out)
      have hEP := eachL_parts (d := d) hx.out
      obtain ⟨e0, he0⟩ : ∃ e0 : EachX kI w0, e0 = ⟨d, x, _, hk, hd0, by omega⟩ := ⟨_, rfl⟩
      have hed : e0.dx = (d, x) := by rw [he0]; rfl
      have heE : e0.enc = #[.int .i64 d, .agg (insCells x AL AT AE cL cT cE)] := by rw [he0]; rfl
      have hyl : ys.length = (eachL d (ls.take j)).length := by rw [← hys.out, List.length_map]
      have hNl := hN
      rw [hEP] at hNl
      simp only [List.length_append, List.length_cons] at hNl
      have H1 := (hY (n - 1) (pre ++ ys) e0 _ hJa (by rw [List.length_append]; omega)).mono (R' := fun e W2 =>
        (e = .returned (.bool true) ∧ Hid (J (pre ++ ys ++ [e0]) W2) ∧ KeepC w0.heap.size n1 (wr.alloc (.cells (insCells x AL AT AE cL cT cE) 160)) W2 ∧ W2.cell? ⟨wr.heap.size, 6, none⟩ = some (.slice AT x.th.length cT)) ∨ (e = .returned (.bool false) ∧ Hid (Jx (pre ++ ys ++ [e0]) W2)))
        (fun e W2 h => h.elim (fun ⟨a, b, c⟩ => .inl ⟨a, b, c, by rw [(c.blk (by omega) hW).cell]; rfl⟩) .inr)
      have H2 := Lib.hid (show ∀ W2, Hid (J (pre ++ ys ++ [e0]) W2) → KeepC w0.heap.size n1 (wr.alloc (.cells (insCells x AL AT AE cL cT cE) 160)) W2 → CallsIn F (n - 1) Try.prog 100 #[.slice AT x.th.length cT, .int .i64 (d + 1), .func (.yield l) #[] #[]] W2 (fun e W3 =>
        (e = .returned (.bool true) ∧ ∃ y2, y2.map EachX.dx = eachL (d + 1) x.th ∧ Hid (J (pre ++ ys ++ [e0] ++ y2) W3) ∧ KeepC w0.heap.size n1 (wr.alloc (.cells (insCells x AL AT AE cL cT cE) 160)) W3 ∧ W3.cell? ⟨wr.heap.size, 7, none⟩ = some (.slice AE x.el.length cE)) ∨ (e = .returned (.bool false) ∧ ∃ q, q.map EachX.dx <+: eachL (d + 1) x.th ∧ Hid (Jx (pre ++ ys ++ [e0] ++ q) W3))) from fun W2 hj hk2 =>
        (IH.out (bkL x.th) (by omega) x.th (Nat.le_refl _) (n - 1) (d + 1) AT cT (pre ++ ys ++ [e0]) W2 (by omega) (by omega) hT (hB0.trans (hKa.trans hk2).1) (by have := (hKa.trans hk2).1.size; omega) hj (by simp only [List.length_append, List.length_cons, List.length_nil]; omega)).mono
          (fun e W3 h => h.elim (fun ⟨a, y2, b, c, k⟩ => .inl ⟨a, y2, b, c, hk2.trans k, by rw [((hk2.trans k).blk (by omega) hW).cell]; rfl⟩) .inr))
      have H3 := Lib.hid (show ∀ W3 (y2 : List (EachX kI w0)), y2.map EachX.dx = eachL (d + 1) x.th → Hid (J (pre ++ ys ++ [e0] ++ y2) W3) → KeepC w0.heap.size n1 (wr.alloc (.cells (insCells x AL AT AE cL cT cE) 160)) W3 → CallsIn F (n - 1) Try.prog 100 #[.slice AE x.el.length cE, .int .i64 (d + 1), .func (.yield l) #[] #[]] W3 (fun e W4 =>
        (e = .returned (.bool true) ∧ ∃ y3, y3.map EachX.dx = eachL (d + 1) x.el ∧ Hid (J (pre ++ ys ++ [e0] ++ y2 ++ y3) W4) ∧ KeepC w0.heap.size n1 (wr.alloc (.cells (insCells x AL AT AE cL cT cE) 160)) W4) ∨ (e = .returned (.bool false) ∧ ∃ q, q.map EachX.dx <+: eachL (d + 1) x.el ∧ Hid (Jx (pre ++ ys ++ [e0] ++ y2 ++ q) W4))) from fun W3 y2 hm hj hk3 =>
        (IH.out (bkL x.el) (by omega) x.el (Nat.le_refl _) (n - 1) (d + 1) AE cE (pre ++ ys ++ [e0] ++ y2) W3 (by omega) (by omega) hE (hB0.trans (hKa.trans hk3).1) (by have := (hKa.trans hk3).1.size; omega) hj (by have h2 : y2.length = (eachL (d + 1) x.th).length := (by rw [← hm, List.length_map]); simp only [List.length_append, List.length_cons, List.length_nil]; omega)).mono
          (fun e W4 h => h.elim (fun ⟨a, y3, b, c, k⟩ => .inl ⟨a, y3, b, c, hk3.trans k⟩) .inr))
      obtain ⟨fn, tmps, assign, body, hy, hR⟩ := H1
      rw [heE] at hy
      simp only [insCells] at hy hR H2 H3 hW hsW hKa
      clear hKe hJs hJa hc hT hE hL hC he0 heE hk
      gi_wp2
      refine hR.mono ?_
      clear hR
      rintro e W2 (⟨rfl, hJ2, hk2, x6⟩ | ⟨rfl, hx2⟩)
      · gi_wp2_with (first
          | ((try refine ⟨hdd _, ?_⟩); gi_at_call 100; refine (H2.out W2 hJ2 hk2).mono ?_; clear H2; rintro e W3 (⟨rfl, y2, hm2, hJ3, hk3, x7⟩ | ⟨rfl, q, hq, hx3⟩))
          | ((try refine ⟨hdd _, ?_⟩); gi_at_call 100; refine (H3.out W3 y2 hm2 hJ3 hk3).mono ?_; clear H3; rintro e W4 (⟨rfl, y3, hm3, hJ4, hk4⟩ | ⟨rfl, q, hq, hx4⟩)))
        · go_roundw
          case rel =>
            refine ⟨j + 1, ys ++ [e0] ++ y2 ++ y3, by omega, by go_num, ?_, by simpa [List.append_assoc] using hJ4.out, hKa.trans hk4⟩
            show _ = _
            rw [hES.out, List.map_append, List.map_append, List.map_append, hys.out, hm2, hm3]
            simp [hed]
          case measure => simp [intOf]; omega
        · obtain ⟨r, hr⟩ := hq
          go_ret
          refine .inr ⟨rfl, ys ++ [e0] ++ y2 ++ q, ⟨r ++ eachL d (ls.drop (j + 1)), ?_⟩, by simpa [List.append_assoc] using hx4.out⟩
          rw [hEP, ← hr, List.map_append, List.map_append, List.map_append, hys.out, hm2]
          simp [hed]
        · obtain ⟨r, hr⟩ := hq
          go_ret
          refine .inr ⟨rfl, ys ++ [e0] ++ q, ⟨r ++ eachL (d + 1) x.el ++ eachL d (ls.drop (j + 1)), ?_⟩, by simpa [List.append_assoc] using hx3.out⟩
          rw [hEP, ← hr, List.map_append, List.map_append, hys.out]
          simp [hed]
      · gi_wp2
        go_ret
        refine .inr ⟨rfl, ys ++ [e0], ⟨eachL (d + 1) x.th ++ eachL (d + 1) x.el ++ eachL d (ls.drop (j + 1)), ?_⟩, by simpa [List.append_assoc] using hx2.out⟩
        rw [hEP, List.map_append, hys.out]
        simp [hed]
    · obtain rfl : j = ls.length := by omega
      rw [List.take_length] at hys
      gi_wp2
      go_ret
      exact .inl ⟨rfl, ys, hys.out, hJs, hKe⟩
end Go.Proofs.Ytfndlpfceokloaa
