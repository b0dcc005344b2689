/- Lemmas towards this claim's statement: what the functions named here come to, each under the conditions that it states itself. -/
import Derived.Test.YtfndlpfceokloaaCk9
import Derived.RangeFuncNested
import Derived.RangeFuncBound
import Derived.RangeFuncCalls
import Derived.RangeFuncLeaves
import Derived.Shelf.Abstract
import Derived.Shelf.RegionOpen
import Derived.OwnWalkIn
import Derived.TacticsInMore
import Derived.LoopNIn
import Derived.LoopIn
section
namespace Go.Proofs.YtfndlpfceokloaaB
open Go.RowKit Go.Shelf Go.Proofs.YtfndlpfceokloaaW.PrintWords
/-- What a round keeps: what lay below n0, and the rows of cells from n1 on. -/
def KeepC (n0 n1 : Nat) (W W' : World) : Prop := Below n0 W W' ∧ ∀ k cs t fr, n1 ≤ k → W.heap[k]? = some (.cells cs t fr) → W'.heap[k]? = some (.cells cs t fr)
theorem KeepC.refl (n0 n1 : Nat) (W : World) : KeepC n0 n1 W W := ⟨Below.refl _ _, fun _ _ _ _ _ h => h⟩
theorem KeepC.trans {n0 n1 : Nat} {A B C : World} (h : KeepC n0 n1 A B) (h' : KeepC n0 n1 B C) : KeepC n0 n1 A C := ⟨h.1.trans h'.1, fun k cs t fr hk hc => h'.2 k cs t fr hk (h.2 k cs t fr hk hc)⟩
theorem KeepC.alloc {n0 n1 : Nat} {A B : World} (h : KeepC n0 n1 A B) (o : Obj) (hn : n0 ≤ B.heap.size) : KeepC n0 n1 A (B.alloc o) :=
  h.trans ⟨(Below.refl _ _).alloc hn _, fun k cs t fr _ hc => (Below.heap_alloc B o k (Array.getElem?_eq_some_iff.1 hc).1).trans hc⟩
theorem KeepC.of_below {n0 n1 : Nat} {A B : World} (h : Below A.heap.size A B) (hn : n0 ≤ A.heap.size) : KeepC n0 n1 A B :=
  ⟨h.mono hn, fun k cs t fr _ hc => (h.block k (Array.getElem?_eq_some_iff.1 hc).1).trans hc⟩
theorem KeepC.blk {n0 n1 : Nat} {A B : World} (h : KeepC n0 n1 A B) {g : Nat} {cs : Array Value} {t : TypeId} (hg : n1 ≤ g) (hb : Blk A g cs t) : Blk B g cs t := h.2 g cs t _ hg hb
theorem keepC_t {n0 n1 : Nat} {A B C : World} (h : KeepC n0 n1 A B) (h' : KeepC n0 n1 B C) : KeepC n0 n1 A C := h.trans h'
theorem keepC_b {n0 n1 n : Nat} (h0 : n0 ≤ n) (W : World) (l : Nat) (o o' : Obj) (hl : n ≤ l) (ho : W.heap[l]? = some o) (hc : o.isCells = false) (_ : o.isWalk = false) : KeepC n0 n1 W (W.putObj l o') := by
  have hg := grownBy_putObj' W l o'
  refine ⟨(Below.refl _ W).grown hg (by have := (Array.getElem?_eq_some_iff.1 ho).1; omega) (fun k e => by cases e; omega), fun k cs t fr _ hk => ?_⟩
  have hkl := (Array.getElem?_eq_some_iff.1 hk).1
  rw [hg.block k hkl (fun e => by cases e; rw [ho] at hk; cases hk; simp [Obj.isCells] at hc), hk]
theorem anyDepth {F : Fence} (hd : F.depth = none) {m : Nat} (m' : Nat) {P : Program} {l : Nat} {args : Array Value} {W : World} {R : Ending → World → Prop} (h : YieldAt F m P l args W R) : YieldAt F m' P l args W R := by
  obtain ⟨fn, tmps, assign, body, hy, hR⟩ := h
  exact ⟨fn, tmps, assign, body, hy, ⟨hR.1, fun c cs _ => hR.2 c cs (fun d h => by rw [hd] at h; cases h)⟩⟩
theorem boxed_below {W W' : World} {B : Nat} {t : TypeId} {v : Value} (h : Boxed W B t v) (hb : Below W.heap.size W W') : Boxed W' B t v := h.kept (grown_below hb none) (by simp)
theorem keepsFrom_below {W W' : World} (n : Nat) (hb : Below W.heap.size W W') : KeepsFrom n W W' := (KeepsOthers.of_grownBy (grown_below hb none) (fun j o h _ => by cases h)).from n
end Go.Proofs.YtfndlpfceokloaaB
end
section
namespace Go.Proofs.YtfndlpfceokloaaB
open Go.RowKit Go.Shelf Go.Proofs.YtfndlpfceokloaaW.PrintWords
mutual
/-- What comes: each instruction with its depth. -/
def eachI (d : Int) : Ins → List (Int × Ins) | .mk o t a b n l th el h => (d, .mk o t a b n l th el h) :: (eachL (d + 1) th ++ eachL (d + 1) el)
def eachL (d : Int) : List Ins → List (Int × Ins) | [] => [] | x :: r => eachI d x ++ eachL d r
end
theorem eachI_eq (d : Int) (x : Ins) : eachI d x = (d, x) :: (eachL (d + 1) x.th ++ eachL (d + 1) x.el) := by cases x; rw [eachI]; rfl
mutual
theorem eachI_len : ∀ (d : Int) (x : Ins), (eachI d x).length ≤ bkI x
  | d, .mk o t a b n l th el h => by
    have h1 := eachL_len (d + 1) th
    have h2 := eachL_len (d + 1) el
    rw [eachI, bkI]
    simp only [List.length_cons, List.length_append]
    omega
theorem eachL_len : ∀ (d : Int) (l : List Ins), (eachL d l).length ≤ bkL l
  | d, [] => by simp [eachL, bkL]
  | d, x :: r => by
    have h1 := eachI_len d x
    have h2 := eachL_len d r
    rw [eachL, bkL, List.length_append]
    omega
end
theorem eachL_append (d : Int) (l r : List Ins) : eachL d (l ++ r) = eachL d l ++ eachL d r := by
  induction l with
  | nil => simp [eachL]
  | cons x l ih => rw [List.cons_append, eachL, eachL, ih, List.append_assoc]
theorem eachL_take {d : Int} {l : List Ins} {j : Nat} {x : Ins} (h : l[j]? = some x) : eachL d (l.take (j + 1)) = eachL d (l.take j) ++ ((d, x) :: (eachL (d + 1) x.th ++ eachL (d + 1) x.el)) := by
  rw [List.take_add_one, h, eachL_append]
  simp [eachL, eachI_eq]
theorem eachL_parts {d : Int} {l : List Ins} {j : Nat} {x : Ins} (h : l[j]? = some x) : eachL d l = eachL d (l.take j) ++ ((d, x) :: (eachL (d + 1) x.th ++ eachL (d + 1) x.el)) ++ eachL d (l.drop (j + 1)) := by
  rw [← eachL_take h, ← eachL_append, List.take_append_drop]
/-- An instruction that comes: its depth, and its cells as they lie in the world w0. -/
structure EachX (k : Kd Ins) (w0 : World) where
  d : Int
  x : Ins
  cs : List Value
  hk : k.K w0 x cs
  hd : 0 ≤ d ∧ d ≤ 4611686018427387904
def EachX.dx {k : Kd Ins} {w0 : World} (e : EachX k w0) : Int × Ins := (e.d, e.x)
def EachX.enc {k : Kd Ins} {w0 : World} (e : EachX k w0) : Array Value := #[.int .i64 e.d, .agg e.cs.toArray]
end Go.Proofs.YtfndlpfceokloaaB
namespace Go.Proofs.Ytfndlpfceokloaa
open Go.RowKit Go.Shelf YtfndlpfceokloaaB Go.Proofs.YtfndlpfceokloaaW.PrintWords
attribute [local go_sem] Oper.semAt_some
def EachPost (w0 : World) (n1 : Nat) (W : World) (J Jx : List (EachX kI w0) → World → Prop) (pre : List (EachX kI w0)) (d : Int) (ls : List Ins) (e : Ending) (W' : World) : Prop :=
  (e = .returned (.bool true) ∧ ∃ ys, ys.map EachX.dx = eachL d ls ∧ J (pre ++ ys) W' ∧ KeepC w0.heap.size n1 W W') ∨
  (e = .returned (.bool false) ∧ ∃ q, q.map EachX.dx <+: eachL d ls ∧ Jx (pre ++ q) W')
set_option maxRecDepth 100000 in
set_option maxHeartbeats 4000000 in
theorem each_in (F : Fence) (hd : F.depth = none) (hF : F.fn 100) (hro : F.round = none) (l N n1 : Nat) (w0 : World) (hn1 : w0.heap.size ≤ n1) (J Jx : List (EachX kI w0) → World → Prop)
    (hA : ∀ pre W o, J pre W → J pre (W.alloc o))
    (hY : ∀ m pre (x : EachX kI w0) W, J pre W → pre.length < N → YieldAt F m Try.prog l x.enc W fun e W' =>
      (e = .returned (.bool true) ∧ J (pre ++ [x]) W' ∧ KeepC w0.heap.size n1 W W') ∨ (e = .returned (.bool false) ∧ Jx (pre ++ [x]) W')) :
    ∀ (b : Nat) (ls : List Ins), bkL ls ≤ b → ∀ (n : Nat) (d : Int) (A : Option Addr) (c : Nat) (pre : List (EachX kI w0)) (W : World), 0 ≤ d → d + bkL ls ≤ 4611686018427387904 → kI.C w0 A ls.length ls → Below w0.heap.size w0 W → n1 ≤ W.heap.size → J pre W → pre.length + (eachL d ls).length ≤ N →
      CallsIn F n Try.prog 100 #[.slice A ls.length c, .int .i64 d, .func (.yield l) #[] #[]] W (EachPost w0 n1 W J Jx pre d ls) := by
  intro b
  induction b using Nat.strongRecOn with
  | ind b ih =>
  intro ls hbk n d A c pre W hd0 hd1 hC hB0 hnW hJ hN
  have hdd : ∀ k : Nat, (F.depth.isSome = true → 1 ≤ k) := fun k h => by rw [hd] at h; cases h
  have hlen := bkL_len ls
  have IH := Lib.hid ih
  clear ih
  refine callsIn_of_wp Try.func100 rfl hF ?_ hro
  simp only [Try.ntmps100, List.size_toArray, List.length_cons, List.length_nil, Nat.reduceAdd, Nat.reduceSub, Array.replicate_succ, Array.replicate_zero, List.push_toArray, List.append_toArray, List.nil_append, List.cons_append]
  gi_wp2
  gi_loopw [11] (fun k wr => ∃ (j : Nat) (ys : List (EachX kI w0)), j ≤ ls.length ∧ k = .int .i64 j ∧ Hid (ys.map EachX.dx = eachL d (ls.take j)) ∧ J (pre ++ ys) wr ∧ KeepC w0.heap.size n1 W wr) (fun k _ => ls.length - (intOf k).toNat)
  case atStart => exact ⟨0, [], Nat.zero_le _, rfl, by simp [Hid, eachL], by simpa using hJ, KeepC.refl _ _ _⟩
  case round =>
    obtain ⟨j, ys, hj, rfl, hys, hJs, hKe⟩ := hrel
    have hsz := hKe.1.size
    have hB := hB0.trans hKe.1
    by_cases hlt : j < ls.length
    · obtain ⟨b', o, x, cs, rfl, hx, hk, hc⟩ := C_at hC (by decide) j hlt
      obtain ⟨AL, cL, AT, cT, AE, cE, rfl, g1, g2, g3, g4, g5, hL, hT, hE, l1, l2, l3⟩ := ins_openC hk
      have hz : kI.sz = 9 := rfl
      have d0 := pw_cell_below hB (hc 0 _ rfl)
      have d1 := pw_cell_below hB (hc 1 _ rfl)
      have d2 := pw_cell_below hB (hc 2 _ rfl)
      have d3 := pw_cell_below hB (hc 3 _ rfl)
      have d4 := pw_cell_below hB (hc 4 _ rfl)
      have d5 := pw_cell_below hB (hc 5 _ rfl)
      have d6 := pw_cell_below hB (hc 6 _ rfl)
      have d7 := pw_cell_below hB (hc 7 _ rfl)
      have d8 := pw_cell_below hB (hc 8 _ rfl)
      simp only [hz, Nat.add_zero] at d0 d1 d2 d3 d4 d5 d6 d7 d8
      have hblt : b' < wr.heap.size := World.block_lt_of_cell? _ _ d0
      have hbx := bkL_get hx.out
      have hbt := bkL_th x
      have hbe := bkL_el x
      have hW := Blk.new wr (insCells x AL AT AE cL cT cE) 160
      have hsW : (wr.alloc (.cells (insCells x AL AT AE cL cT cE) 160)).heap.size = wr.heap.size + 1 := World.size_alloc _ _
      have hKa := KeepC.alloc hKe (.cells (insCells x AL AT AE cL cT cE) 160) (by have := hB.size; omega)
      have hJa := hA _ _ (.cells (insCells x AL AT AE cL cT cE) 160) hJs
      have hES := Lib.hid (eachL_take (d := d) hx.out)
      have hEP := eachL_parts (d := d) hx.out
      obtain ⟨e0, he0⟩ : ∃ e0 : EachX kI w0, e0 = ⟨d, x, _, hk, hd0, by omega⟩ := ⟨_, rfl⟩
      have hed : e0.dx = (d, x) := by rw [he0]; rfl
      have heE : e0.enc = #[.int .i64 d, .agg (insCells x AL AT AE cL cT cE)] := by rw [he0]; rfl
      have hyl : ys.length = (eachL d (ls.take j)).length := by rw [← hys.out, List.length_map]
      have hNl := hN
      rw [hEP] at hNl
      simp only [List.length_append, List.length_cons] at hNl
      have H1 := (hY (n - 1) (pre ++ ys) e0 _ hJa (by rw [List.length_append]; omega)).mono (R' := fun e W2 =>
        (e = .returned (.bool true) ∧ Hid (J (pre ++ ys ++ [e0]) W2) ∧ KeepC w0.heap.size n1 (wr.alloc (.cells (insCells x AL AT AE cL cT cE) 160)) W2 ∧ W2.cell? ⟨wr.heap.size, 6, none⟩ = some (.slice AT x.th.length cT)) ∨ (e = .returned (.bool false) ∧ Hid (Jx (pre ++ ys ++ [e0]) W2)))
        (fun e W2 h => h.elim (fun ⟨a, b, c⟩ => .inl ⟨a, b, c, by rw [(c.blk (by omega) hW).cell]; rfl⟩) .inr)
      have H2 := Lib.hid (show ∀ W2, Hid (J (pre ++ ys ++ [e0]) W2) → KeepC w0.heap.size n1 (wr.alloc (.cells (insCells x AL AT AE cL cT cE) 160)) W2 → CallsIn F (n - 1) Try.prog 100 #[.slice AT x.th.length cT, .int .i64 (d + 1), .func (.yield l) #[] #[]] W2 (fun e W3 =>
        (e = .returned (.bool true) ∧ ∃ y2, y2.map EachX.dx = eachL (d + 1) x.th ∧ Hid (J (pre ++ ys ++ [e0] ++ y2) W3) ∧ KeepC w0.heap.size n1 (wr.alloc (.cells (insCells x AL AT AE cL cT cE) 160)) W3 ∧ W3.cell? ⟨wr.heap.size, 7, none⟩ = some (.slice AE x.el.length cE)) ∨ (e = .returned (.bool false) ∧ ∃ q, q.map EachX.dx <+: eachL (d + 1) x.th ∧ Hid (Jx (pre ++ ys ++ [e0] ++ q) W3))) from fun W2 hj hk2 =>
        (IH.out (bkL x.th) (by omega) x.th (Nat.le_refl _) (n - 1) (d + 1) AT cT (pre ++ ys ++ [e0]) W2 (by omega) (by omega) hT (hB0.trans (hKa.trans hk2).1) (by have := (hKa.trans hk2).1.size; omega) hj (by simp only [List.length_append, List.length_cons, List.length_nil]; omega)).mono
          (fun e W3 h => h.elim (fun ⟨a, y2, b, c, k⟩ => .inl ⟨a, y2, b, c, hk2.trans k, by rw [((hk2.trans k).blk (by omega) hW).cell]; rfl⟩) .inr))
      have H3 := Lib.hid (show ∀ W3 (y2 : List (EachX kI w0)), y2.map EachX.dx = eachL (d + 1) x.th → Hid (J (pre ++ ys ++ [e0] ++ y2) W3) → KeepC w0.heap.size n1 (wr.alloc (.cells (insCells x AL AT AE cL cT cE) 160)) W3 → CallsIn F (n - 1) Try.prog 100 #[.slice AE x.el.length cE, .int .i64 (d + 1), .func (.yield l) #[] #[]] W3 (fun e W4 =>
        (e = .returned (.bool true) ∧ ∃ y3, y3.map EachX.dx = eachL (d + 1) x.el ∧ Hid (J (pre ++ ys ++ [e0] ++ y2 ++ y3) W4) ∧ KeepC w0.heap.size n1 (wr.alloc (.cells (insCells x AL AT AE cL cT cE) 160)) W4) ∨ (e = .returned (.bool false) ∧ ∃ q, q.map EachX.dx <+: eachL (d + 1) x.el ∧ Hid (Jx (pre ++ ys ++ [e0] ++ y2 ++ q) W4))) from fun W3 y2 hm hj hk3 =>
        (IH.out (bkL x.el) (by omega) x.el (Nat.le_refl _) (n - 1) (d + 1) AE cE (pre ++ ys ++ [e0] ++ y2) W3 (by omega) (by omega) hE (hB0.trans (hKa.trans hk3).1) (by have := (hKa.trans hk3).1.size; omega) hj (by have h2 : y2.length = (eachL (d + 1) x.th).length := (by rw [← hm, List.length_map]); simp only [List.length_append, List.length_cons, List.length_nil]; omega)).mono
          (fun e W4 h => h.elim (fun ⟨a, y3, b, c, k⟩ => .inl ⟨a, y3, b, c, hk3.trans k⟩) .inr))
      obtain ⟨fn, tmps, assign, body, hy, hR⟩ := H1
      rw [heE] at hy
      simp only [insCells] at hy hR H2 H3 hW hsW hKa
      clear hKe hJs hJa hc hT hE hL hC he0 heE hk
      gi_wp2
      refine hR.mono ?_
      clear hR
      rintro e W2 (⟨rfl, hJ2, hk2, x6⟩ | ⟨rfl, hx2⟩)
      · gi_wp2_with (first
          | ((try refine ⟨hdd _, ?_⟩); gi_at_call 100; refine (H2.out W2 hJ2 hk2).mono ?_; clear H2; rintro e W3 (⟨rfl, y2, hm2, hJ3, hk3, x7⟩ | ⟨rfl, q, hq, hx3⟩))
          | ((try refine ⟨hdd _, ?_⟩); gi_at_call 100; refine (H3.out W3 y2 hm2 hJ3 hk3).mono ?_; clear H3; rintro e W4 (⟨rfl, y3, hm3, hJ4, hk4⟩ | ⟨rfl, q, hq, hx4⟩)))
        · go_roundw
          case rel =>
            refine ⟨j + 1, ys ++ [e0] ++ y2 ++ y3, by omega, by go_num, ?_, by simpa [List.append_assoc] using hJ4.out, hKa.trans hk4⟩
            show _ = _
            rw [hES.out, List.map_append, List.map_append, List.map_append, hys.out, hm2, hm3]
            simp [hed]
          case measure => simp [intOf]; omega
        · obtain ⟨r, hr⟩ := hq
          go_ret
          refine .inr ⟨rfl, ys ++ [e0] ++ y2 ++ q, ⟨r ++ eachL d (ls.drop (j + 1)), ?_⟩, by simpa [List.append_assoc] using hx4.out⟩
          rw [hEP, ← hr, List.map_append, List.map_append, List.map_append, hys.out, hm2]
          simp [hed]
        · obtain ⟨r, hr⟩ := hq
          go_ret
          refine .inr ⟨rfl, ys ++ [e0] ++ q, ⟨r ++ eachL (d + 1) x.el ++ eachL d (ls.drop (j + 1)), ?_⟩, by simpa [List.append_assoc] using hx3.out⟩
          rw [hEP, ← hr, List.map_append, List.map_append, hys.out]
          simp [hed]
      · gi_wp2
        go_ret
        refine .inr ⟨rfl, ys ++ [e0], ⟨eachL (d + 1) x.th ++ eachL (d + 1) x.el ++ eachL d (ls.drop (j + 1)), ?_⟩, by simpa [List.append_assoc] using hx2.out⟩
        rw [hEP, List.map_append, hys.out]
        simp [hed]
    · obtain rfl : j = ls.length := by omega
      rw [List.take_length] at hys
      gi_wp2
      go_ret
      exact .inl ⟨rfl, ys, hys.out, hJs, hKe⟩
end Go.Proofs.Ytfndlpfceokloaa
end
section
namespace Go.Proofs.Ytfndlpfceokloaa
open Go.RowKit Go.Shelf YtfndlpfceokloaaB Go.Proofs.YtfndlpfceokloaaW.PrintWords
attribute [local go_sem] Oper.semAt_some
set_option maxHeartbeats 1000000 in
theorem each1_in (F : Fence) (hd : F.depth = none) (n : Nat) (hF1 : F.fn 99) (hF : F.fn 100) (hro : F.round = none) (l Bt n1 : Nat) (w0 : World) (hn1 : w0.heap.size ≤ n1) (A : Option Addr) (c : Nat) (ls : List Ins) (hls : bkL ls ≤ 4611686018427387904) (J Jx : List (EachX kI w0) → World → Prop)
    (hA : ∀ pre W o, J pre W → J pre (W.alloc o))
    (hY : ∀ pre (x : EachX kI w0) W, J pre W → pre.length < (eachL 0 ls).length → YieldAt F (n - 1) Try.prog l x.enc W fun e W' =>
      (e = .returned (.bool true) ∧ J (pre ++ [x]) W' ∧ KeepC w0.heap.size n1 W W') ∨ (e = .returned (.bool false) ∧ Jx (pre ++ [x]) W'))
    (W : World) (hBt : W.cell? ⟨Bt, 0, none⟩ = some (.slice A ls.length c)) (hC : kI.C w0 A ls.length ls) (hB : Below w0.heap.size w0 W) (hnW : n1 ≤ W.heap.size) (h0 : J [] W) :
    CallsIn F n Try.prog 99 #[.func (.yield l) #[] #[], .pointer (some ⟨Bt, 0, none⟩)] W fun e W' => (∃ v, e = .returned v) ∧
      ((∃ ys : List (EachX kI w0), ys.map EachX.dx = eachL 0 ls ∧ J ys W') ∨ (∃ pre : List (EachX kI w0), pre.map EachX.dx <+: eachL 0 ls ∧ Jx pre W')) := by
  have hdd : ∀ k : Nat, (F.depth.isSome = true → 1 ≤ k) := fun k h => by rw [hd] at h; cases h
  have hp := Lib.hid (each_in F hd hF hro l (eachL 0 ls).length n1 w0 hn1 J Jx hA (fun m pre x W hj hl => anyDepth hd m (hY pre x W hj hl)) (bkL ls) ls (Nat.le_refl _) (n - 1) 0 A c [] W (Int.le_refl _) (by omega) hC hB hnW h0 (by simp))
  refine callsIn_of_wp Try.func99 rfl hF1 ?_ hro
  simp only [Try.ntmps99, List.size_toArray, List.length_cons, List.length_nil, Nat.reduceAdd, Nat.reduceSub, Array.replicate_succ, Array.replicate_zero, List.push_toArray, List.append_toArray, List.nil_append, List.cons_append]
  gi_wp2_with ((try refine ⟨hdd _, ?_⟩); gi_at_call 100; refine hp.out.mono ?_; clear hp; rintro e W1 (⟨rfl, ys, hm, hJ1, _⟩ | ⟨rfl, q, hq, hx⟩))
  · go_end0
    exact ⟨⟨_, rfl⟩, .inl ⟨ys, hm, by simpa using hJ1⟩⟩
  · go_end0
    exact ⟨⟨_, rfl⟩, .inr ⟨q, hq, by simpa using hx⟩⟩
theorem Each_in (F : Fence) (n : Nat) (hF : F.fn 65) (hro : F.round = none) (v : Value) (hv : ∃ A m c, v = .slice A m c) (w : World) :
    CallsIn F n Try.prog 65 #[v] w fun e w' => e = .returned (.func (.func 99) #[] #[.pointer (some ⟨w.heap.size, 0, none⟩)]) ∧ w' = w.alloc (.cells #[v] 52) := by
  obtain ⟨A, m, c, rfl⟩ := hv
  refine callsIn_of_wp Try.func65 rfl hF ?_ hro
  simp only [Try.ntmps65, List.size_toArray, List.length_cons, List.length_nil, Nat.reduceAdd, Nat.reduceSub, Array.replicate_succ, Array.replicate_zero, List.push_toArray, List.append_toArray, List.nil_append, List.cons_append]
  gi_wp2
  go_ret
  exact ⟨rfl, rfl⟩
end Go.Proofs.Ytfndlpfceokloaa
end
section
namespace Go.Proofs.YtfndlpfceokloaaB
open Go.RowKit Go.Shelf Go.Proofs.YtfndlpfceokloaaW.PrintWords
def mxL (l : List (Int × Ins)) : Nat := l.foldl (fun n p => max n p.2.list.length) 0
theorem mxL_from (l : List (Int × Ins)) : ∀ n : Nat, l.foldl (fun n p => max n p.2.list.length) n = max n (mxL l) := by
  induction l with
  | nil => intro n; simp [mxL]
  | cons p l ih => intro n; simp only [mxL, List.foldl_cons] at *; rw [ih, ih (max 0 _)]; omega
theorem mxL_append (l r : List (Int × Ins)) : mxL (l ++ r) = max (mxL l) (mxL r) := by
  rw [mxL, List.foldl_append, mxL_from]; rfl
theorem mxL_cons (p : Int × Ins) (r : List (Int × Ins)) : mxL (p :: r) = max p.2.list.length (mxL r) := by
  rw [mxL, List.foldl_cons, mxL_from]; simp
mutual
theorem mxI_eq : ∀ (d : Int) (x : Ins), mxL (eachI d x) = moI x
  | d, .mk o t a b n l th el h => by
    have h1 := mxL_eq (d + 1) th
    have h2 := mxL_eq (d + 1) el
    rw [eachI, moI, mxL_cons, mxL_append, h1, h2]
    simp only [Ins.list]
theorem mxL_eq : ∀ (d : Int) (l : List Ins), mxL (eachL d l) = moL l
  | d, [] => by simp [eachL, moL, mxL]
  | d, x :: r => by
    have h1 := mxI_eq d x
    have h2 := mxL_eq d r
    rw [eachL, moL, mxL_append, h1, h2]
end
def moS {k : Kd Ins} {w0 : World} (pre : List (EachX k w0)) : Nat := mxL (pre.map EachX.dx)
theorem moS_snoc {k : Kd Ins} {w0 : World} (pre : List (EachX k w0)) (x : EachX k w0) : moS (pre ++ [x]) = max (moS pre) x.x.list.length := by
  rw [moS, List.map_append, mxL_append]; simp [moS, mxL, EachX.dx]
end Go.Proofs.YtfndlpfceokloaaB
namespace Go.Proofs.Ytfndlpfceokloaa
open Go.RowKit Go.Shelf YtfndlpfceokloaaB Go.Proofs.YtfndlpfceokloaaW.PrintWords
attribute [local go_sem] Oper.semAt_some
theorem each_stops (F : Fence) (hd : F.depth = none) (n : Nat) (hF1 : F.fn 99) (hF : F.fn 100) (hro : F.round = none) (Bt n1 : Nat) (w0 : World) (hn1 : w0.heap.size ≤ n1) (A : Option Addr) (c : Nat) (ls : List Ins) (hls : bkL ls ≤ 4611686018427387904)
    (w : World) (hBt : w.cell? ⟨Bt, 0, none⟩ = some (.slice A ls.length c)) (hC : kI.C w0 A ls.length ls) (hB : Below w0.heap.size w0 w) (hnW : n1 ≤ w.heap.size) :
    SeqStopsK F n Try.prog 99 #[.pointer (some ⟨Bt, 0, none⟩)] (EachX.enc (k := kI) (w0 := w0)) (KeepC w0.heap.size n1) (fun ys => ys.map EachX.dx = eachL 0 ls) (fun pre => pre.map EachX.dx <+: eachL 0 ls) (eachL 0 ls).length w := fun l J Jx W hW hJ _ hY h0 => by
  have hs := hW.size
  exact each1_in F hd n hF1 hF hro l Bt n1 w0 hn1 A c ls hls J Jx (fun pre W' o h => hJ pre W' _ none h (World.grownBy_alloc W' o none) (fun r e => by cases e)) hY W (pw_cell_below hW hBt) hC (hB.trans (hW.mono hB.size)) (by omega) h0
set_option maxRecDepth 100000 in
set_option maxHeartbeats 4000000 in
theorem Most_in (F : Fence) (hd : F.depth = none) (n : Nat) (hM : F.fn 31) (hE : F.fn 65) (hF1 : F.fn 99) (hF : F.fn 100) (hro : F.round = none) (hn : 6 ≤ n) (ls : List Ins) (hbk : bkL ls ≤ 1048576) (A : Option Addr) (c : Nat) (w : World) (hC : kI.C w A ls.length ls) :
    CallsIn F n Try.prog 31 #[.slice A ls.length c] w fun e W' => e = .returned (.int .i64 (moL ls : Int)) ∧ Below w.heap.size w W' := by
  have h1 : 1 ≤ n := by omega
  refine callsIn_of_wp_marks Try.func31 rfl hM ?_ hro
  simp only [Try.ntmps31, List.size_toArray, List.length_cons, List.length_nil, Nat.reduceAdd, Nat.reduceSub, Array.replicate_succ, Array.replicate_zero, List.push_toArray, List.append_toArray, List.nil_append, List.cons_append]
  gi_wp2_with (gi_at_call 65; refine (Each_in F (n - 1) hE hro _ ⟨_, _, _, rfl⟩ _).mono ?_; rintro e w' ⟨rfl, rfl⟩)
  have bN := (Boxed.new w 3 (.int .i64 0)).alloc (.cells #[.slice A ls.length c] 52)
  have bL := Boxed.new (w.alloc (.cells #[.int .i64 0] 3)) 52 (.slice A ls.length c)
  rw [World.size_alloc] at bL
  have hB0 : Below w.heap.size w ((w.alloc (.cells #[.int .i64 0] 3)).alloc (.cells #[.slice A ls.length c] 52)) := ((Below.refl _ w).alloc (Nat.le_refl _) _).alloc (by simp) _
  have hsz : ((w.alloc (.cells #[.int .i64 0] 3)).alloc (.cells #[.slice A ls.length c] 52)).heap.size = w.heap.size + 2 := by simp
  obtain ⟨W0, hW0⟩ : ∃ W0, (w.alloc (.cells #[.int .i64 0] 3)).alloc (.cells #[.slice A ls.length c] 52) = W0 := ⟨_, rfl⟩
  rw [hW0] at bN bL hB0 hsz ⊢
  clear hW0
  refine wpIn_rangeFunc_ownH hro h1 (gf := 99) (lb := #[.pointer (some ⟨w.heap.size + 1, 0, none⟩)]) rfl hF1 (enters_of Try.func99 (by kernel_rfl) rfl)
    (each_stops F hd (n - 1) hF1 hF hro (w.heap.size + 1) W0.heap.size w (by omega) A c ls (by omega) W0 bL.cell hC hB0 (Nat.le_refl _)) keepC_t (keepC_b (by omega)) (Below.refl _ _) (fun _ => rfl)
    (fun pre W => (Boxed W w.heap.size 3 (.int .i64 (moS pre : Int)) ∧ Boxed W (w.heap.size + 1) 52 (.slice A ls.length c)) ∧ Below w.heap.size w W)
    (fun _ _ _ => False)
    (OwnFrom.and (OwnFrom.and (Own.from (boxed_own _ _ _) _) (Own.from (boxed_own _ _ _) _)) (ownFrom_below (Nat.le_refl _) (by omega)))
    (fun _ _ _ _ _ hs _ _ => hs)
    ⟨⟨bN, bL⟩, hB0⟩
    (fun x a' W => ∃ Bx AL AT AE cL cT cE, w.heap.size + 1 < Bx ∧ Blk W Bx (insCells x.x AL AT AE cL cT cE) 160 ∧ a' = { tmps := #[.slice A ls.length c, undef, .int .i64 0, .pointer (some ⟨w.heap.size, 0, none⟩), undef, .pointer (some ⟨Bx, 0, none⟩), .slice A ls.length c, .func (.func 99) #[] #[.pointer (some ⟨w.heap.size + 1, 0, none⟩)], .int .i64 x.d, .agg (insCells x.x AL AT AE cL cT cE), undef, undef, undef, undef, undef, undef], defers := [] })
    (fun x a' _ X Y row hs hg hr => by obtain ⟨Bx, AL, AT, AE, cL, cT, cE, h1, h2, h3⟩ := hs; exact ⟨Bx, AL, AT, AE, cL, cT, cE, h1, h2.grown hg (fun e => by obtain ⟨_, o, ho, hoc⟩ := hr Bx e.symm; rw [show X.heap[Bx]? = _ from h2] at ho; cases ho; simp [Obj.isCells] at hoc), h3⟩)
    ?assign ?body ?done ?stop
  case assign =>
    rintro l pre ⟨d, x, cs, hk, hd'⟩ W K ⟨⟨b1, b2⟩, hB1⟩ hK
    obtain ⟨AL, cL, AT, cT, AE, cE, rfl, g1, g2, g3, g4, g5, hL, hT, hE, l1, l2, l3⟩ := ins_openC hk
    have hK' := Lib.hid hK
    have hsW := hB1.size
    have hltB := b2.lt
    clear hK hT hE hL hC
    simp only [EachX.enc]
    gi_wp2
    refine hK'.out _ _ ((KeepsOthers.alloc _ _).from _) (KeepC.alloc (KeepC.refl _ _ _) _ hsW) ⟨⟨b1.alloc _, b2.alloc _⟩, hB1.alloc hsW _⟩ ⟨W.heap.size, AL, AT, AE, cL, cT, cE, by omega, Blk.new _ _ _, rfl⟩
  case body =>
    rintro l pre x a' W hl hrec ⟨⟨b1, b2⟩, hB1⟩ ⟨Bx, AL, AT, AE, cL, cT, cE, hBx, hX, rfl⟩ hlt
    have c1 := b1.cell
    have f1 := b1.frozen
    have c5 : W.cell? ⟨Bx, 5, none⟩ = some (.slice AL x.x.list.length cL) := by rw [hX.cell]; rfl
    have HS := moS_snoc pre x
    have HM : ((moS (pre ++ [x]) : Nat) : Int) = if (moS pre : Int) < (x.x.list.length : Int) then (x.x.list.length : Int) else (moS pre : Int) := by rw [HS]; split <;> omega
    have HM' := Lib.hid HM
    clear HS HM hX
    generalize moS pre = s at *
    generalize x.x.list.length = m at *
    by_cases hsm : (s : Int) < (m : Int)
    all_goals
      gi_wp2
      refine ⟨(KeepsOthers.setCell _ _ _).from _, ⟨(Below.refl _ _).setCell (p := ⟨w.heap.size, 0, none⟩) (Nat.le_refl _) _, fun k cs t fr hk hc => (Below.heap_setCell _ _ _ _ (by simp; omega)).trans hc⟩, ⟨⟨?_, b2.other (by simp) _⟩, hB1.setCell (p := ⟨w.heap.size, 0, none⟩) (Nat.le_refl _) _⟩⟩
      have HM2 := HM'.out
      first | rw [if_pos hsm] at HM2 | rw [if_neg (Int.not_lt.mpr hsm)] at HM2
      rw [HM2]
      exact b1.set _
  case done =>
    rintro D ys W hD hS ⟨⟨b1, b2⟩, hB1⟩ hK
    have HF := Lib.hid (show (moS ys : Int) = moL ls from by rw [moS, hS, mxL_eq])
    have c1 := b1.cell
    generalize moS ys = s at *
    gi_wp2
    refine ⟨by simp, .inl ⟨_, _, rfl, run_takeDeferred hK, ?_⟩⟩
    exact ⟨_, results_tmp rfl _ _ _, by rw [← HF.out]; rfl, hB1.trans (belowK_b (w := w) (Nat.le_refl _) W D _ _ (by omega) hK rfl rfl)⟩
  case stop =>
    rintro D c pre W _ _ h _
    exact h.elim
end Go.Proofs.Ytfndlpfceokloaa
end
section
namespace Go.Proofs.Ytfndlpfceokloaa
open Go.RowKit Go.Shelf YtfndlpfceokloaaB Go.Proofs.YtfndlpfceokloaaW.PrintWords
mutual
theorem eachI_sz : ∀ (d : Int) (x : Ins), (eachI d x).length = szI x
  | d, .mk o t a b n l th el h => by
    have h1 := eachL_sz (d + 1) th
    have h2 := eachL_sz (d + 1) el
    rw [eachI, szI]
    simp only [List.length_cons, List.length_append]
    omega
theorem eachL_sz : ∀ (d : Int) (l : List Ins), (eachL d l).length = szL l
  | d, [] => by simp [eachL, szL]
  | d, x :: r => by
    have h1 := eachI_sz d x
    have h2 := eachL_sz d r
    rw [eachL, szL, List.length_append]
    omega
end
attribute [local go_sem] Oper.semAt_some
set_option maxRecDepth 100000 in
set_option maxHeartbeats 4000000 in
theorem Size_in (F : Fence) (hd : F.depth = none) (n : Nat) (hM : F.fn 61) (hE : F.fn 65) (hF1 : F.fn 99) (hF : F.fn 100) (hro : F.round = none) (hn : 6 ≤ n) (ls : List Ins) (hbk : bkL ls ≤ 1048576) (A : Option Addr) (c : Nat) (w : World) (hC : kI.C w A ls.length ls) :
    CallsIn F n Try.prog 61 #[.slice A ls.length c] w fun e W' => e = .returned (.int .i64 (szL ls : Int)) ∧ Below w.heap.size w W' := by
  have h1 : 1 ≤ n := by omega
  have hsb := szL_bk ls
  have hel := eachL_sz 0 ls
  refine callsIn_of_wp_marks Try.func61 rfl hM ?_ hro
  simp only [Try.ntmps61, List.size_toArray, List.length_cons, List.length_nil, Nat.reduceAdd, Nat.reduceSub, Array.replicate_succ, Array.replicate_zero, List.push_toArray, List.append_toArray, List.nil_append, List.cons_append]
  gi_wp2_with (gi_at_call 65; refine (Each_in F (n - 1) hE hro _ ⟨_, _, _, rfl⟩ _).mono ?_; rintro e w' ⟨rfl, rfl⟩)
  have bN := (Boxed.new w 3 (.int .i64 0)).alloc (.cells #[.slice A ls.length c] 52)
  have bL := Boxed.new (w.alloc (.cells #[.int .i64 0] 3)) 52 (.slice A ls.length c)
  rw [World.size_alloc] at bL
  have hB0 : Below w.heap.size w ((w.alloc (.cells #[.int .i64 0] 3)).alloc (.cells #[.slice A ls.length c] 52)) := ((Below.refl _ w).alloc (Nat.le_refl _) _).alloc (by simp) _
  have hsz : ((w.alloc (.cells #[.int .i64 0] 3)).alloc (.cells #[.slice A ls.length c] 52)).heap.size = w.heap.size + 2 := by simp
  obtain ⟨W0, hW0⟩ : ∃ W0, (w.alloc (.cells #[.int .i64 0] 3)).alloc (.cells #[.slice A ls.length c] 52) = W0 := ⟨_, rfl⟩
  rw [hW0] at bN bL hB0 hsz ⊢
  clear hW0
  refine wpIn_rangeFunc_ownH hro h1 (gf := 99) (lb := #[.pointer (some ⟨w.heap.size + 1, 0, none⟩)]) rfl hF1 (enters_of Try.func99 (by kernel_rfl) rfl)
    (each_stops F hd (n - 1) hF1 hF hro (w.heap.size + 1) W0.heap.size w (by omega) A c ls (by omega) W0 bL.cell hC hB0 (Nat.le_refl _)) keepC_t (keepC_b (by omega)) (Below.refl _ _) (fun _ => rfl)
    (fun pre W => Boxed W w.heap.size 3 (.int .i64 (pre.length : Int)) ∧ Below w.heap.size w W)
    (fun _ _ _ => False)
    (OwnFrom.and (Own.from (boxed_own _ _ _) _) (ownFrom_below (Nat.le_refl _) (by omega)))
    (fun _ _ _ _ _ hs _ _ => hs)
    ⟨bN, hB0⟩
    (fun x a' W => ∃ cs, a' = { tmps := #[.slice A ls.length c, undef, .int .i64 0, .pointer (some ⟨w.heap.size, 0, none⟩), .slice A ls.length c, .func (.func 99) #[] #[.pointer (some ⟨w.heap.size + 1, 0, none⟩)], .int .i64 x.d, .agg cs, undef, undef, undef], defers := [] })
    (fun x a' _ X Y row hs hg hr => hs)
    ?assign ?body ?done ?stop
  case assign =>
    rintro l pre ⟨d, x, cs, hk, hd'⟩ W K ⟨b1, hB1⟩ hK
    have hK' := Lib.hid hK
    clear hK
    simp only [EachX.enc]
    gi_wp2
    exact hK'.out _ _ (KeepsFrom.refl _ _) (KeepC.refl _ _ _) ⟨b1, hB1⟩ ⟨_, rfl⟩
  case body =>
    rintro l pre x a' W hl hrec ⟨b1, hB1⟩ ⟨cs, rfl⟩ hlt
    have c1 := b1.cell
    have f1 := b1.frozen
    have hlt2 : (pre.length : Int) ≤ 1048576 := by omega
    have HL := Lib.hid (show (((pre ++ [x]).length : Nat) : Int) = (pre.length : Int) + 1 from by simp)
    gi_wp2
    refine ⟨(KeepsOthers.setCell _ _ _).from _, ⟨(Below.refl _ _).setCell (p := ⟨w.heap.size, 0, none⟩) (Nat.le_refl _) _, fun k cs t fr hk hc => (Below.heap_setCell _ _ _ _ (by simp; omega)).trans hc⟩, ⟨?_, hB1.setCell (p := ⟨w.heap.size, 0, none⟩) (Nat.le_refl _) _⟩⟩
    rw [HL.out]
    exact b1.set _
  case done =>
    rintro D ys W hD hS ⟨b1, hB1⟩ hK
    have HF := Lib.hid (show (ys.length : Int) = szL ls from by rw [← hel, ← hS, List.length_map])
    have c1 := b1.cell
    gi_wp2
    refine ⟨by simp, .inl ⟨_, _, rfl, run_takeDeferred hK, ?_⟩⟩
    exact ⟨_, results_tmp rfl _ _ _, by rw [← HF.out]; rfl, hB1.trans (belowK_b (w := w) (Nat.le_refl _) W D _ _ (by omega) hK rfl rfl)⟩
  case stop =>
    rintro D c pre W _ _ h _
    exact h.elim
theorem Size_any (ls : List Ins) (hbk : bkL ls ≤ 1048576) (A : Option Addr) (c : Nat) (w : World) (hC : kI.C w A ls.length ls) :
    Calls Try.prog 61 #[.slice A ls.length c] w fun e W' => e = .returned (.int .i64 (szL ls : Int)) ∧ Below w.heap.size w W' :=
  (callsIn_wide (n := 6)).1 (Size_in Fence.wide rfl 6 trivial trivial trivial trivial rfl (by omega) ls hbk A c w hC)
end Go.Proofs.Ytfndlpfceokloaa
end
section
namespace Go.Proofs.YtfndlpfceokloaaB
open Go.RowKit Go.Shelf Go.Proofs.YtfndlpfceokloaaW.PrintWords
theorem flat_at {sz : Nat} : ∀ (css : List (List Value)), (∀ c ∈ css, c.length = sz) → ∀ (i j : Nat) (cs : List Value), css[i]? = some cs → j < sz → css.flatten[i * sz + j]? = cs[j]?
  | [], _, i, j, cs, h, _ => by simp at h
  | c :: r, hl, 0, j, cs, h, hj => by
    have hc := hl c (by simp)
    obtain rfl : c = cs := by simpa using h
    rw [List.flatten_cons, Nat.zero_mul, Nat.zero_add, List.getElem?_append_left (by omega)]
  | c :: r, hl, i + 1, j, cs, h, hj => by
    have hc := hl c (by simp)
    have ih := flat_at r (fun c hc => hl c (by simp [hc])) i j cs (by simpa using h) hj
    rw [List.flatten_cons, Nat.add_mul, Nat.one_mul, List.getElem?_append_right (by omega), show i * sz + sz + j - c.length = i * sz + j from by omega]
    exact ih
/-- A row whose elements' cells are known, read out of a block. -/
theorem C_lit {α : Type} {d : Kd α} {W : World} {g : Nat} {t : TypeId} (css : List (List Value)) (xs : List α) (hb : Blk W g css.flatten.toArray t) (hm : xs.length ≤ maxLen) (hl : css.length = xs.length)
    (hk : ∀ (i : Nat) (x : α) (cs : List Value), xs[i]? = some x → css[i]? = some cs → d.K W x cs) : d.C W (some ⟨g, 0, none⟩) xs.length xs := by
  have hcl : ∀ c ∈ css, c.length = d.sz := fun c hc => by
    obtain ⟨i, hi, rfl⟩ := List.getElem_of_mem hc
    exact d.K_len (hk i _ _ (List.getElem?_eq_getElem (by omega)) (List.getElem?_eq_getElem hi))
  refine ⟨rfl, hm, fun hp => ⟨_, rfl, fun j p hj => ?_⟩⟩
  have hjl : j < xs.length := (List.getElem?_eq_some_iff.1 hj).1
  have hjc : css[j]? = some css[j] := List.getElem?_eq_getElem (by omega)
  refine ⟨css[j], hcl _ (List.getElem_mem _), hk j p _ hj hjc, fun i u hu => ?_⟩
  have hi : i < d.sz := by rw [← hcl _ (List.getElem_mem (n := j) _)]; exact (List.getElem?_eq_some_iff.1 hu).1
  rw [show (⟨g, 0, none⟩ : Addr).add (j * d.sz + i) = ⟨g, j * d.sz + i, none⟩ from by unfold Addr.add; split <;> simp_all, hb.cell]
  rw [List.getElem?_toArray, flat_at css hcl j i _ hjc hi]
  exact hu
/-- An instruction without others in it, K. -/
theorem ins_leaf {tU tE : Nat} (w : World) (op : Int) (h : (Lit.int .i64 op).wf = true) : (kIns tU tE).K w (.mk op 0 0 0 0 [] [] [] false) [.int .i64 op, .int .u8 0, .int .u32 0, .int .u32 0, .int .u64 0, .slice none 0 0, .slice none 0 0, .slice none 0 0, .bool false] :=
  (ins_mkF (ok := fun _ => True) (x := .mk op 0 0 0 0 [] [] [] false) (w := w) h rfl rfl rfl rfl FC.nil FC.nil FC.nil (Nat.le_refl _) (Nat.le_refl _) (Nat.le_refl _)).now
end Go.Proofs.YtfndlpfceokloaaB
namespace Go.Proofs.Ytfndlpfceokloaa
open Go.RowKit Go.Shelf YtfndlpfceokloaaB Go.Proofs.YtfndlpfceokloaaW.PrintWords
theorem Most_any (ls : List Ins) (hbk : bkL ls ≤ 1048576) (A : Option Addr) (c : Nat) (w : World) (hC : kI.C w A ls.length ls) :
    Calls Try.prog 31 #[.slice A ls.length c] w fun e W' => e = .returned (.int .i64 (moL ls : Int)) ∧ Below w.heap.size w W' :=
  (callsIn_wide (n := 6)).1 (Most_in Fence.wide rfl 6 trivial trivial trivial trivial rfl (by omega) ls hbk A c w hC)
def nopI : Ins := .mk 1 0 0 0 0 [] [] [] false
def ifI : Ins := .mk 4 0 0 0 0 [] [nopI] [nopI] true
def leafC (op : Int) : List Value := [.int .i64 op, .int .u8 0, .int .u32 0, .int .u32 0, .int .u64 0, .slice none 0 0, .slice none 0 0, .slice none 0 0, .bool false]
def ifC (g : Nat) : List Value := [.int .i64 4, .int .u8 0, .int .u32 0, .int .u32 0, .int .u64 0, .slice none 0 0, .slice (some ⟨g, 0, none⟩) 1 1, .slice (some ⟨g, 0, none⟩) 1 1, .bool true]
theorem of_lit (l : List Ins) (n : Int) (b : Bool) (hbk : bkL l ≤ 1048576) (hb : knL l = b) (hn : n = if b then (coL l : Int) else 0) (w : World) (A : Option Addr) (m c : Nat) (hm : m = l.length) (hC : kI.C w A l.length l) :
    Calls Try.prog 29 #[.slice A m c] w fun e w' => e = .returned (.tuple #[.int .u64 n, .bool b]) ∧ Below w.heap.size w w' := by
  subst hm
  exact (Of_any l hbk w A c hC).mono (by rintro e w' ⟨n', rfl, hn', hB⟩; rw [hb] at hn' ⊢; rw [hn, ← hn'.out]; exact ⟨rfl, hB⟩)
def AwPost (w : World) (e : Ending) (w' : World) : Prop := e = .returned (.bool true) ∧ Below w.heap.size w w'
set_option maxRecDepth 100000 in
theorem C_one (w : World) (op : Int) (h : (Lit.int .i64 op).wf = true) : kI.C (w.alloc (.cells (leafC op).toArray 160)) (some ⟨w.heap.size, 0, none⟩) 1 [Ins.mk op 0 0 0 0 [] [] [] false] :=
  C_lit [leafC op] [Ins.mk op 0 0 0 0 [] [] [] false] (by simpa using Blk.new w (leafC op).toArray 160) (by simp [maxLen]) rfl (fun i x cs hx hc => by
    match i with
    | 0 => cases hx; cases hc; exact ins_leaf _ op h
    | i + 1 => simp at hx)
set_option maxRecDepth 100000 in
theorem C_three (w : World) : kI.C ((w.alloc (.cells (leafC 1).toArray 160)).alloc (.cells (leafC 65 ++ (ifC w.heap.size ++ leafC 1)).toArray 160)) (some ⟨w.heap.size + 1, 0, none⟩) 3 [Ins.mk 65 0 0 0 0 [] [] [] false, ifI, nopI] := by
  have h1 := C_one w 1 rfl
  have h2 := FC.of_old (Kd.C_below h1 ((Below.refl _ (w.alloc (.cells (leafC 1).toArray 160))).alloc (Nat.le_refl _) (.cells (leafC 65 ++ (ifC w.heap.size ++ leafC 1)).toArray 160)))
  have hb := Blk.new (w.alloc (.cells (leafC 1).toArray 160)) (leafC 65 ++ (ifC w.heap.size ++ leafC 1)).toArray 160
  rw [World.size_alloc] at hb
  refine C_lit [leafC 65, ifC w.heap.size, leafC 1] [Ins.mk 65 0 0 0 0 [] [] [] false, ifI, nopI] (by simpa using hb) (by simp [maxLen]) rfl (fun i x cs hx hc => ?_)
  match i with
  | 0 => cases hx; cases hc; exact ins_leaf _ 65 rfl
  | 1 => cases hx; cases hc; exact (ins_mkF (x := ifI) rfl rfl rfl rfl rfl FC.nil h2 h2 (Nat.le_refl _) (Nat.le_refl _) (Nat.le_refl _)).now
  | 2 => cases hx; cases hc; exact ins_leaf _ 1 rfl
  | i + 3 => simp at hx
set_option maxRecDepth 100000 in
set_option maxHeartbeats 1000000 in
theorem awake38_any (w : World) : Calls Try.prog 26 #[] w (AwPost w) := by
  have H1 := Lib.hid (C_three w)
  have H3 := Lib.hid (show ∀ W, kI.C (W.alloc (.cells (leafC 3).toArray 160)) (some ⟨W.heap.size, 0, none⟩) 1 [Ins.mk 3 0 0 0 0 [] [] [] false] from fun W => C_one W 3 rfl)
  go_enter Try.func26, Try.ntmps26
  go_wp2_with fail
  refine (of_lit [Ins.mk 65 0 0 0 0 [] [] [] false, ifI, nopI] 4 true (by simp [bkL, bkI, ifI, nopI]) (by simp [knL, knI, ifI, nopI, stops, Ins.op]) (by simp [coL, coI, ifI, nopI, stops, Ins.op]) _ _ 3 3 rfl H1.out).mono ?_
  rintro e1 W1 ⟨rfl, hB1⟩
  clear H1
  have hB := (((Below.refl _ w).alloc (Nat.le_refl _) _).alloc (by simp) _).trans (hB1.mono (by simp; omega))
  clear hB1
  go_wp2_with fail
  refine (of_lit [Ins.mk 3 0 0 0 0 [] [] [] false] 0 false (by simp [bkL, bkI]) (by simp [knL, knI]) (by simp) _ _ 1 1 rfl (H3.out W1)).mono ?_
  rintro e2 W2 ⟨rfl, hB2⟩
  have hB2' := (hB.alloc hB.size _).trans (hB2.mono (by have := hB.size; simp; omega))
  go_wp2_with fail
  go_ret
  exact ⟨rfl, hB2'⟩
end Go.Proofs.Ytfndlpfceokloaa
end
section
namespace Go.Proofs.Ytfndlpfceokloaa
open Go.RowKit Go.Shelf YtfndlpfceokloaaB Go.Proofs.YtfndlpfceokloaaW.PrintWords
theorem below_drewN {w : World} (m : Nat) : Below w.heap.size w (w.drewN m) := ⟨rfl, rfl, rfl, Nat.le_refl _, fun _ _ => rfl⟩
theorem below_from {W0 W W' : World} (h : Below W0.heap.size W0 W) (h' : Below W.heap.size W W') : Below W0.heap.size W0 W' := h.trans (h'.mono h.size)
set_option maxRecDepth 100000 in
set_option maxHeartbeats 2000000 in
theorem costTells_go (b : Bool) (W : World) (l : List Ins) (A : Option Addr) (c : Nat) (hC : kI.C W A l.length l) (hbk : bkL l ≤ 1048576) (hb : knL l = b) :
    Calls Try.prog 5 #[.slice A l.length c] W (AwPost W) := by
  have F0 : FC kI W (fun k => k < W.heap.size) A l := FC.of_old hC
  have hF : ∀ X, Below W.heap.size W X → kI.C X A l.length l := fun X h => (F0.below h).now
  obtain ⟨m, hm⟩ : ∃ m : Int, m = (moL l : Int) := ⟨_, rfl⟩
  obtain ⟨n, hn⟩ : ∃ n : Int, n = if b then (coL l : Int) else 0 := ⟨_, rfl⟩
  have HFew := Lib.hid (fun X h => few38_any l hbk X A c (hF X h))
  have HPlain := Lib.hid (fun X h => plain_any _ l (Nat.le_refl _) hbk (fun k => k < X.heap.size) X A c (FC.of_old (hF X h)))
  have HOf := Lib.hid (fun X h => of_lit l n b hbk hb hn X A l.length c rfl (hF X h))
  have HMost := Lib.hid (show ∀ X, Below W.heap.size W X → Calls Try.prog 31 #[.slice A l.length c] X fun e W' => e = .returned (.int .i64 m) ∧ Below X.heap.size X W' from fun X h => by rw [hm]; exact Most_any l hbk A c X (hF X h))
  have HKnown := Lib.hid (show ∀ X A' c', kR.C X A' l.length l → Calls Try.prog 30 #[.slice A' l.length c'] X fun e W' => e = .returned (.bool b) ∧ X = W' from fun X A' c' h => by rw [← hb]; exact known_any _ l (Nat.le_refl _) hbk X A' c' h)
  have HRM := Lib.hid (show ∀ X A' c', kR.C X A' l.length l → Calls Try.prog 32 #[.slice A' l.length c'] X fun e W' => e = .returned (.int .i64 m) ∧ Below X.heap.size X W' from fun X A' c' h => by rw [hm]; exact (refMost_any _ l (Nat.le_refl _) hbk X A' c' h).mono (by rintro e W' ⟨rfl, k, rfl⟩; exact ⟨rfl, below_drewN k⟩))
  have HRC := Lib.hid (show b = true → ∀ X A' c', kR.C X A' l.length l → Calls Try.prog 33 #[.slice A' l.length c'] X fun e W' => e = .returned (.int .u64 n) ∧ ∃ k, W' = X.drewN k from fun ht X A' c' h => by
    rw [ht] at hn; rw [hn, if_pos rfl]; exact refCost_any _ l (Nat.le_refl _) hbk X A' c' h)
  have HN0 := Lib.hid (show b = false → n = 0 from fun h => by rw [hn, h]; rfl)
  clear hn hm hb hF F0 hC
  by_cases h2000 : fewN l ≤ 2000
  · have HFew2 := Lib.hid (show ∀ X, Below W.heap.size W X → Calls Try.prog 27 #[.slice A l.length c] X fun e W' => e = .returned (.bool true) ∧ Below X.heap.size X W' from fun X h => (HFew.out X h).mono (by rintro e W' ⟨rfl, h'⟩; exact ⟨by rw [decide_eq_true h2000], h'⟩))
    clear HFew h2000
    go_enter Try.func5, Try.ntmps5
    go_wp2_with fail
    refine (awake38_any _).mono ?_
    rintro e1 W1 ⟨rfl, hB1⟩
    go_wp2_with fail
    refine (HFew2.out _ hB1).mono ?_
    rintro e2 W2 ⟨rfl, h2⟩
    have hB2 := below_from hB1 h2
    clear h2 hB1
    go_wp2_with fail
    refine (HPlain.out _ hB2).mono ?_
    rintro e3 W3 ⟨h3, A', c', rfl, hle, hFr⟩
    have hB3 := below_from hB2 h3
    clear h3 hB2
    go_wp2_with fail
    refine (HOf.out _ hB3).mono ?_
    rintro e4 W4 ⟨rfl, h4⟩
    have hB4 := below_from hB3 h4
    have hR4 : ∀ X, Below W4.heap.size W4 X → kR.C X A' l.length l := fun X hX => (hFr.below (below_from h4 hX)).now
    clear h4 hB3 hFr
    have HR := Lib.hid hR4
    clear hR4
    go_wp2_with fail
    refine (HKnown.out _ _ _ (HR.out _ (Below.refl _ _))).mono ?_
    rintro e5 W5 ⟨rfl, rfl⟩
    cases b
    · have hz := HN0.out rfl
      subst hz
      go_wp2_with fail
      refine (HMost.out _ (by exact hB4)).mono ?_
      rintro e6 W6 ⟨rfl, h6⟩
      have hB6 := below_from hB4 h6
      go_wp2_with fail
      refine (HRM.out _ _ _ (HR.out _ (by exact h6))).mono ?_
      rintro e7 W7 ⟨rfl, h7⟩
      have hB7 := below_from hB6 h7
      have h47 := below_from h6 h7
      go_wp2_with fail
      go_ret
      exact ⟨rfl, hB7⟩
    · have HRC2 := Lib.hid (HRC.out rfl)
      clear HRC HN0
      go_wp2_with fail
      refine (HMost.out _ (by exact hB4)).mono ?_
      rintro e6 W6 ⟨rfl, h6⟩
      have hB6 := below_from hB4 h6
      go_wp2_with fail
      refine (HRM.out _ _ _ (HR.out _ (by exact h6))).mono ?_
      rintro e7 W7 ⟨rfl, h7⟩
      have hB7 := below_from hB6 h7
      have h47 := below_from h6 h7
      go_wp2_with fail
      refine (HRC2.out _ _ _ (HR.out _ (by exact h47))).mono ?_
      rintro e8 W8 ⟨rfl, k8, rfl⟩
      go_wp2_with fail
      go_ret
      exact ⟨by simp, hB7.trans ⟨rfl, rfl, rfl, Nat.le_refl _, fun _ _ => rfl⟩⟩
  · have HFew2 := Lib.hid (show ∀ X, Below W.heap.size W X → Calls Try.prog 27 #[.slice A l.length c] X fun e W' => e = .returned (.bool false) ∧ Below X.heap.size X W' from fun X h => (HFew.out X h).mono (by rintro e W' ⟨rfl, h'⟩; exact ⟨by rw [decide_eq_false h2000], h'⟩))
    clear HFew h2000 HPlain HOf HMost HKnown HRM HRC
    go_enter Try.func5, Try.ntmps5
    go_wp2_with fail
    refine (awake38_any _).mono ?_
    rintro e1 W1 ⟨rfl, hB1⟩
    go_wp2_with fail
    refine (HFew2.out _ hB1).mono ?_
    rintro e2 W2 ⟨rfl, h2⟩
    have hB2 := below_from hB1 h2
    go_wp2_with fail
    go_ret
    exact ⟨rfl, hB2⟩
theorem costTells_walk (W : World) (a0 : List Ins) {A : Option Addr} {n c : Nat} (h0 : (Kd.slice 160 kI).K W a0 (Value.slice A n c).cells.toList) (hb : bkL a0 ≤ 1048576) :
    Calls Try.prog 5 #[.slice A n c] W fun e W' => e = .returned (.bool true) ∧ Below W.heap.size W W' := by
  obtain ⟨A', c', e, _, hC⟩ := h0
  simp [Value.cells] at e
  obtain ⟨rfl, rfl, rfl⟩ := e
  exact costTells_go _ W a0 A c hC hb rfl
end Go.Proofs.Ytfndlpfceokloaa
end
section
namespace Go.Proofs.Ytfndlpfceokloaa
open Go.RowKit Go.Shelf YtfndlpfceokloaaB Go.Proofs.YtfndlpfceokloaaW.PrintWords
theorem C_le {W : World} {k : IntKind} {A : Option Addr} {xs : List Int} (h : (rng k).C W A xs.length xs) (hl : xs.length ≤ 1048576) : RdI W k A xs := C_rdI h (by omega)
theorem C_two {tU tE : Nat} {W : World} {A1 A2 : Option Addr} {l : List Ins} (h1 : (kIns tU tE).C W A1 l.length l) (h2 : (kIns tU tE).C W A2 l.length l) (j : Nat) (hj : j < l.length) :
    ∃ (x : Ins) (b1 o1 b2 o2 : Nat) (AL AT AE BL BT BE : Option Addr) (cL cT cE dL dT dE : Nat), A1 = some ⟨b1, o1, none⟩ ∧ A2 = some ⟨b2, o2, none⟩ ∧ Hid (l[j]? = some x) ∧
      (∀ i u, (insCells x AL AT AE cL cT cE).toList[i]? = some u → W.cell? ⟨b1, o1 + j * 9 + i, none⟩ = some u) ∧ (∀ i u, (insCells x BL BT BE dL dT dE).toList[i]? = some u → W.cell? ⟨b2, o2 + j * 9 + i, none⟩ = some u) ∧
      (rng .u32).C W AL x.list.length x.list ∧ (rng .u32).C W BL x.list.length x.list ∧ (kIns tU tE).C W AT x.th.length x.th ∧ (kIns tU tE).C W BT x.th.length x.th ∧ (kIns tU tE).C W AE x.el.length x.el ∧ (kIns tU tE).C W BE x.el.length x.el := by
  obtain ⟨b1, o1, x, cs, rfl, hx, hk, hc⟩ := C_at h1 (Nat.succ_pos 8) j hj
  obtain ⟨b2, o2, y, ds, rfl, hy, hk2, hc2⟩ := C_at h2 (Nat.succ_pos 8) j hj
  obtain rfl : x = y := by have := hx.out.symm.trans hy.out; injection this
  obtain ⟨AL, cL, AT, cT, AE, cE, rfl, _, _, _, _, _, hL, hT, hE, _⟩ := ins_openC hk
  obtain ⟨BL, dL, BT, dT, BE, dE, rfl, _, _, _, _, _, kL, kT, kE, _⟩ := ins_openC hk2
  exact ⟨x, b1, o1, b2, o2, AL, AT, AE, BL, BT, BE, cL, cT, cE, dL, dT, dE, rfl, rfl, hx, hc, hc2, hL, kL, hT, kT, hE, kE⟩
set_option maxRecDepth 100000 in
set_option maxHeartbeats 4000000 in
theorem same_eq : ∀ (n : Nat) (l : List Ins), bkL l ≤ n → n ≤ 1048576 → ∀ (w : World) (A1 A2 : Option Addr) (c1 c2 : Nat), kR.C w A1 l.length l → kR.C w A2 l.length l →
    Calls Try.prog 57 #[.slice A1 l.length c1, .slice A2 l.length c2] w (AwPost w) := by
  intro n
  induction n using Nat.strongRecOn with
  | ind n ih =>
  intro l hbk hn w A1 A2 c1 c2 h1 h2
  have hlen := bkL_len l
  have IH := Lib.hid ih
  have H1 := Lib.hid (show ∀ X, Below w.heap.size w X → kR.C X A1 l.length l from fun X h => (Ft.below (FC.of_old h1) h).now)
  have H2 := Lib.hid (show ∀ X, Below w.heap.size w X → kR.C X A2 l.length l from fun X h => (Ft.below (FC.of_old h2) h).now)
  clear ih h1 h2
  go_enter Try.func57, Try.ntmps57
  go_wp2_with fail
  go_loopw [5] (fun k wr => ∃ j : Nat, j ≤ l.length ∧ k = .int .i64 j ∧ Below w.heap.size w wr) (fun k _ => l.length - (intOf k).toNat)
  case atStart => exact ⟨0, Nat.zero_le _, rfl, Below.refl _ _⟩
  case round =>
    obtain ⟨j, hj, rfl, hB⟩ := hrel
    by_cases hlt : j < l.length
    · have hlt2 : (j : Int) < (l.length : Int) := by omega
      obtain ⟨x, b1, o1, b2, o2, AL, AT, AE, BL, BT, BE, cL, cT, cE, dL, dT, dE, rfl, rfl, hx, hc, hd, hL, kL, hT, kT, hE, kE⟩ := C_two (H1.out wr hB) (H2.out wr hB) j hlt
      have p0 := hc 0 _ rfl
      have p1 := hc 1 _ rfl
      have p2 := hc 2 _ rfl
      have p3 := hc 3 _ rfl
      have p4 := hc 4 _ rfl
      have p5 := hc 5 _ rfl
      have p6 := hc 6 _ rfl
      have p7 := hc 7 _ rfl
      have p8 := hc 8 _ rfl
      have q0 := hd 0 _ rfl
      have q1 := hd 1 _ rfl
      have q2 := hd 2 _ rfl
      have q3 := hd 3 _ rfl
      have q4 := hd 4 _ rfl
      have q5 := hd 5 _ rfl
      have q6 := hd 6 _ rfl
      have q7 := hd 7 _ rfl
      have q8 := hd 8 _ rfl
      simp only [Nat.add_zero] at p0 p1 p2 p3 p4 p5 p6 p7 p8 q0 q1 q2 q3 q4 q5 q6 q7 q8
      have hb1 : b1 < wr.heap.size := World.block_lt_of_cell? _ _ p0
      have hb2 : b2 < wr.heap.size := World.block_lt_of_cell? _ _ q0
      have hbx := bkL_get hx.out
      have hbt := bkL_th x
      have hbe := bkL_el x
      have hbl := bkL_list x
      have HSL := Lib.hid (show ∀ X, Below wr.heap.size wr X → Calls Try.prog 97 #[.slice AL x.list.length cL, .slice BL x.list.length dL] X fun E w' => E = .returned (.bool true) ∧ ∃ m, w' = X.drewN m from
        fun X h => sameList_eq X AL BL cL dL x.list (C_le (Ft.below (FC.of_old hL) h).now (by omega)) (C_le (Ft.below (FC.of_old kL) h).now (by omega)))
      have HST := Lib.hid (show ∀ X, Below wr.heap.size wr X → Calls Try.prog 57 #[.slice AT x.th.length cT, .slice BT x.th.length dT] X (AwPost X) from
        fun X h => IH.out (bkL x.th) (by omega) x.th (Nat.le_refl _) (by omega) X AT BT cT dT (Ft.below (FC.of_old hT) h).now (Ft.below (FC.of_old kT) h).now)
      have HSE := Lib.hid (show ∀ X, Below wr.heap.size wr X → Calls Try.prog 57 #[.slice AE x.el.length cE, .slice BE x.el.length dE] X (AwPost X) from
        fun X h => IH.out (bkL x.el) (by omega) x.el (Nat.le_refl _) (by omega) X AE BE cE dE (Ft.below (FC.of_old hE) h).now (Ft.below (FC.of_old kE) h).now)
      have hX := Blk.alloc (Blk.new wr (insCells x AL AT AE cL cT cE) 174) (.cells (insCells x BL BT BE dL dT dE) 174)
      have hY := Blk.new (wr.alloc (.cells (insCells x AL AT AE cL cT cE) 174)) (insCells x BL BT BE dL dT dE) 174
      have hBW : Below wr.heap.size wr ((wr.alloc (.cells (insCells x AL AT AE cL cT cE) 174)).alloc (.cells (insCells x BL BT BE dL dT dE) 174)) := ((Below.refl _ wr).alloc (Nat.le_refl _) _).alloc (by simp) _
      have hsW : ((wr.alloc (.cells (insCells x AL AT AE cL cT cE) 174)).alloc (.cells (insCells x BL BT BE dL dT dE) 174)).heap.size = wr.heap.size + 2 := by simp
      rw [World.size_alloc] at hY
      clear hc hd hL kL hT kT hE kE
      simp only [insCells] at hX hY hBW hsW
      go_wp2_with fail
      generalize hWe : (wr.alloc (.cells #[.int .i64 x.op, .int .u8 x.ty, .int .u32 x.a, .int .u32 x.b, .int .u64 x.bits, .slice AL x.list.length cL, .slice AT x.th.length cT, .slice AE x.el.length cE, .bool x.has] 174)).alloc (.cells #[.int .i64 x.op, .int .u8 x.ty, .int .u32 x.a, .int .u32 x.b, .int .u64 x.bits, .slice BL x.list.length dL, .slice BT x.th.length dT, .slice BE x.el.length dE, .bool x.has] 174) = W at *
      have hBl := Lib.hid (hB.trans (hBW.mono hB.size))
      clear hWe p0 p1 p2 p3 p4 p5 p6 p7 p8 q0 q1 q2 q3 q4 q5 q6 q7 q8 H1 H2 hB
      have e00 : ∀ Z, Below W.heap.size W Z → Z.cell? ⟨wr.heap.size, 0, none⟩ = some (.int .i64 x.op) := fun Z h => by rw [(hX.below h (by rw [hsW]; omega)).cell]; rfl
      have e01 : ∀ Z, Below W.heap.size W Z → Z.cell? ⟨wr.heap.size, 1, none⟩ = some (.int .u8 x.ty) := fun Z h => by rw [(hX.below h (by rw [hsW]; omega)).cell]; rfl
      have e02 : ∀ Z, Below W.heap.size W Z → Z.cell? ⟨wr.heap.size, 2, none⟩ = some (.int .u32 x.a) := fun Z h => by rw [(hX.below h (by rw [hsW]; omega)).cell]; rfl
      have e03 : ∀ Z, Below W.heap.size W Z → Z.cell? ⟨wr.heap.size, 3, none⟩ = some (.int .u32 x.b) := fun Z h => by rw [(hX.below h (by rw [hsW]; omega)).cell]; rfl
      have e04 : ∀ Z, Below W.heap.size W Z → Z.cell? ⟨wr.heap.size, 4, none⟩ = some (.int .u64 x.bits) := fun Z h => by rw [(hX.below h (by rw [hsW]; omega)).cell]; rfl
      have e05 : ∀ Z, Below W.heap.size W Z → Z.cell? ⟨wr.heap.size, 5, none⟩ = some (.slice AL x.list.length cL) := fun Z h => by rw [(hX.below h (by rw [hsW]; omega)).cell]; rfl
      have e06 : ∀ Z, Below W.heap.size W Z → Z.cell? ⟨wr.heap.size, 6, none⟩ = some (.slice AT x.th.length cT) := fun Z h => by rw [(hX.below h (by rw [hsW]; omega)).cell]; rfl
      have e07 : ∀ Z, Below W.heap.size W Z → Z.cell? ⟨wr.heap.size, 7, none⟩ = some (.slice AE x.el.length cE) := fun Z h => by rw [(hX.below h (by rw [hsW]; omega)).cell]; rfl
      have e08 : ∀ Z, Below W.heap.size W Z → Z.cell? ⟨wr.heap.size, 8, none⟩ = some (.bool x.has) := fun Z h => by rw [(hX.below h (by rw [hsW]; omega)).cell]; rfl
      have e10 : ∀ Z, Below W.heap.size W Z → Z.cell? ⟨wr.heap.size + 1, 0, none⟩ = some (.int .i64 x.op) := fun Z h => by rw [(hY.below h (by rw [hsW]; omega)).cell]; rfl
      have e11 : ∀ Z, Below W.heap.size W Z → Z.cell? ⟨wr.heap.size + 1, 1, none⟩ = some (.int .u8 x.ty) := fun Z h => by rw [(hY.below h (by rw [hsW]; omega)).cell]; rfl
      have e12 : ∀ Z, Below W.heap.size W Z → Z.cell? ⟨wr.heap.size + 1, 2, none⟩ = some (.int .u32 x.a) := fun Z h => by rw [(hY.below h (by rw [hsW]; omega)).cell]; rfl
      have e13 : ∀ Z, Below W.heap.size W Z → Z.cell? ⟨wr.heap.size + 1, 3, none⟩ = some (.int .u32 x.b) := fun Z h => by rw [(hY.below h (by rw [hsW]; omega)).cell]; rfl
      have e14 : ∀ Z, Below W.heap.size W Z → Z.cell? ⟨wr.heap.size + 1, 4, none⟩ = some (.int .u64 x.bits) := fun Z h => by rw [(hY.below h (by rw [hsW]; omega)).cell]; rfl
      have e15 : ∀ Z, Below W.heap.size W Z → Z.cell? ⟨wr.heap.size + 1, 5, none⟩ = some (.slice BL x.list.length dL) := fun Z h => by rw [(hY.below h (by rw [hsW]; omega)).cell]; rfl
      have e16 : ∀ Z, Below W.heap.size W Z → Z.cell? ⟨wr.heap.size + 1, 6, none⟩ = some (.slice BT x.th.length dT) := fun Z h => by rw [(hY.below h (by rw [hsW]; omega)).cell]; rfl
      have e17 : ∀ Z, Below W.heap.size W Z → Z.cell? ⟨wr.heap.size + 1, 7, none⟩ = some (.slice BE x.el.length dE) := fun Z h => by rw [(hY.below h (by rw [hsW]; omega)).cell]; rfl
      have e18 : ∀ Z, Below W.heap.size W Z → Z.cell? ⟨wr.heap.size + 1, 8, none⟩ = some (.bool x.has) := fun Z h => by rw [(hY.below h (by rw [hsW]; omega)).cell]; rfl
      refine (HSL.out _ hBW).mono ?_
      rintro E1 W1 ⟨rfl, m, rfl⟩
      have c6 := e06 _ (below_drewN m)
      have d6 := e16 _ (below_drewN m)
      clear e00 e01 e02 e03 e04 e05 e06 e08 e10 e11 e12 e13 e14 e15 e16 e18
      go_wp2_with fail
      refine (HST.out _ (by exact below_from hBW (below_drewN m))).mono ?_
      rintro E2 W2 ⟨rfl, hB2⟩
      have hB2' := below_from (below_drewN (w := W) m) hB2
      have c7 := e07 _ hB2'
      have d7 := e17 _ hB2'
      clear e07 e17
      go_wp2_with fail
      refine (HSE.out _ (by exact below_from hBW hB2')).mono ?_
      rintro E3 W3 ⟨rfl, hB3⟩
      have hB3' := Lib.hid (below_from hBl.out (below_from hB2' hB3))
      clear c7 d7 hB2' hB2 hB3
      go_wp2_with fail
      go_roundw
      case rel => exact ⟨j + 1, by omega, by go_num, hB3'.out⟩
      case measure => simp [intOf]; omega
    · have hlt2 : ¬ (j : Int) < (l.length : Int) := by omega
      clear hlt
      go_wp2_with fail
      go_ret
      exact ⟨rfl, hB⟩
end Go.Proofs.Ytfndlpfceokloaa
end
section
namespace Go.Proofs.Ytfndlpfceokloaa
open Go.RowKit Go.Shelf YtfndlpfceokloaaB Go.Proofs.YtfndlpfceokloaaW.PrintWords
def awB : List Int := [65, 7, 26, 11]
def awX : Ins := .mk 65 0 0 0 7 [] [] [] false
def awY : Ins := .mk 26 0 0 0 0 [] [] [] false
theorem aw_expr : exprM false awB 0 0 = ([awX, awY], 4, 0) := by kernel_rfl
theorem aw_byts : Byts awB := ⟨by decide, by decide⟩
theorem below_goes {n0 : Nat} {w W1 W2 : World} {p : Nat} (hb : Below n0 w W1) (hg : W1.grownBy W2 (some p)) (hp : n0 ≤ p) (hn : n0 ≤ W1.heap.size) : Below n0 w W2 := hb.grown hg hn (fun k hk => by cases hk; exact hp)
/-- The cells of two instructions that are read. -/
theorem aw_cells {W : World} {A : Option Addr} (h : kI.C W A 2 [awX, awY]) : ∃ b o, A = some ⟨b, o, none⟩ ∧ W.cell? ⟨b, o, none⟩ = some (.int .i64 65) ∧ W.cell? ⟨b, o + 4, none⟩ = some (.int .u64 7) ∧ W.cell? ⟨b, o + 9, none⟩ = some (.int .i64 26) := by
  have h2 : kI.C W A [awX, awY].length [awX, awY] := h
  obtain ⟨b, o, x, cs, rfl, hx, hk, hc⟩ := C_at h2 (by decide) 0 (by simp)
  obtain ⟨b2, o2, y, ds, e, hy, hk2, hc2⟩ := C_at h2 (by decide) 1 (by simp)
  injection e with e
  injection e with e1 e2
  subst e1 e2
  have hx' := hx.out
  have hy' := hy.out
  simp at hx' hy'
  subst hx' hy'
  obtain ⟨AL, cL, AT, cT, AE, cE, rfl, _⟩ := ins_openC hk
  obtain ⟨BL, dL, BT, dT, BE, dE, rfl, _⟩ := ins_openC hk2
  have hz : kI.sz = 9 := rfl
  have a0 := hc 0 _ rfl
  have a4 := hc 4 _ rfl
  have b0 := hc2 0 _ rfl
  simp only [hz, Nat.zero_mul, Nat.add_zero, Nat.one_mul] at a0 a4 b0
  exact ⟨b, o, rfl, a0, a4, b0⟩
set_option maxRecDepth 100000 in
set_option maxHeartbeats 1000000 in
theorem awake19_any (w : World) : Calls Try.prog 53 #[] w (AwPost w) := by
  have HN := Lib.hid (New_any (w.alloc (.cells #[.int .u8 65, .int .u8 7, .int .u8 26, .int .u8 11] 5)) (some ⟨w.heap.size, 0, none⟩) 4 awB ⟨by decide, fun _ => ⟨w.heap.size, 0, rfl, fun j x hj => by
    rw [Nat.zero_add, (Blk.new w _ _).cell]
    match j with
    | 0 => cases hj; rfl
    | 1 => cases hj; rfl
    | 2 => cases hj; rfl
    | 3 => cases hj; rfl
    | j + 4 => simp [awB] at hj⟩⟩ aw_byts)
  go_enter Try.func53, Try.ntmps53
  go_wp2_with fail
  refine HN.out.mono ?_
  rintro E1 W1 ⟨p, q, hp, rfl, hC, hB⟩
  have hp2 : w.heap.size ≤ p := by simp at hp; omega
  have hB1 : Below w.heap.size w W1 := ((Below.refl _ w).alloc (Nat.le_refl _) _).trans (hB.mono (by simp))
  have HE := Expr_any W1 p q false awB 0 0 hC aw_byts
  rw [aw_expr] at HE
  have HE' := Lib.hid HE
  have hplt := hC.lt
  clear HE HN hB hp hC
  go_wp2_with fail
  refine HE'.out.mono ?_
  rintro E2 W2 ⟨⟨A, c, rfl, hle, hF⟩, hG⟩
  have hG2 : Goes W1 W2 p q awB 4 0 := hG
  obtain ⟨b, o, rfl, c0, c4, c9⟩ := aw_cells (by exact hF.now)
  have hB2 := Lib.hid (below_goes hB1 hG2.2 hp2 hB1.size)
  have hs2 := hG2.2.size
  have HL := Lib.hid (show Calls Try.prog 93 #[.pointer (some ⟨p, 0, none⟩)] W2 fun E w' => E = .returned (.int .i64 0) ∧ Goes W2 w' p q awB 4 0 from left_any W2 p q awB 4 0 hG2.1 aw_byts)
  have HS := Lib.hid (show ∀ X, Goes W2 X p q awB 4 0 → Calls Try.prog 61 #[.slice (some ⟨b, o, none⟩) 2 c] X fun e W' => e = .returned (.int .i64 2) ∧ Below X.heap.size X W' from fun X h =>
    Size_any [awX, awY] (by decide) _ c X (Ft.grown hF h.2 (fun k hk e => by injection e with e; omega)).now)
  have hB2s := Lib.hid hB1.size
  have hnn : awB.length = 4 := rfl
  clear hG hG2 hF HE' hB1 hnn
  go_wp2_with (first
    | (go_at_call 93; refine HL.out.mono ?_; rintro E3 W3 ⟨rfl, hG3⟩; have HS3 := Lib.hid (HS.out W3 hG3))
    | (go_at_call 61; refine HS3.out.mono ?_; rintro E4 W4 ⟨rfl, hB4⟩))
  go_ret
  have hb3 := below_goes hB2.out hG3.2 hp2 hB2.out.size
  exact ⟨rfl, hb3.trans (hB4.mono hb3.size)⟩
end Go.Proofs.Ytfndlpfceokloaa
end
section
namespace Go.Proofs.Ytfndlpfceokloaa
open Go.RowKit Go.Shelf YtfndlpfceokloaaB Go.Proofs.YtfndlpfceokloaaW.PrintWords
/-- Whether an instruction is a block. -/
def bI (x : Ins) : Nat := if (immM x.op).1 = 1 then 1 else 0
def mxf (n : Int) (p : Int × Ins) : Int := max n (p.1 + bI p.2)
def mxD (l : List (Int × Ins)) : Int := l.foldl mxf 0
theorem mxD_from (l : List (Int × Ins)) : ∀ n : Int, 0 ≤ n → l.foldl mxf n = max n (mxD l) := by
  induction l with
  | nil => intro n hn; simp [mxD]; omega
  | cons p l ih =>
    intro n hn
    simp only [mxD, List.foldl_cons] at *
    rw [ih (mxf n p) (by unfold mxf; omega), ih (mxf 0 p) (by unfold mxf; omega)]
    unfold mxf
    omega
theorem mxD_lo (l : List (Int × Ins)) : 0 ≤ mxD l := by
  have h : mxD l = max 0 (mxD l) := mxD_from l 0 (Int.le_refl _)
  omega
theorem mxD_append (l r : List (Int × Ins)) : mxD (l ++ r) = max (mxD l) (mxD r) := by
  rw [show mxD (l ++ r) = r.foldl mxf (mxD l) from by rw [mxD, List.foldl_append]; rfl, mxD_from _ _ (mxD_lo l)]
theorem mxD_cons (p : Int × Ins) (r : List (Int × Ins)) : mxD (p :: r) = max (max 0 (p.1 + bI p.2)) (mxD r) := by
  rw [mxD, List.foldl_cons, mxD_from _ _ (by unfold mxf; omega)]; rfl
theorem bI_mk (o t a b n : Int) (l : List Int) (th el : List Ins) (h : Bool) : bI (.mk o t a b n l th el h) = if (immM o).1 = 1 then 1 else 0 := rfl
mutual
theorem mxDI_eq : ∀ (d : Nat) (x : Ins), mxD (eachI d x) = d + dpI x
  | d, .mk o t a b n l th el h => by
    have h1 := mxDL_eq (d + 1) th
    have h2 := mxDL_eq (d + 1) el
    rw [eachI, dpI, mxD_cons, mxD_append, show ((d : Int) + 1) = ((d + 1 : Nat) : Int) from by omega, h1, h2]
    simp only [bI_mk]
    have hl : ∀ z : List Ins, z = [] → z.length = 0 ∧ dpL z = 0 := fun z h => by rw [h]; exact ⟨rfl, by rw [dpL]⟩
    have hg : ∀ z : List Ins, z ≠ [] → 0 < z.length := fun z h => List.length_pos_iff.2 h
    by_cases ht : th = []
    · have a1 := hl th ht
      rw [if_pos ht]
      by_cases he : el = []
      · have a2 := hl el he
        rw [if_pos he]
        by_cases c : (immM o).1 = 1
        · rw [if_pos c, if_pos (Or.inl c)]; omega
        · rw [if_neg c, if_neg (fun h => h.elim c (fun h => by omega))]; omega
      · have a2 := hg el he
        rw [if_neg he]
        by_cases c : (immM o).1 = 1
        · rw [if_pos c, if_pos (Or.inl c)]; omega
        · rw [if_neg c, if_pos (show (immM o).1 = 1 ∨ 0 < th.length + el.length from .inr (by omega))]; omega
    · have a1 := hg th ht
      rw [if_neg ht]
      by_cases he : el = []
      · have a2 := hl el he
        rw [if_pos he]
        by_cases c : (immM o).1 = 1
        · rw [if_pos c, if_pos (Or.inl c)]; omega
        · rw [if_neg c, if_pos (show (immM o).1 = 1 ∨ 0 < th.length + el.length from .inr (by omega))]; omega
      · have a2 := hg el he
        rw [if_neg he]
        by_cases c : (immM o).1 = 1
        · rw [if_pos c, if_pos (Or.inl c)]; omega
        · rw [if_neg c, if_pos (show (immM o).1 = 1 ∨ 0 < th.length + el.length from .inr (by omega))]; omega
theorem mxDL_eq : ∀ (d : Nat) (l : List Ins), mxD (eachL d l) = if l = [] then 0 else ((d + dpL l : Nat) : Int)
  | d, [] => by simp [eachL, mxD]
  | d, x :: r => by
    have h1 := mxDI_eq d x
    have h2 := mxDL_eq d r
    rw [eachL, dpL, mxD_append, h1, h2]
    rw [show (if x :: r = [] then (0 : Int) else ((d + max (dpI x) (dpL r) : Nat) : Int)) = ((d + max (dpI x) (dpL r) : Nat) : Int) from if_neg (by simp)]
    by_cases c : r = []
    · rw [if_pos c, c, dpL]; omega
    · rw [if_neg c]; omega
end
theorem mxD_top (l : List Ins) : mxD (eachL 0 l) = dpL l := by
  have := mxDL_eq 0 l
  rw [show ((0 : Nat) : Int) = 0 from rfl] at this
  rw [this]
  split
  · next h => rw [h]; simp [dpL]
  · omega
def dpS {k : Kd Ins} {w0 : World} (pre : List (EachX k w0)) : Int := mxD (pre.map EachX.dx)
theorem dpS_snoc {k : Kd Ins} {w0 : World} (pre : List (EachX k w0)) (x : EachX k w0) : dpS (pre ++ [x]) = max (dpS pre) (x.d + bI x.x) := by
  rw [dpS, List.map_append, mxD_append]
  have := mxD_lo (pre.map EachX.dx)
  simp only [List.map_cons, List.map_nil, mxD_cons, EachX.dx]
  have h0 : mxD [] = 0 := rfl
  rw [h0]
  simp only [dpS]
  omega
theorem dpS_lo {k : Kd Ins} {w0 : World} (pre : List (EachX k w0)) : 0 ≤ dpS pre := mxD_lo _
theorem dpS_hi {k : Kd Ins} {w0 : World} : ∀ pre : List (EachX k w0), dpS pre ≤ 4611686018427387905
  | [] => by rw [show dpS ([] : List (EachX k w0)) = 0 from rfl]; omega
  | x :: pre => by
    have ih := dpS_hi pre
    have h := mxD_cons x.dx (pre.map EachX.dx)
    have e : dpS (x :: pre) = mxD (x.dx :: pre.map EachX.dx) := rfl
    have hx := x.hd
    have hb : bI x.x ≤ 1 := by unfold bI; split <;> omega
    rw [e, h]
    simp only [dpS] at ih
    simp only [EachX.dx]
    omega
attribute [local go_sem] Oper.semAt_some
set_option maxRecDepth 100000 in
set_option maxHeartbeats 4000000 in
theorem Depth_in (F : Fence) (hd : F.depth = none) (n : Nat) (hM : F.fn 63) (hE : F.fn 65) (hF1 : F.fn 99) (hF : F.fn 100) (hFI : F.fn 98) (hI : ∀ (W : World) (op : Int), -9223372036854775808 ≤ op → op ≤ 9223372036854775807 → ∀ l m, CallsIn (F.inRound l) m Try.prog 98 #[.int .i64 op] W (ImmPost W (immM op))) (hro : F.round = none) (hn : 6 ≤ n) (ls : List Ins) (hbk : bkL ls ≤ 1048576) (A : Option Addr) (c : Nat) (w : World) (hC : kI.C w A ls.length ls) :
    CallsIn F n Try.prog 63 #[.slice A ls.length c] w fun e W' => e = .returned (.int .i64 (dpL ls : Int)) ∧ Below w.heap.size w W' := by
  have h1 : 1 ≤ n := by omega
  refine callsIn_of_wp_marks Try.func63 rfl hM ?_ hro
  simp only [Try.ntmps63, List.size_toArray, List.length_cons, List.length_nil, Nat.reduceAdd, Nat.reduceSub, Array.replicate_succ, Array.replicate_zero, List.push_toArray, List.append_toArray, List.nil_append, List.cons_append]
  gi_wp2_with (gi_at_call 65; refine (Each_in F (n - 1) hE hro _ ⟨_, _, _, rfl⟩ _).mono ?_; rintro e w' ⟨rfl, rfl⟩)
  have bN := (Boxed.new w 3 (.int .i64 0)).alloc (.cells #[.slice A ls.length c] 52)
  have bL := Boxed.new (w.alloc (.cells #[.int .i64 0] 3)) 52 (.slice A ls.length c)
  rw [World.size_alloc] at bL
  have hB0 : Below w.heap.size w ((w.alloc (.cells #[.int .i64 0] 3)).alloc (.cells #[.slice A ls.length c] 52)) := ((Below.refl _ w).alloc (Nat.le_refl _) _).alloc (by simp) _
  have hsz : ((w.alloc (.cells #[.int .i64 0] 3)).alloc (.cells #[.slice A ls.length c] 52)).heap.size = w.heap.size + 2 := by simp
  obtain ⟨W0, hW0⟩ : ∃ W0, (w.alloc (.cells #[.int .i64 0] 3)).alloc (.cells #[.slice A ls.length c] 52) = W0 := ⟨_, rfl⟩
  rw [hW0] at bN bL hB0 hsz ⊢
  clear hW0
  refine wpIn_rangeFunc_ownH hro h1 (gf := 99) (lb := #[.pointer (some ⟨w.heap.size + 1, 0, none⟩)]) rfl hF1 (enters_of Try.func99 (by kernel_rfl) rfl)
    (each_stops F hd (n - 1) hF1 hF hro (w.heap.size + 1) W0.heap.size w (by omega) A c ls (by omega) W0 bL.cell hC hB0 (Nat.le_refl _)) keepC_t (keepC_b (by omega)) (Below.refl _ _) (fun _ => rfl)
    (fun pre W => (Boxed W w.heap.size 3 (.int .i64 (dpS pre)) ∧ Boxed W (w.heap.size + 1) 52 (.slice A ls.length c)) ∧ Below w.heap.size w W)
    (fun _ _ _ => False)
    (OwnFrom.and (OwnFrom.and (Own.from (boxed_own _ _ _) _) (Own.from (boxed_own _ _ _) _)) (ownFrom_below (Nat.le_refl _) (by omega)))
    (fun _ _ _ _ _ hs _ _ => hs)
    ⟨⟨bN, bL⟩, hB0⟩
    (fun x a' W => ∃ Bx AL AT AE cL cT cE, w.heap.size + 1 < Bx ∧ Blk W Bx (insCells x.x AL AT AE cL cT cE) 160 ∧ a' = { tmps := #[.slice A ls.length c, undef, .int .i64 0, .pointer (some ⟨w.heap.size, 0, none⟩), .int .i64 x.d, .pointer (some ⟨Bx, 0, none⟩), undef, undef, .slice A ls.length c, .func (.func 99) #[] #[.pointer (some ⟨w.heap.size + 1, 0, none⟩)], .int .i64 x.d, .agg (insCells x.x AL AT AE cL cT cE), undef, undef, undef, undef, undef, undef, undef, undef, undef, undef, undef, undef, undef, undef], defers := [] })
    (fun x a' _ X Y row hs hg hr => by obtain ⟨Bx, AL, AT, AE, cL, cT, cE, h1, h2, h3⟩ := hs; exact ⟨Bx, AL, AT, AE, cL, cT, cE, h1, h2.grown hg (fun e => by obtain ⟨_, o, ho, hoc⟩ := hr Bx e.symm; rw [show X.heap[Bx]? = _ from h2] at ho; cases ho; simp [Obj.isCells] at hoc), h3⟩)
    ?assign ?body ?done ?stop
  case assign =>
    rintro l pre ⟨d, x, cs, hk, hd'⟩ W K ⟨⟨b1, b2⟩, hB1⟩ hK
    obtain ⟨AL, cL, AT, cT, AE, cE, rfl, g1, g2, g3, g4, g5, hL, hT, hE, l1, l2, l3⟩ := ins_openC hk
    have hK' := Lib.hid hK
    have hsW := hB1.size
    have hlt1 := b2.lt
    clear hK hT hE hL hC
    simp only [EachX.enc]
    gi_wp2
    refine hK'.out _ _ ((KeepsOthers.alloc _ _).from _) (KeepC.alloc (KeepC.refl _ _ _) _ hsW) ⟨⟨b1.alloc _, b2.alloc _⟩, hB1.alloc hsW _⟩ ⟨W.heap.size, AL, AT, AE, cL, cT, cE, by omega, Blk.new _ _ _, rfl⟩
  case body =>
    rintro l pre x a' W hl hrec ⟨⟨b1, b2⟩, hB1⟩ ⟨Bx, AL, AT, AE, cL, cT, cE, hBx, hX, rfl⟩ hlt
    have c0 : W.cell? ⟨Bx, 0, none⟩ = some (.int .i64 x.x.op) := by rw [hX.cell]; rfl
    obtain ⟨_, _, _, _, _, _, _, g1, _⟩ := ins_openC x.hk
    have hop := wf_bounds g1
    simp only [IntKind.min, IntKind.max, IntKind.signed, IntKind.bits] at hop
    have hI1 := Lib.hid (fun m => hI W x.x.op (by simp at hop; omega) (by simp at hop; omega) l m)
    have hdd : ∀ k : Nat, ((F.inRound l).depth.isSome = true → 1 ≤ k) := fun k h => by rw [show (F.inRound l).depth = F.depth from rfl, hd] at h; cases h
    have hxd := x.hd
    have hd0 := hxd.1
    have hd1 := hxd.2
    have hp0 := dpS_lo pre
    have hp1 := dpS_hi pre
    have HS := Lib.hid (dpS_snoc pre x)
    have hB1h := Lib.hid hB1
    have b1h := Lib.hid b1
    have b2h := Lib.hid b2
    have hlw := b1.lt
    clear g1 hop hxd hX hB1
    generalize dpS pre = s at *
    have HI := Lib.hid (show bI x.x = if (immM x.x.op).1 = 1 then 1 else 0 from rfl)
    generalize immM x.x.op = r at *
    obtain ⟨r1, r2⟩ := r
    generalize x.d = d at *
    have hbk := Lib.hid (fun W1 (hBI : Below W.heap.size W W1) v => (⟨(keepsFrom_below _ hBI).trans ((KeepsOthers.setCell _ _ _).from _), (KeepC.of_below hBI (by exact hB1h.out.size)).trans ⟨(Below.refl _ _).setCell (p := ⟨w.heap.size, 0, none⟩) (Nat.le_refl _) _, fun k cs t fr hk hc => (Below.heap_setCell _ _ _ _ (by simp; omega)).trans hc⟩, ⟨(boxed_below b1h.out hBI).set v, (boxed_below b2h.out hBI).other (by simp) v⟩, (hB1h.out.trans (hBI.mono (by exact hB1h.out.size))).setCell (p := ⟨w.heap.size, 0, none⟩) (Nat.le_refl _) v⟩ : KeepsFrom W0.heap.size W (W1.setCell ⟨w.heap.size, 0, none⟩ v) ∧ KeepC w.heap.size W0.heap.size W (W1.setCell ⟨w.heap.size, 0, none⟩ v) ∧ (Boxed (W1.setCell ⟨w.heap.size, 0, none⟩ v) w.heap.size 3 v ∧ Boxed (W1.setCell ⟨w.heap.size, 0, none⟩ v) (w.heap.size + 1) 52 (.slice A ls.length c)) ∧ Below w.heap.size w (W1.setCell ⟨w.heap.size, 0, none⟩ v)))
    have hcf := Lib.hid (fun W1 (hBI : Below W.heap.size W W1) => (⟨(boxed_below b1h.out hBI).cell, (boxed_below b1h.out hBI).frozen⟩ : W1.cell? ⟨w.heap.size, 0, none⟩ = some (.int .i64 s) ∧ W1.frozen? ⟨w.heap.size, 0, none⟩ = false))
    clear b1 b2
    by_cases hr : r1 = 1
    · subst hr
      rw [show (if (1 : Int) = 1 then (1 : Nat) else 0) = 1 from rfl] at HI
      rw [HI.out] at HS
      by_cases hsm : s < d + 1
      · have he := Lib.hid (show dpS (pre ++ [x]) = d + 1 from by rw [HS.out]; omega)
        gi_wp2_with ((try refine ⟨hdd _, ?_⟩); gi_at_call 98; refine (hI1.out _).mono ?_; rintro e W1 ⟨rfl, hBI⟩; obtain ⟨c1, f1⟩ := hcf.out _ hBI)
        obtain ⟨z1, z2, z3⟩ := hbk.out W1 hBI (.int .i64 (d + 1))
        refine ⟨z1, z2, ?_⟩
        show (Boxed _ w.heap.size 3 (.int .i64 (dpS (pre ++ [x]))) ∧ _) ∧ _
        rw [he.out]
        exact z3
      · have he := Lib.hid (show dpS (pre ++ [x]) = s from by rw [HS.out]; omega)
        gi_wp2_with ((try refine ⟨hdd _, ?_⟩); gi_at_call 98; refine (hI1.out _).mono ?_; rintro e W1 ⟨rfl, hBI⟩; obtain ⟨c1, f1⟩ := hcf.out _ hBI)
        obtain ⟨z1, z2, z3⟩ := hbk.out W1 hBI (.int .i64 (s))
        refine ⟨z1, z2, ?_⟩
        show (Boxed _ w.heap.size 3 (.int .i64 (dpS (pre ++ [x]))) ∧ _) ∧ _
        rw [he.out]
        exact z3
    · rw [if_neg hr] at HI
      rw [HI.out] at HS
      have hr2 : (r1 == 1) = false := beq_eq_false_iff_ne.2 hr
      clear hr
      by_cases hsm : s < d
      · have he := Lib.hid (show dpS (pre ++ [x]) = d from by rw [HS.out]; omega)
        gi_wp2_with ((try refine ⟨hdd _, ?_⟩); gi_at_call 98; refine (hI1.out _).mono ?_; rintro e W1 ⟨rfl, hBI⟩; obtain ⟨c1, f1⟩ := hcf.out _ hBI)
        obtain ⟨z1, z2, z3⟩ := hbk.out W1 hBI (.int .i64 (d))
        refine ⟨z1, z2, ?_⟩
        show (Boxed _ w.heap.size 3 (.int .i64 (dpS (pre ++ [x]))) ∧ _) ∧ _
        rw [he.out]
        exact z3
      · have he := Lib.hid (show dpS (pre ++ [x]) = s from by rw [HS.out]; omega)
        gi_wp2_with ((try refine ⟨hdd _, ?_⟩); gi_at_call 98; refine (hI1.out _).mono ?_; rintro e W1 ⟨rfl, hBI⟩; obtain ⟨c1, f1⟩ := hcf.out _ hBI)
        obtain ⟨z1, z2, z3⟩ := hbk.out W1 hBI (.int .i64 (s))
        refine ⟨z1, z2, ?_⟩
        show (Boxed _ w.heap.size 3 (.int .i64 (dpS (pre ++ [x]))) ∧ _) ∧ _
        rw [he.out]
        exact z3
  case done =>
    rintro D ys W hD hS ⟨⟨b1, b2⟩, hB1⟩ hK
    have HF := Lib.hid (show dpS ys = dpL ls from by rw [dpS, hS, mxD_top])
    have c1 := b1.cell
    generalize dpS ys = s at *
    gi_wp2
    refine ⟨by simp, .inl ⟨_, _, rfl, run_takeDeferred hK, ?_⟩⟩
    exact ⟨_, results_tmp rfl _ _ _, by rw [← HF.out]; rfl, hB1.trans (belowK_b (w := w) (Nat.le_refl _) W D _ _ (by omega) hK rfl rfl)⟩
  case stop =>
    rintro D c pre W _ _ h _
    exact h.elim
theorem Depth_any (ls : List Ins) (hbk : bkL ls ≤ 1048576) (A : Option Addr) (c : Nat) (w : World) (hC : kI.C w A ls.length ls) :
    Calls Try.prog 63 #[.slice A ls.length c] w fun e W' => e = .returned (.int .i64 (dpL ls : Int)) ∧ Below w.heap.size w W' :=
  (callsIn_wide (n := 6)).1 (Depth_in Fence.wide rfl 6 trivial trivial trivial trivial trivial (fun W op h0 h1 l m => CallsIn.inRound l (callsIn_wide.2 (Imm_all W op h0 h1))) rfl (by omega) ls hbk A c w hC)
end Go.Proofs.Ytfndlpfceokloaa
end
section
namespace Go.Proofs.Ytfndlpfceokloaa
open Go.RowKit Go.Shelf YtfndlpfceokloaaB Go.Proofs.YtfndlpfceokloaaW.PrintWords
/-- A cursor's bytes lie in no block that is wanted. -/
theorem Cur.apart {W : World} {p q : Nat} {B : List Int} {a : Nat} {e : Int} (h : Cur W p q B a e) (r : Nat) (hr : W.heap.size ≤ r) : ∃ q', Cur W p q' B a e ∧ q' ≠ r := by
  have hlt := h.lt
  rcases h.qlt with h0 | h0
  · subst h0
    exact ⟨r + 1, h.anyq (by omega), by omega⟩
  · exact ⟨q, h, by omega⟩
theorem expr_len {sat : Bool} {B : List Int} (h : B.length ≤ 1048576) : bkL (exprM sat B 0 0).1 ≤ 1048576 := Nat.le_trans expr_bk h
set_option maxRecDepth 100000 in
set_option maxHeartbeats 2000000 in
theorem codeReads_go (W : World) (A : Option Addr) (c : Nat) (B : List Int) (sat : Bool) (hR : RdI W .u8 A B) (hB : Byts B) (hle : B.length ≤ c) :
    Calls Try.prog 10 #[.slice A B.length c, .bool sat] W (AwPost W) := by
  have hbl := hB.1
  by_cases h3000 : 3000 < B.length
  · have h3 : (3000 : Int) < (B.length : Int) := by omega
    clear h3000
    go_enter Try.func10, Try.ntmps10
    go_wp2_with fail
    refine (awake19_any _).mono ?_
    rintro e1 W1 ⟨rfl, hB1⟩
    go_wp2_with fail
    go_ret
    exact ⟨rfl, hB1⟩
  · have h3 : ¬ (3000 : Int) < (B.length : Int) := by omega
    have HR := Lib.hid hR
    have HB := Lib.hid hB
    have HK := Lib.hid (expr_len (sat := sat) hbl)
    clear h3000 hR hB
    go_enter Try.func10, Try.ntmps10
    go_wp2_with fail
    refine (awake19_any _).mono ?_
    rintro e1 W1 ⟨rfl, hB1⟩
    go_wp2_with fail
    refine (New_any W1 A c B (by
      obtain ⟨h1, h2⟩ := HR.out
      refine ⟨h1, fun hp => ?_⟩
      obtain ⟨b, o, e, hc⟩ := h2 hp
      exact ⟨b, o, e, fun j x hj => pw_cell_below hB1 (hc j x hj)⟩) HB.out).mono ?_
    rintro e2 W2 ⟨p, q0, hp, rfl, hC0, hB2⟩
    obtain ⟨q, hC, hqr⟩ := hC0.apart W2.heap.size (Nat.le_refl _)
    have hR2 : RdI W2 .u8 A B := by
      obtain ⟨h1, h2⟩ := HR.out
      refine ⟨h1, fun hp => ?_⟩
      obtain ⟨b, o, e, hc⟩ := h2 hp
      exact ⟨b, o, e, fun j x hj => pw_cell_below hB2 (pw_cell_below hB1 (hc j x hj))⟩
    obtain ⟨q', hq', hby⟩ : ∃ q', (W2.heap.size ≠ q' ∧ q' ≠ p) ∧ ByQ W2 q' A B := by
      rcases Nat.eq_zero_or_pos B.length with hz | hz
      · exact ⟨W2.heap.size + 1, ⟨by omega, by have := hC.lt; omega⟩, fun hh => by omega⟩
      · obtain ⟨b, o, e, hc⟩ := HR.out.2 hz
        have hb := World.block_lt_of_cell? _ _ (hc 0 _ (List.getElem?_eq_getElem hz))
        have := hB1.size
        have := hB2.size
        obtain ⟨b2, o2, e2, hc2⟩ := hR2.2 hz
        rw [e] at e2
        injection e2 with e2
        injection e2 with e2 e3
        subst e2 e3
        simp only at hb
        exact ⟨b, ⟨by omega, by omega⟩, fun _ => ⟨o, e, hc2⟩⟩
    have hplt := hC.lt
    have hB02 := Lib.hid (below_from hB1 hB2)
    have HC3 := Lib.hid (hC.alloc (.cells #[.slice A B.length c, .int .i64 0, .int .i64 0] 148))
    have HD3 : Hid (Rdr (W2.alloc (.cells #[.slice A B.length c, .int .i64 0, .int .i64 0] 148)) W2.heap.size q' B 0 0) := ⟨hq'.1, Nat.zero_le _, A, c, hle, Blk.new W2 _ _, hby.grown (World.grownBy_alloc W2 _ none) (by simp)⟩
    have hB03 := Lib.hid (hB02.out.alloc hB02.out.size (.cells #[.slice A B.length c, .int .i64 0, .int .i64 0] 148))
    have hp0 := Lib.hid (show W.heap.size ≤ p from Nat.le_trans hB1.size hp)
    have hr0 := Lib.hid (show W.heap.size ≤ W2.heap.size from hB02.out.size)
    clear hC hC0 hR2 hby HR hB1 hB2 hp
    obtain ⟨r, hr⟩ : ∃ r, W2.heap.size = r := ⟨_, rfl⟩
    have hpr : p ≠ r := by omega
    rw [hr] at HD3 hqr hplt hq' hr0
    go_wp2_with fail
    have hs3 : (W2.alloc (.cells #[.slice A B.length c, .int .i64 0, .int .i64 0] 148)).heap.size = r + 1 := by rw [World.size_alloc, hr]
    clear hr hB02
    generalize W2.alloc (.cells #[.slice A B.length c, .int .i64 0, .int .i64 0] 148) = W3 at *
    have HX := Lib.hid (Expr_any W3 p q sat B 0 0 HC3.out HB.out)
    have HY := Lib.hid (fun X h => rExpr_any X r q' sat B 0 0 h HB.out)
    generalize exprM sat B 0 0 = t at *
    obtain ⟨l, a1, e1⟩ := t
    refine HX.out.mono ?_
    rintro e3 W4 ⟨⟨A1, c1, rfl, hl1, hF1⟩, hG1⟩
    have hF1' : FC kI W4 (fun k => r + 1 ≤ k) A1 l := hF1.mono (fun k hk => by rw [hs3] at hk; exact hk)
    have hG1' : Goes W3 W4 p q B a1 e1 := hG1
    have HD4 := Lib.hid (HD3.out.grown hG1'.2 (by simp; omega) (by simp; omega))
    have HY4 := Lib.hid (HY.out W4 HD4.out)
    have hB04 := Lib.hid (below_goes hB03.out hG1'.2 hp0.out hB03.out.size)
    have hs4 := hG1'.2.size
    clear hF1 hG1 HX HY HD3 HC3
    go_wp2_with fail
    refine HY4.out.mono ?_
    rintro e4 W5 ⟨⟨A2, c2, rfl, hl2, hF2⟩, hG2⟩
    have hF2' : FC kR W5 (fun k => W4.heap.size ≤ k) A2 l := hF2
    have hG2' : GoesR W4 W5 r q' B a1 e1 := hG2
    have HC5 := Lib.hid (hG1'.1.grown hG2'.2 (by simp; omega) (by simp; omega))
    have HD5 := Lib.hid hG2'.1
    have HF5 := Lib.hid (hF1'.grown hG2'.2 (fun k hk e => by injection e with e; omega))
    have HF6 := Lib.hid hF2'
    have hB05 := Lib.hid (below_goes hB04.out hG2'.2 hr0.out hB04.out.size)
    obtain ⟨A', c', d0, d1, d2, f0, f1, f2, hle5, hq5, hlt5, ha5⟩ := HD5.out.cells
    have hbk : bkL l ≤ 1048576 := HK.out
    have HP := Lib.hid (show ∀ X, Below W5.heap.size W5 X → Calls Try.prog 28 #[.slice A1 l.length c1] X (PlainPost X (fun k => r + 1 ≤ k) l) from fun X h => plain_any _ l (Nat.le_refl _) hbk _ X A1 c1 (HF5.out.below h))
    have HS := Lib.hid (show ∀ X Y A3 c3, Below W5.heap.size W5 X → Below X.heap.size X Y → FC kR Y (fun k => (r + 1 ≤ k) ∨ X.heap.size ≤ k) A3 l → Calls Try.prog 57 #[.slice A3 l.length c3, .slice A2 l.length c2] Y (AwPost Y) from fun X Y A3 c3 h h2 h3 => same_eq _ l (Nat.le_refl _) hbk Y A3 A2 c3 c2 h3.now ((HF6.out.below h).below h2).now)
    have HC6 := Lib.hid (show ∀ X, Below W5.heap.size W5 X → Cur X p q B a1 e1 from fun X h => HC5.out.below h)
    have hD5 := Lib.hid hB05.out.size
    clear hF2 hG2 hF2' hG2' hG1' hF1' hq5 HD5 HD4 HC5 HF5 HY4
    go_wp2_with fail
    have hB5d : Below W5.heap.size W5 W5.drew := (Below.refl _ W5).drew
    go_region_held3 (fun w' => w'.cell? ⟨r, 1, none⟩ = some (.int .i64 a1) ∧ w'.cell? ⟨r, 2, none⟩ = some (.int .i64 e1))
      (first | exact ⟨d1, d2⟩ | exact ⟨pw_cell_below (w := W5) hB57 d1, pw_cell_below (w := W5) hB57 d2⟩ | exact ⟨pw_cell_below (w := W5) hB56 d1, pw_cell_below (w := W5) hB56 d2⟩)
      (first
        | (go_at_call 28; refine (HP.out _ hB5d).mono ?_; rintro e6 W6 ⟨hB6, A3, c3, rfl, hl3, hF3⟩; have hB56 := below_from hB5d hB6; have HF3 := Lib.hid hF3; clear hF3)
        | (go_at_call 57; refine (HS.out _ _ A3 c3 hB5d hB6 HF3.out).mono ?_; rintro e7 W7 ⟨rfl, hB7⟩; have hB57 := below_from hB56 hB7)
        | (go_at_call 58; refine (err_any _ p q B a1 e1 (HC6.out _ hB57)).mono ?_; rintro e8 w8 ⟨rfl, rfl⟩)
        | (go_at_call 59; refine (at_any _ p q B a1 e1 (HC6.out _ hB57)).mono ?_; rintro e8 w8 ⟨rfl, rfl⟩)
        | (go_at_call 55; refine (Expr_nil _ sat).mono ?_; rintro e8 w8 ⟨rfl, rfl⟩))
    all_goals
      go_wp2_with fail
      go_ret
      exact ⟨rfl, hB05.out.trans (hB57.mono hB05.out.size)⟩
theorem opens_U8s (n : Nat) : OpensAt Try.prog 85 (Kd.slice 5 (rng .u8)) (fun xs => xs.length) (n + 1) :=
  opens_bk (opens_slice Try.underlying85 (by kernel_rfl) (opens_int .u8 Try.underlying5 (by kernel_rfl) n)) (fun a => by rw [sum_ones]; omega)
theorem opens_B (n : Nat) : OpensAt Try.prog 4 Kd.bool (fun _ => 1) n := opens_bool Try.underlying4 (by kernel_rfl) n
theorem bytes_open {W : World} {a0 : List Int} {A : Option Addr} {n c : Nat} (h0 : (Kd.slice 5 (rng .u8)).K W a0 (Value.slice A n c).cells.toList) (hb : a0.length ≤ 1048576) : n = a0.length ∧ RdI W .u8 A a0 ∧ Byts a0 ∧ a0.length ≤ c := by
  obtain ⟨A', c', e, hle, hC⟩ := h0
  simp [Value.cells] at e
  obtain ⟨rfl, rfl, rfl⟩ := e
  exact ⟨rfl, C_rdI hC (by omega), ⟨hb, fun x hx => by have := wf_bounds (C_all hC x hx); simp [IntKind.min, IntKind.max, IntKind.signed, IntKind.bits] at this; omega⟩, hle⟩
theorem codeReads_walk (W : World) (a0 : List Int) (a1 : Bool) {A : Option Addr} {n c : Nat} {b : Bool} (h0 : (Kd.slice 5 (rng .u8)).K W a0 (Value.slice A n c).cells.toList) (h1 : Kd.bool.K W a1 (Value.bool b).cells.toList) (hb : a0.length ≤ 1048576) :
    Calls Try.prog 10 #[.slice A n c, .bool b] W fun e W' => e = .returned (.bool true) ∧ Below W.heap.size W W' := by
  obtain ⟨rfl, hR, hB, hle⟩ := bytes_open h0 hb
  exact codeReads_go W A c a0 b hR hB hle
end Go.Proofs.Ytfndlpfceokloaa
end
section
namespace Go.Proofs.Ytfndlpfceokloaa
open Go.RowKit Go.Shelf YtfndlpfceokloaaB Go.Proofs.YtfndlpfceokloaaW.PrintWords
theorem rdI_take {W : World} {k : IntKind} {A : Option Addr} {xs : List Int} (h : RdI W k A xs) (n : Nat) : RdI W k A (xs.take n) := by
  refine ⟨by rw [List.length_take]; have := h.1; omega, fun hp => ?_⟩
  rw [List.length_take] at hp
  obtain ⟨b, o, e, hc⟩ := h.2 (by omega)
  refine ⟨b, o, e, fun j x hj => ?_⟩
  rw [List.getElem?_take] at hj
  split at hj
  · exact hc j x hj
  · cases hj
theorem byts_take {B : List Int} (h : Byts B) (n : Nat) : Byts (B.take n) := ⟨by rw [List.length_take]; have := h.1; omega, fun x hx => h.2 x (List.mem_of_mem_take hx)⟩
theorem byts_append {A B : List Int} (h : Byts A) (h' : Byts B) (hl : (A ++ B).length ≤ 1048576) : Byts (A ++ B) := ⟨hl, fun x hx => (List.mem_append.1 hx).elim (h.2 x) (h'.2 x)⟩
theorem rdI_off {n : Nat} {w w1 : World} {k : IntKind} {A : Option Addr} {xs : List Int} (h : RdI w k A xs) (hb : Below n w w1) (hn : n = w.heap.size) : RdI w1 k A xs := by subst hn; exact h.below hb
theorem New_n (W : World) (A : Option Addr) (n c : Nat) (B : List Int) (hn : n = B.length) (hR : RdI W .u8 A B) (hB : Byts B) : Calls Try.prog 54 #[.slice A n c] W (NewPost W B) := by subst hn; exact New_any W A c B hR hB
/-- X has what W and V had. -/
structure Bel (W V X : World) : Prop where
  h0 : Below W.heap.size W V
  h1 : Below V.heap.size V X
theorem Bel.all {W V X : World} (h : Bel W V X) : Below W.heap.size W X := below_from h.h0 h.h1
theorem Bel.step {W V X Y : World} (h : Bel W V X) (hb : Below X.heap.size X Y) : Bel W V Y := ⟨h.h0, below_from h.h1 hb⟩
theorem Bel.goes {W V X Y : World} {p : Nat} (h : Bel W V X) (hg : X.grownBy Y (some p)) (hp : V.heap.size ≤ p) : Bel W V Y := ⟨h.h0, below_goes h.h1 hg hp h.h1.size⟩
theorem Bel.grown {W V X Y : World} {row : Option Nat} (h : Bel W V X) (hg : X.grownBy Y row) (hp : ∀ k, row = some k → V.heap.size ≤ k) : Bel W V Y := ⟨h.h0, h.h1.grown hg h.h1.size hp⟩
theorem own_base {w : World} {base sz n : Nat} {e : TypeId} {v : Value} {xs : List Value} {k : Nat} (h : w.ownsRow base e sz v n xs) (hk : v.ownBlock = some k) : base ≤ k := by
  rcases h.2 with ⟨rfl, _⟩ | ⟨g, cap, cur, rfl, hg, _⟩
  · cases hk
  · injection hk with hk
    subst hk
    exact hg
theorem nums_app (k : IntKind) (a b : List Int) : nums k a ++ nums k b = nums k (a ++ b) := by simp [nums]
theorem fc_kept {W W' : World} {ok : Nat → Prop} {A : Option Addr} {l : List Ins} {n : Nat} {d : Kd Ins} (h : FC d W (fun k => ok k ∧ k < W.heap.size) A l) (hb : Below n W W') (hn : W.heap.size = n) : FC d W' (fun k => ok k ∧ k < W.heap.size) A l := by
  subst hn
  exact Ft.below h hb
theorem fc_bounded {W : World} {ok : Nat → Prop} {A : Option Addr} {l : List Ins} {d : Kd Ins} (h : FC d W ok A l) : FC d W (fun k => ok k ∧ k < W.heap.size) A l := Ft.bound h (fun k hk hlt => ⟨hk, hlt⟩)
set_option maxRecDepth 100000 in
set_option maxHeartbeats 4000000 in
theorem codeKeeps_go (W : World) (A A2 : Option Addr) (c c2 : Nat) (B M : List Int) (cut : Int) (hR : RdI W .u8 A B) (hB : Byts B) (hle : B.length ≤ c) (hR2 : RdI W .u8 A2 M) (hM : Byts M) (hle2 : M.length ≤ c2) (hcut : cut ≤ 9223372036854775807) (hcut0 : -9223372036854775808 ≤ cut) :
    Calls Try.prog 12 #[.slice A B.length c, .slice A2 M.length c2, .int .i64 cut] W (AwPost W) := by
  have hbl := hB.1
  have hml := hM.1
  by_cases hout : 3000 < B.length ∨ 100 < M.length ∨ cut < 0
  · have h3 : (decide ((3000 : Int) < (B.length : Int)) || decide ((100 : Int) < (M.length : Int)) || decide (cut < 0)) = true := by simp; omega
    by_cases c1 : (3000 : Int) < (B.length : Int)
    · clear h3 hout
      go_enter Try.func12, Try.ntmps12
      go_wp2_with fail
      refine (awake19_any _).mono ?_
      rintro e1 W1 ⟨rfl, hB1⟩
      go_wp2_with fail
      go_ret
      exact ⟨rfl, hB1⟩
    by_cases c3 : (100 : Int) < (M.length : Int)
    · clear h3 hout
      go_enter Try.func12, Try.ntmps12
      go_wp2_with fail
      refine (awake19_any _).mono ?_
      rintro e1 W1 ⟨rfl, hB1⟩
      go_wp2_with fail
      go_ret
      exact ⟨rfl, hB1⟩
    have c4 : cut < 0 := by omega
    clear h3 hout
    go_enter Try.func12, Try.ntmps12
    go_wp2_with fail
    refine (awake19_any _).mono ?_
    rintro e1 W1 ⟨rfl, hB1⟩
    go_wp2_with fail
    go_ret
    exact ⟨rfl, hB1⟩
  · have h3 : ¬ (3000 : Int) < (B.length : Int) := by omega
    have h4 : ¬ (100 : Int) < (M.length : Int) := by omega
    have h5 : ¬ cut < 0 := by omega
    have h5' : 0 ≤ cut := by omega
    have HR := Lib.hid hR
    have HR2 := Lib.hid hR2
    have HB := Lib.hid hB
    have HM := Lib.hid hM
    have hLB : B.length ≤ 3000 := by omega
    have hLM : M.length ≤ 100 := by omega
    have HK := Lib.hid (expr_len (sat := true) hbl)
    have HBD := Lib.hid (show (exprM true B 0 0).2.2 ≠ 0 → (exprM true B 0 0).1 = [] from expr_bad)
    have HKP := Lib.hid (show (exprM true B 0 0).2.2 = 0 → _ from fun h => keeps_plain h M)
    clear hout hR hR2 hB hM
    go_enter Try.func12, Try.ntmps12
    go_wp2_with fail
    refine (awake19_any _).mono ?_
    rintro e1 W1 ⟨rfl, hB1⟩
    go_wp2_with fail
    refine (New_any W1 A c B (HR.out.below hB1) HB.out).mono ?_
    rintro e2 W2 ⟨p, q, hp, rfl, hC, hB2⟩
    have hB02 := Lib.hid (below_from hB1 hB2)
    have hp0 := Lib.hid (show W.heap.size ≤ p from Nat.le_trans hB1.size hp)
    have HX := Lib.hid (Expr_any W2 p q true B 0 0 hC HB.out)
    generalize ht : exprM true B 0 0 = t at *
    have Ht := Lib.hid ht
    clear ht
    obtain ⟨l, a1, e1⟩ := t
    clear hB1 hB2 hp hC
    go_wp2_with fail
    refine HX.out.mono ?_
    rintro e3 W3 ⟨⟨A1, c1, rfl, hl1, hF⟩, hG⟩
    have hG' : Goes W2 W3 p q B a1 e1 := hG
    have HF := Lib.hid (fc_bounded (show FC kI W3 (fun k => W2.heap.size ≤ k) A1 l from hF))
    have HB3 := Lib.hid (below_goes hB02.out hG'.2 hp0.out hB02.out.size)
    have HC3 := Lib.hid hG'.1
    have hp3 := hG'.1.lt
    clear hG hG' hF HX hB02
    have HEr := Lib.hid (err_any _ _ _ _ _ _ HC3.out)
    by_cases he : e1 = 0
    · subst he
      obtain ⟨k1, k2, k3, k4, k5, k6, k7⟩ := HKP.out rfl
      try simp only at k1 k2 k3 k4 k5 k6 k7
      have g1 : ¬ (a1 : Int) < 1 := by omega
      have g2 : ¬ (B.length : Int) < (a1 : Int) := by omega
      have g0 : (1 : Int) ≤ (a1 : Int) := by omega
      have g3 : ¬ (64 : Int) < (dpL l : Int) := by omega
      have g4 : ¬ (a1 : Int) ≤ (szL l : Int) := by omega
      obtain ⟨b, o, x, rfl, hcx, hx⟩ := (HR.out.below HB3.out).get (a1 - 1) (by omega)
      obtain rfl : x = 11 := by have := hx.out; rw [k3] at this; injection this with this; exact this.symm
      have hbx := World.block_lt_of_cell? _ _ hcx
      have hbkl : bkL l ≤ 1048576 := HK.out
      have HD := Lib.hid (Depth_any l hbkl A1 c1 W3 HF.out.now)
      have HS := Lib.hid (show ∀ X, Below W3.heap.size W3 X → Calls Try.prog 61 #[.slice A1 l.length c1] X fun e W' => e = .returned (.int .i64 (szL l : Int)) ∧ Below X.heap.size X W' from fun X h => Size_any l hbkl A1 c1 X (fc_kept HF.out h rfl).now)
      have HA := Lib.hid (at_any _ _ _ _ _ _ HC3.out)
      have K6 := Lib.hid k6
      have K7 := Lib.hid k7
      have hk2 : a1 ≤ B.length := k2
      clear hx k3 k4 k5 k6 k7 HKP HBD
      go_wp2_with (first
        | (go_at_call 58; refine HEr.out.mono ?_; rintro e w' ⟨rfl, rfl⟩)
        | (go_at_call 59; refine HA.out.mono ?_; rintro e w' ⟨rfl, rfl⟩)
        | (go_at_call 63; refine HD.out.mono ?_; rintro e4 W4 ⟨rfl, hB4⟩; have HS4 := Lib.hid (HS.out W4 hB4)))
      refine HS4.out.mono ?_
      rintro e5 W5 ⟨rfl, hB5⟩
      have HB5 := Lib.hid (((Bel.mk HB3.out (Below.refl _ _)).step hB4).step hB5)
      have HT := Lib.hid (rdI_take ((HR.out.below HB5.out.all).below ((Below.refl _ W5).alloc (Nat.le_refl _) (.cells #[] 5))) a1).src
      clear hB4 hB5 HS4
      go_wp2_with (first
        | (at_builtin; refine wpList_append_src W5.heap.size rfl (.tmp 66) (.tmp 69) 85 5 (.int .u8 0) 1 1 rfl Try.underlying85 infoB8 rfl (by decide) (by decide) (.slice (some ⟨W5.heap.size, 0, none⟩) 0 0) 0 [] (nums .u8 (B.take a1)) (some ⟨b, o, none⟩) a1 c (by rfl) (by rfl) (World.ownsRow_made W5 #[] 0 (Nat.le_refl _) (by decide) rfl) (by simp [nums]; omega) (fun hp => HT.out (by rw [List.length_take]; omega)) (nums_one _ _) (by simp) (by omega) ?_; intro v1 w1 hown1 hg1 hat1; rw [Nat.zero_add, List.nil_append] at hown1; have HO1 := Lib.hid hown1; have hw1s := hg1.size; have HB6 := Lib.hid ((HB5.out.grown (World.grownBy_alloc W5 (.cells #[] 5) none) (fun k e => by cases e)).grown hg1 (fun k e => by cases e; exact HB5.out.h1.size)); clear hown1 hg1 hat1)
        | (at_builtin; refine wpList_append_src W5.heap.size rfl (.tmp 70) (.tmp 71) 85 5 (.int .u8 0) 1 1 rfl Try.underlying85 infoB8 rfl (by decide) (by decide) v1 a1 (nums .u8 (B.take a1)) (nums .u8 M) A2 M.length c2 (by rfl) (by rfl) HO1.out (by simp [nums]) (HR2.out.below HB6.out.all).src (nums_one _ _) (by simp at hw1s; omega) (by omega) ?_; intro v2 w2 hown2 hg2 hat2; have HB7 := Lib.hid (HB6.out.grown hg2 (fun k e => Nat.le_trans HB5.out.h1.size (own_base HO1.out e))); rw [nums_app] at hown2; obtain ⟨A3, c3, rfl, hl3, hR3⟩ := own_rdI hown2 (by omega); have HR3 := Lib.hid hR3; have hl3' := Lib.hid hl3; clear hown2 hg2 hat2 hl3 hR3))
      refine (New_n _ A3 _ c3 (B.take a1 ++ M) hl3'.out.symm HR3.out (byts_append (byts_take HB.out a1) HM.out (by rw [hl3'.out]; omega))).mono ?_
      rintro e8 W8 ⟨p8, q8, hp8, rfl, hC8, hB8⟩
      have hp8' := Nat.le_trans HB7.out.h1.size hp8
      have HB8 := Lib.hid (HB7.out.step hB8)
      have HX8 := Lib.hid (Expr_any W8 p8 q8 true _ 0 0 hC8 (byts_append (byts_take HB.out a1) HM.out (by rw [hl3'.out]; omega)))
      rw [K6.out] at HX8
      clear hp8 hB8 hC8 HR3 K6
      go_wp2_with fail
      refine HX8.out.mono ?_
      rintro e9 W9 ⟨⟨A9, c9, rfl, hl9, hF9⟩, hG9⟩
      have hG9' : Goes W8 W9 p8 q8 (B.take a1 ++ M) a1 0 := hG9
      have HF9 := Lib.hid (fc_bounded (show FC kI W9 (fun k => W8.heap.size ≤ k) A9 l from hF9))
      have HB9 := Lib.hid (HB8.out.goes hG9'.2 hp8')
      have HC9 := Lib.hid hG9'.1
      have HP1 := Lib.hid (plain_any _ l (Nat.le_refl _) hbkl _ W9 A9 c9 HF9.out)
      have HP2 := Lib.hid (show ∀ X, Below W9.heap.size W9 X → Calls Try.prog 28 #[.slice A1 l.length c1] X (PlainPost X _ l) from fun X h => plain_any _ l (Nat.le_refl _) hbkl _ X A1 c1 (fc_kept HF.out (below_from HB9.out.h1 h) rfl))
      have HS := Lib.hid (fun X A3 A4 c3 c4 (h3 : kR.C X A3 l.length l) (h4 : kR.C X A4 l.length l) => same_eq _ l (Nat.le_refl _) hbkl X A3 A4 c3 c4 h3 h4)
      have HE9 := Lib.hid (err_any _ _ _ _ _ _ HC9.out)
      have HA9 := Lib.hid (at_any _ _ _ _ _ _ HC9.out)
      clear hF9 hG9 hG9' HX8
      go_wp2_with (first
        | (go_at_call 58; refine HE9.out.mono ?_; rintro e w' ⟨rfl, rfl⟩)
        | (go_at_call 59; refine HA9.out.mono ?_; rintro e w' ⟨rfl, rfl⟩))
      refine HP1.out.mono ?_
      rintro ea Wa ⟨hBa, Aa, ca, rfl, hla, hFa⟩
      have HFa := Lib.hid hFa
      have HP3 := Lib.hid (HP2.out Wa hBa)
      have HBa := Lib.hid (HB9.out.step hBa)
      clear hFa hBa HP1 HP2
      go_wp2_with fail
      refine HP3.out.mono ?_
      rintro eb Wb ⟨hBb, Ab, cb, rfl, hlb, hFb⟩
      have HSb := Lib.hid (HS.out Wb Aa Ab ca cb (HFa.out.below hBb).now hFb.now)
      have HBb := Lib.hid (HBa.out.step hBb)
      clear hFb hBb HP3 HS
      go_wp2_with fail
      refine HSb.out.mono ?_
      rintro ec Wc ⟨rfl, hBc⟩
      have HBc := Lib.hid (HBb.out.step hBc)
      clear hBc HSb HBb HBa
      obtain ⟨k, hk, hka⟩ : ∃ k : Nat, cut % (a1 : Int) = k ∧ k < a1 := ⟨(cut % (a1 : Int)).toNat, by have := Int.emod_nonneg cut (show (a1 : Int) ≠ 0 by omega); omega, by have := Int.emod_nonneg cut (show (a1 : Int) ≠ 0 by omega); have := Int.emod_lt_of_pos cut (show (0 : Int) < a1 by omega); omega⟩
      obtain ⟨m1, m2⟩ := K7.out k hka
      have hkB : (B.take k).length = k := by rw [List.length_take]; omega
      have HkB := Lib.hid hkB
      have hkc : k ≤ c := by omega
      have M1 := Lib.hid m1
      have M2 := Lib.hid m2
      clear hkB m1 m2 K7
      go_wp2_with fail
      refine (New_n Wc _ k c (B.take k) HkB.out.symm (rdI_take (HR.out.below HBc.out.all) k) (byts_take HB.out k)).mono ?_
      rintro ed Wd ⟨pd, qd, hpd, rfl, hCd, hBd⟩
      have hpd' := Nat.le_trans HBc.out.h1.size hpd
      have HBd := Lib.hid (HBc.out.step hBd)
      have HXd := Lib.hid (Expr_any Wd pd qd true _ 0 0 hCd (byts_take HB.out k))
      have Ht : ∃ z, exprM true (B.take k) 0 0 = ([], z, 100) := ⟨(exprM true (B.take k) 0 0).2.1, Prod.ext M1.out (Prod.ext rfl M2.out)⟩
      obtain ⟨z, hz⟩ := Ht
      rw [hz] at HXd
      clear hz M1 M2 hpd hCd hBd
      go_wp2_with fail
      refine HXd.out.mono ?_
      rintro ee We ⟨⟨Ae, ce, rfl, hle', hFe⟩, hGe⟩
      have hGe' : Goes Wd We pd qd (B.take k) z 100 := hGe
      have HBe := Lib.hid (HBd.out.goes hGe'.2 hpd')
      have HEe := Lib.hid (err_any _ _ _ _ _ _ hGe'.1)
      clear hGe hGe' hFe HXd
      go_wp2_with (go_at_call 58; refine HEe.out.mono ?_; rintro e w' ⟨rfl, rfl⟩)
      go_ret
      exact ⟨rfl, HBe.out.all⟩
    · have he2 : (e1 != 0) = true := by simpa using he
      have hl : l = [] := HBD.out he
      subst hl
      clear he
      go_wp2_with (go_at_call 58; refine HEr.out.mono ?_; rintro e w' ⟨rfl, rfl⟩)
      go_ret
      exact ⟨rfl, HB3.out⟩
theorem opens_I (n : Nat) : OpensAt Try.prog 3 (rng .i64) (fun _ => 1) n := opens_int .i64 Try.underlying3 (by kernel_rfl) n
theorem codeKeeps_walk (W : World) (a0 a1 : List Int) (a2 : Int) {A A2 : Option Addr} {n c n2 c2 : Nat} {v : Int} (h0 : (Kd.slice 5 (rng .u8)).K W a0 (Value.slice A n c).cells.toList) (h1 : (Kd.slice 5 (rng .u8)).K W a1 (Value.slice A2 n2 c2).cells.toList) (h2 : (rng .i64).K W a2 (Value.int .i64 v).cells.toList) (hb : a0.length + a1.length ≤ 1048576) :
    Calls Try.prog 12 #[.slice A n c, .slice A2 n2 c2, .int .i64 v] W fun e W' => e = .returned (.bool true) ∧ Below W.heap.size W W' := by
  obtain ⟨rfl, hR, hB, hle⟩ := bytes_open h0 (by omega)
  obtain ⟨rfl, hR2, hB2, hle2⟩ := bytes_open h1 (by omega)
  obtain ⟨e, hw⟩ := h2
  simp [Value.cells] at e
  subst e
  have := wf_bounds hw
  simp [IntKind.min, IntKind.max, IntKind.signed, IntKind.bits] at this
  exact codeKeeps_go W A A2 c c2 a0 a1 v hR hB hle hR2 hB2 hle2 (by omega) (by omega)
end Go.Proofs.Ytfndlpfceokloaa
end
