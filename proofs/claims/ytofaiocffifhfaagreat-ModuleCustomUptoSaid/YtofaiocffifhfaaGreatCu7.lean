/- Lemmas towards this claim's statement: what the functions named here come to, each under the conditions that it states itself. -/
import Derived.Test.YtofaiocffifhfaaGreatCu6
import Derived.Laws.BytesArg
import Derived.Lib.OthersKept
import Derived.Laws.RangeAny
import Derived.WalkSmall
section
namespace Go.Proofs.YtofaiocffifhfaaGreat
open Go.RowKit Go.Shelf YtofaiocffifhfaaGreatB Go.Proofs.YtofaiocffifhfaaGreatW.PrintWords
theorem gw_alloc {W X : World} {row : Option Nat} (h : W.grownBy X row) (o : Obj) : W.grownBy (X.alloc o) row := h.trans (World.grownBy_alloc X o row)
theorem gw_set {W X : World} {row : Option Nat} (h : W.grownBy X row) (b i : Nat) (v : Value) (hb : W.heap.size ≤ b) : W.grownBy (X.setCell ⟨b, i, none⟩ v) row := grown_jj h (gset X b i v) (fun k e => by injection e with e; omega)
theorem gw_drew {W X : World} {row : Option Nat} (h : W.grownBy X row) : W.grownBy X.drew row := grown_jj h (show X.grownBy X.drew none from ⟨rfl, rfl, rfl, Nat.le_refl _, fun _ _ _ => rfl⟩) (fun k e => by cases e)
theorem cur_drew {W : World} {p q : Nat} {B : List Int} {a : Nat} {e : Int} (h : Cur W p q B a e) : Cur W.drew p q B a e := h.below ((Below.refl _ W).drew)
structure St (W X : World) (p q : Nat) (B : List Int) (a : Nat) (e : Int) : Prop where
 cur : Cur X p q B a e
 g : W.grownBy X (some p)
 hp : p < W.heap.size
 hq : 0 < B.length → q < W.heap.size
section
variable {W X Y : World} {p q : Nat} {B : List Int} {a a' : Nat} {e e' : Int}
theorem St.start (hC : Cur W p q B a e) : St W W p q B a e := ⟨hC, World.grownBy.refl _ _, hC.lt, fun hl => hC.qlt' hl⟩
theorem St.sz (h : St W X p q B a e) : W.heap.size ≤ X.heap.size := h.g.size
theorem St.goes (h : St W X p q B a e) (hG : Goes X Y p q B a' e') : St W Y p q B a' e' := ⟨hG.1, h.g.trans hG.2, h.hp, h.hq⟩
theorem St.alloc (h : St W X p q B a e) (o : Obj) : St W (X.alloc o) p q B a e := ⟨h.cur.alloc o, gw_alloc h.g o, h.hp, h.hq⟩
theorem St.drew (h : St W X p q B a e) : St W X.drew p q B a e := ⟨cur_drew h.cur, gw_drew h.g, h.hp, h.hq⟩
theorem St.set (h : St W X p q B a e) (b i : Nat) (v : Value) (hb : W.heap.size ≤ b) : St W (X.setCell ⟨b, i, none⟩ v) p q B a e :=
 ⟨h.cur.other b i v (by have := h.hp; omega) (fun hl => by have := h.hq hl; omega), gw_set h.g b i v hb, h.hp, h.hq⟩
theorem St.setAt (h : St W X p q B a e) (a' : Nat) (ha : a' ≤ B.length) : St W (X.setCell ⟨p, 1, none⟩ (.int .i64 a')) p q B a' e := ⟨h.cur.setAt a' ha, h.g.trans (gset X p 1 _), h.hp, h.hq⟩
theorem St.fin (h : St W X p q B a e) : Goes W X p q B a e := ⟨h.cur, h.g⟩
theorem St.below (h : St W X p q B a e) (hb : Below X.heap.size X Y) : St W Y p q B a e := ⟨h.cur.below hb, h.g.trans (grown_below hb (some p)), h.hp, h.hq⟩
theorem St.grown (h : St W X p q B a e) {row : Option Nat} (hg : X.grownBy Y row) (hr : ∀ k, row = some k → W.heap.size ≤ k) : St W Y p q B a e :=
 ⟨h.cur.grown' hg (fun e => by have := hr _ e.symm; have := h.hp; omega) (fun hl e => by have := hr _ e.symm; have := h.hq hl; omega), grown_jj h.g hg (fun k hk => .inr (hr k hk)), h.hp, h.hq⟩
theorem St.le (h : St W X p q B a e) : a ≤ B.length := h.cur.2.1
end
structure Lc (p : Nat) (X : World) (b : Nat) (cs : Array Value) (t : TypeId) : Prop where
 blk : Blk X b cs t
 ne : b ≠ p
section
variable {W X Y : World} {p q b : Nat} {B : List Int} {a a' : Nat} {e e' : Int} {cs : Array Value} {t : TypeId}
theorem Lc.goes (h : Lc p X b cs t) (hG : Goes X Y p q B a e) : Lc p Y b cs t := ⟨h.blk.grown hG.2 (fun e => h.ne (by injection e)), h.ne⟩
theorem Lc.alloc (h : Lc p X b cs t) (o : Obj) : Lc p (X.alloc o) b cs t := ⟨h.blk.alloc o, h.ne⟩
theorem Lc.drew (h : Lc p X b cs t) : Lc p X.drew b cs t := ⟨h.blk.drew, h.ne⟩
theorem Lc.other (h : Lc p X b cs t) (b' i : Nat) (v : Value) (hb : b ≠ b') : Lc p (X.setCell ⟨b', i, none⟩ v) b cs t := ⟨h.blk.set_other _ v hb, h.ne⟩
theorem Lc.new (X : World) (cs : Array Value) (t : TypeId) (hp : p < X.heap.size) : Lc p (X.alloc (.cells cs t)) X.heap.size cs t := ⟨Blk.new X cs t, by omega⟩
theorem Lc.newAt (X : World) (cs : Array Value) (t : TypeId) (hp : p < X.heap.size) (hb : X.heap.size = b) : Lc p (X.alloc (.cells cs t)) b cs t := hb ▸ Lc.new X cs t hp
theorem Lc.lt (h : Lc p X b cs t) : b < X.heap.size := h.blk.lt
theorem Lc.fz (h : Lc p X b cs t) (j : Nat) : X.frozen? ⟨b, j, none⟩ = false := h.blk.frozen j
theorem Lc.grown (h : Lc p X b cs t) {row : Option Nat} (hg : X.grownBy Y row) (hr : some b ≠ row) : Lc p Y b cs t := ⟨h.blk.grown hg hr, h.ne⟩
theorem Lc.below (h : Lc p X b cs t) (hb : Below X.heap.size X Y) : Lc p Y b cs t := ⟨h.blk.below hb h.blk.lt, h.ne⟩
end
section
variable {X : World} {p b : Nat} {t : TypeId} {l : List Value} {v w v0 v1 v2 v3 v4 v5 v6 v7 v8 v9 v10 v11 v12 : Value}
theorem Lc.c0 (h : Lc p X b (List.toArray (v :: l)) t) : X.cell? ⟨b, 0, none⟩ = some v := h.blk.cell 0
theorem Lc.s0 (h : Lc p X b (List.toArray (v :: l)) t) (w : Value) : Lc p (X.setCell ⟨b, 0, none⟩ w) b (List.toArray (w :: l)) t := ⟨h.blk.set 0 w, h.ne⟩
theorem Lc.c1 (h : Lc p X b (List.toArray (v0 :: v :: l)) t) : X.cell? ⟨b, 1, none⟩ = some v := h.blk.cell 1
theorem Lc.s1 (h : Lc p X b (List.toArray (v0 :: v :: l)) t) (w : Value) : Lc p (X.setCell ⟨b, 1, none⟩ w) b (List.toArray (v0 :: w :: l)) t := ⟨h.blk.set 1 w, h.ne⟩
theorem Lc.c2 (h : Lc p X b (List.toArray (v0 :: v1 :: v :: l)) t) : X.cell? ⟨b, 2, none⟩ = some v := h.blk.cell 2
theorem Lc.s2 (h : Lc p X b (List.toArray (v0 :: v1 :: v :: l)) t) (w : Value) : Lc p (X.setCell ⟨b, 2, none⟩ w) b (List.toArray (v0 :: v1 :: w :: l)) t := ⟨h.blk.set 2 w, h.ne⟩
theorem Lc.c3 (h : Lc p X b (List.toArray (v0 :: v1 :: v2 :: v :: l)) t) : X.cell? ⟨b, 3, none⟩ = some v := h.blk.cell 3
theorem Lc.s3 (h : Lc p X b (List.toArray (v0 :: v1 :: v2 :: v :: l)) t) (w : Value) : Lc p (X.setCell ⟨b, 3, none⟩ w) b (List.toArray (v0 :: v1 :: v2 :: w :: l)) t := ⟨h.blk.set 3 w, h.ne⟩
theorem Lc.c4 (h : Lc p X b (List.toArray (v0 :: v1 :: v2 :: v3 :: v :: l)) t) : X.cell? ⟨b, 4, none⟩ = some v := h.blk.cell 4
theorem Lc.s4 (h : Lc p X b (List.toArray (v0 :: v1 :: v2 :: v3 :: v :: l)) t) (w : Value) : Lc p (X.setCell ⟨b, 4, none⟩ w) b (List.toArray (v0 :: v1 :: v2 :: v3 :: w :: l)) t := ⟨h.blk.set 4 w, h.ne⟩
theorem Lc.c5 (h : Lc p X b (List.toArray (v0 :: v1 :: v2 :: v3 :: v4 :: v :: l)) t) : X.cell? ⟨b, 5, none⟩ = some v := h.blk.cell 5
theorem Lc.s5 (h : Lc p X b (List.toArray (v0 :: v1 :: v2 :: v3 :: v4 :: v :: l)) t) (w : Value) : Lc p (X.setCell ⟨b, 5, none⟩ w) b (List.toArray (v0 :: v1 :: v2 :: v3 :: v4 :: w :: l)) t := ⟨h.blk.set 5 w, h.ne⟩
theorem Lc.c6 (h : Lc p X b (List.toArray (v0 :: v1 :: v2 :: v3 :: v4 :: v5 :: v :: l)) t) : X.cell? ⟨b, 6, none⟩ = some v := h.blk.cell 6
theorem Lc.s6 (h : Lc p X b (List.toArray (v0 :: v1 :: v2 :: v3 :: v4 :: v5 :: v :: l)) t) (w : Value) : Lc p (X.setCell ⟨b, 6, none⟩ w) b (List.toArray (v0 :: v1 :: v2 :: v3 :: v4 :: v5 :: w :: l)) t := ⟨h.blk.set 6 w, h.ne⟩
theorem Lc.c7 (h : Lc p X b (List.toArray (v0 :: v1 :: v2 :: v3 :: v4 :: v5 :: v6 :: v :: l)) t) : X.cell? ⟨b, 7, none⟩ = some v := h.blk.cell 7
theorem Lc.s7 (h : Lc p X b (List.toArray (v0 :: v1 :: v2 :: v3 :: v4 :: v5 :: v6 :: v :: l)) t) (w : Value) : Lc p (X.setCell ⟨b, 7, none⟩ w) b (List.toArray (v0 :: v1 :: v2 :: v3 :: v4 :: v5 :: v6 :: w :: l)) t := ⟨h.blk.set 7 w, h.ne⟩
theorem Lc.c8 (h : Lc p X b (List.toArray (v0 :: v1 :: v2 :: v3 :: v4 :: v5 :: v6 :: v7 :: v :: l)) t) : X.cell? ⟨b, 8, none⟩ = some v := h.blk.cell 8
theorem Lc.s8 (h : Lc p X b (List.toArray (v0 :: v1 :: v2 :: v3 :: v4 :: v5 :: v6 :: v7 :: v :: l)) t) (w : Value) : Lc p (X.setCell ⟨b, 8, none⟩ w) b (List.toArray (v0 :: v1 :: v2 :: v3 :: v4 :: v5 :: v6 :: v7 :: w :: l)) t := ⟨h.blk.set 8 w, h.ne⟩
theorem Lc.c9 (h : Lc p X b (List.toArray (v0 :: v1 :: v2 :: v3 :: v4 :: v5 :: v6 :: v7 :: v8 :: v :: l)) t) : X.cell? ⟨b, 9, none⟩ = some v := h.blk.cell 9
theorem Lc.c10 (h : Lc p X b (List.toArray (v0 :: v1 :: v2 :: v3 :: v4 :: v5 :: v6 :: v7 :: v8 :: v9 :: v :: l)) t) : X.cell? ⟨b, 10, none⟩ = some v := h.blk.cell 10
theorem Lc.c11 (h : Lc p X b (List.toArray (v0 :: v1 :: v2 :: v3 :: v4 :: v5 :: v6 :: v7 :: v8 :: v9 :: v10 :: v :: l)) t) : X.cell? ⟨b, 11, none⟩ = some v := h.blk.cell 11
theorem Lc.c12 (h : Lc p X b (List.toArray (v0 :: v1 :: v2 :: v3 :: v4 :: v5 :: v6 :: v7 :: v8 :: v9 :: v10 :: v11 :: v :: l)) t) : X.cell? ⟨b, 12, none⟩ = some v := h.blk.cell 12
end
def FlatPost (W : World) (p q : Nat) (B : List Int) (v : Value) (a : Nat) (e : Int) (E : Ending) (w' : World) : Prop := E = .returned v ∧ Goes W w' p q B a e
def rdBack {α : Type} (z : α) (r : α × Nat × Int) (a : Nat) (e : Int) : α × Nat × Int := if e = 0 then (if r.2.2 = 0 then r else (z, a, r.2.2)) else (z, a, e)
set_option maxRecDepth 100000 in
theorem reads_bad_lim (W : World) (p q : Nat) (B : List Int) (a : Nat) (e : Int) (f : Value) (hC : Cur W p q B a e) (he : (e == 0) = false) :
  Calls Tryz.prog 111 #[.pointer (some ⟨p, 0, none⟩), f] W (FlatPost W p q B (.agg #[.int .u32 0, .int .u32 0, .bool false]) a e) := by
 have HC := Lib.hid (hC.alloc (.cells #[.int .u32 0, .int .u32 0, .bool false] 101))
 have HE := Lib.hid he
 have hpl := hC.lt
 clear hC he
 go_enter Tryz.func111, Tryz.ntmps111
 go_wp2_with (go_at_call 96; refine (good_any _ _ _ _ _ _ false HC.out HE.out).mono ?_; rintro e w' ⟨rfl, rfl⟩)
 exact bodyPost_ret (v := .agg #[.int .u32 0, .int .u32 0, .bool false]) (by simp [results, Tryz.results111, go_sem]) rfl ⟨rfl, HC.out, World.grownBy_alloc _ _ _⟩
set_option maxRecDepth 100000 in
set_option maxHeartbeats 1000000 in
theorem reads_lim (W : World) (p q : Nat) (B : List Int) (a nx : Nat) (g : FuncId) (hent : Enters Tryz.prog g) (lb : Array Value) (x y : Int) (z : Bool) (e' : Int) (hC : Cur W p q B a 0)
  (hg : Calls Tryz.prog g lb (W.alloc (.cells #[.int .u32 0, .int .u32 0, .bool false] 101)) (FlatPost (W.alloc (.cells #[.int .u32 0, .int .u32 0, .bool false] 101)) p q B (.agg #[.int .u32 x, .int .u32 y, .bool z]) nx e')) :
  Calls Tryz.prog 111 #[.pointer (some ⟨p, 0, none⟩), .func (.func g) #[] lb] W (FlatPost W p q B (if e' = 0 then .agg #[.int .u32 x, .int .u32 y, .bool z] else .agg #[.int .u32 0, .int .u32 0, .bool false]) (if e' = 0 then nx else a) e') := by
 have hpl := hC.lt
 have HS := Lib.hid ((St.start hC).alloc (.cells #[.int .u32 0, .int .u32 0, .bool false] 101))
 have HG := Lib.hid hg
 have HX := Lib.hid (Lc.new W #[.int .u32 0, .int .u32 0, .bool false] 101 hpl)
 obtain ⟨A, c, c0, c1, c2, f0, f1, f2, hle, hq, hlt, ha⟩ := hC.cells
 have hin : ∀ args w, Sem.run Tryz.prog (callFunc g args) w = .ok (.enter g args) w := hent
 clear hC hg hq hent
 by_cases he : e' = 0
 ·subst he
  rw [if_pos rfl, if_pos rfl]
  go_enter Tryz.func111, Tryz.ntmps111
  go_wp2_with fail
  refine (good_any _ _ _ _ _ _ true HS.out.cur rfl).mono ?_
  rintro E w' ⟨rfl, rfl⟩
  go_wp2_with fail
  refine HG.out.mono ?_
  rintro E W2 ⟨rfl, hG⟩
  replace HS := Lib.hid (HS.out.goes hG)
  replace HX := Lib.hid (HX.out.goes hG)
  have x0 := HX.out.c0
  have x1 := HX.out.c1
  have x2 := HX.out.c2
  have y0 := HX.out.fz 0
  have y1 := HX.out.fz 1
  have y2 := HX.out.fz 2
  have xl := HX.out.lt
  have hsz := HS.out.sz
  obtain ⟨A', c', g0, g1, g2, k0, k1, k2, gle, gq, glt, ga⟩ := HS.out.cur.cells
  have hpne : p ≠ W.heap.size := by omega
  have hpne' : W.heap.size ≠ p := by omega
  clear hG HG gq
  have H3 := Lib.hid (HS.out.cur.alloc (.cells #[.int .u32 x, .int .u32 y, .bool z] 101))
  go_wp2_with fail
  refine (good_any _ _ _ _ _ _ true H3.out rfl).mono ?_
  rintro E w' ⟨rfl, rfl⟩
  go_wp2_with fail
  refine bodyPost_ret (v := .agg #[.int .u32 x, .int .u32 y, .bool z]) (by simp [results, Tryz.results111, go_sem, x0, x1, x2, xl]) rfl ⟨rfl, St.fin (W := W) ?_⟩
  (repeat (first | with_reducible exact HS.out | (with_reducible refine St.set ?_ _ _ _ ?_; rotate_left; omega) | with_reducible refine St.alloc ?_ _ | with_reducible refine St.drew ?_))
 ·have he2 : (e' == 0) = false := beq_eq_false_iff_ne.2 he
  have HE2 := Lib.hid he2
  rw [if_neg he, if_neg he]
  clear he he2
  go_enter Tryz.func111, Tryz.ntmps111
  go_wp2_with fail
  refine (good_any _ _ _ _ _ _ true HS.out.cur rfl).mono ?_
  rintro E w' ⟨rfl, rfl⟩
  go_wp2_with fail
  refine HG.out.mono ?_
  rintro E W2 ⟨rfl, hG⟩
  replace HS := Lib.hid (HS.out.goes hG)
  replace HX := Lib.hid (HX.out.goes hG)
  have x0 := HX.out.c0
  have x1 := HX.out.c1
  have x2 := HX.out.c2
  have y0 := HX.out.fz 0
  have y1 := HX.out.fz 1
  have y2 := HX.out.fz 2
  have xl := HX.out.lt
  have hsz := HS.out.sz
  obtain ⟨A', c', g0, g1, g2, k0, k1, k2, gle, gq, glt, ga⟩ := HS.out.cur.cells
  have hpne : p ≠ W.heap.size := by omega
  have hpne' : W.heap.size ≠ p := by omega
  clear hG HG gq
  have H3 := Lib.hid (HS.out.cur.alloc (.cells #[.int .u32 x, .int .u32 y, .bool z] 101))
  go_wp2_with fail
  refine (good_any _ _ _ _ _ _ false H3.out HE2.out).mono ?_
  rintro E w' ⟨rfl, rfl⟩
  go_wp2_with fail
  refine bodyPost_ret (v := .agg #[.int .u32 0, .int .u32 0, .bool false]) (by simp [results, Tryz.results111, go_sem, x0, x1, x2, xl, hpne, hpne']) rfl ⟨rfl, St.fin (W := W) ?_⟩
  (repeat (first | with_reducible exact (HS.out.setAt a ha) | (with_reducible refine St.set ?_ _ _ _ ?_; rotate_left; omega) | with_reducible refine St.alloc ?_ _ | with_reducible refine St.drew ?_))
set_option maxRecDepth 100000 in
theorem reads_bad_gty (W : World) (p q : Nat) (B : List Int) (a : Nat) (e : Int) (f : Value) (hC : Cur W p q B a e) (he : (e == 0) = false) :
  Calls Tryz.prog 121 #[.pointer (some ⟨p, 0, none⟩), f] W (FlatPost W p q B (.agg #[.int .u8 0, .bool false]) a e) := by
 have HC := Lib.hid (hC.alloc (.cells #[.int .u8 0, .bool false] 103))
 have HE := Lib.hid he
 have hpl := hC.lt
 clear hC he
 go_enter Tryz.func121, Tryz.ntmps121
 go_wp2_with (go_at_call 96; refine (good_any _ _ _ _ _ _ false HC.out HE.out).mono ?_; rintro e w' ⟨rfl, rfl⟩)
 exact bodyPost_ret (v := .agg #[.int .u8 0, .bool false]) (by simp [results, Tryz.results121, go_sem]) rfl ⟨rfl, HC.out, World.grownBy_alloc _ _ _⟩
set_option maxRecDepth 100000 in
set_option maxHeartbeats 1000000 in
theorem reads_gty (W : World) (p q : Nat) (B : List Int) (a nx : Nat) (g : FuncId) (hent : Enters Tryz.prog g) (lb : Array Value) (x y : Int) (z : Bool) (e' : Int) (hC : Cur W p q B a 0)
  (hg : Calls Tryz.prog g lb (W.alloc (.cells #[.int .u8 0, .bool false] 103)) (FlatPost (W.alloc (.cells #[.int .u8 0, .bool false] 103)) p q B (.agg #[.int .u8 x, .bool z]) nx e')) :
  Calls Tryz.prog 121 #[.pointer (some ⟨p, 0, none⟩), .func (.func g) #[] lb] W (FlatPost W p q B (if e' = 0 then .agg #[.int .u8 x, .bool z] else .agg #[.int .u8 0, .bool false]) (if e' = 0 then nx else a) e') := by
 have hpl := hC.lt
 have HS := Lib.hid ((St.start hC).alloc (.cells #[.int .u8 0, .bool false] 103))
 have HG := Lib.hid hg
 have HX := Lib.hid (Lc.new W #[.int .u8 0, .bool false] 103 hpl)
 obtain ⟨A, c, c0, c1, c2, f0, f1, f2, hle, hq, hlt, ha⟩ := hC.cells
 have hin : ∀ args w, Sem.run Tryz.prog (callFunc g args) w = .ok (.enter g args) w := hent
 clear hC hg hq hent
 by_cases he : e' = 0
 ·subst he
  rw [if_pos rfl, if_pos rfl]
  go_enter Tryz.func121, Tryz.ntmps121
  go_wp2_with fail
  refine (good_any _ _ _ _ _ _ true HS.out.cur rfl).mono ?_
  rintro E w' ⟨rfl, rfl⟩
  go_wp2_with fail
  refine HG.out.mono ?_
  rintro E W2 ⟨rfl, hG⟩
  replace HS := Lib.hid (HS.out.goes hG)
  replace HX := Lib.hid (HX.out.goes hG)
  have x0 := HX.out.c0
  have x1 := HX.out.c1
  have x2 := HX.out.c1
  have y0 := HX.out.fz 0
  have y1 := HX.out.fz 1
  have y2 := HX.out.fz 1
  have xl := HX.out.lt
  have hsz := HS.out.sz
  obtain ⟨A', c', g0, g1, g2, k0, k1, k2, gle, gq, glt, ga⟩ := HS.out.cur.cells
  have hpne : p ≠ W.heap.size := by omega
  have hpne' : W.heap.size ≠ p := by omega
  clear hG HG gq
  have H3 := Lib.hid (HS.out.cur.alloc (.cells #[.int .u8 x, .bool z] 103))
  go_wp2_with fail
  refine (good_any _ _ _ _ _ _ true H3.out rfl).mono ?_
  rintro E w' ⟨rfl, rfl⟩
  go_wp2_with fail
  refine bodyPost_ret (v := .agg #[.int .u8 x, .bool z]) (by simp [results, Tryz.results121, go_sem, x0, x1, x2, xl]) rfl ⟨rfl, St.fin (W := W) ?_⟩
  (repeat (first | with_reducible exact HS.out | (with_reducible refine St.set ?_ _ _ _ ?_; rotate_left; omega) | with_reducible refine St.alloc ?_ _ | with_reducible refine St.drew ?_))
 ·have he2 : (e' == 0) = false := beq_eq_false_iff_ne.2 he
  have HE2 := Lib.hid he2
  rw [if_neg he, if_neg he]
  clear he he2
  go_enter Tryz.func121, Tryz.ntmps121
  go_wp2_with fail
  refine (good_any _ _ _ _ _ _ true HS.out.cur rfl).mono ?_
  rintro E w' ⟨rfl, rfl⟩
  go_wp2_with fail
  refine HG.out.mono ?_
  rintro E W2 ⟨rfl, hG⟩
  replace HS := Lib.hid (HS.out.goes hG)
  replace HX := Lib.hid (HX.out.goes hG)
  have x0 := HX.out.c0
  have x1 := HX.out.c1
  have x2 := HX.out.c1
  have y0 := HX.out.fz 0
  have y1 := HX.out.fz 1
  have y2 := HX.out.fz 1
  have xl := HX.out.lt
  have hsz := HS.out.sz
  obtain ⟨A', c', g0, g1, g2, k0, k1, k2, gle, gq, glt, ga⟩ := HS.out.cur.cells
  have hpne : p ≠ W.heap.size := by omega
  have hpne' : W.heap.size ≠ p := by omega
  clear hG HG gq
  have H3 := Lib.hid (HS.out.cur.alloc (.cells #[.int .u8 x, .bool z] 103))
  go_wp2_with fail
  refine (good_any _ _ _ _ _ _ false H3.out HE2.out).mono ?_
  rintro E w' ⟨rfl, rfl⟩
  go_wp2_with fail
  refine bodyPost_ret (v := .agg #[.int .u8 0, .bool false]) (by simp [results, Tryz.results121, go_sem, x0, x1, x2, xl, hpne, hpne']) rfl ⟨rfl, St.fin (W := W) ?_⟩
  (repeat (first | with_reducible exact (HS.out.setAt a ha) | (with_reducible refine St.set ?_ _ _ _ ?_; rotate_left; omega) | with_reducible refine St.alloc ?_ _ | with_reducible refine St.drew ?_))
end Go.Proofs.YtofaiocffifhfaaGreat
end
section
namespace Go.Proofs.YtofaiocffifhfaaGreat
open Go.RowKit Go.Shelf YtofaiocffifhfaaGreatB Go.Proofs.YtofaiocffifhfaaGreatW.PrintWords
def limV (x : Int × Int × Bool) : Value := .agg #[.int .u32 x.1, .int .u32 x.2.1, .bool x.2.2]
def gtyV (x : Int × Bool) : Value := .agg #[.int .u8 x.1, .bool x.2]
def lim1M (B : List Int) (a : Nat) : (Int × Int × Bool) × Nat × Int :=
 let h := rdOf (amongM B a [0, 1] 107) a 0
 let m := rdOf (u32M B h.2.1) h.2.1 h.2.2
 if h.1 = 1 then ((m.1, (rdOf (u32M B m.2.1) m.2.1 m.2.2).1, true), (rdOf (u32M B m.2.1) m.2.1 m.2.2).2) else ((m.1, 0, false), m.2)
def limM (B : List Int) (a : Nat) (e : Int) : (Int × Int × Bool) × Nat × Int := rdBack (0, 0, false) (lim1M B a) a e
def tab1M (B : List Int) (a : Nat) : (Int × Int × Bool) × Nat × Int :=
 let h := rdOf (amongM B a [112] 106) a 0
 limM B h.2.1 h.2.2
def tabM (B : List Int) (a : Nat) (e : Int) : (Int × Int × Bool) × Nat × Int := rdBack (0, 0, false) (tab1M B a) a e
def gty1M (B : List Int) (a : Nat) : (Int × Bool) × Nat × Int :=
 let t := rdOf (valM B a) a 0
 let m := rdOf (amongM B t.2.1 [0, 1] 107) t.2.1 t.2.2
 ((t.1, decide (m.1 = 1)), m.2)
def gtyM (B : List Int) (a : Nat) (e : Int) : (Int × Bool) × Nat × Int := rdBack (0, false) (gty1M B a) a e
theorem flag_any (X : World) (p q l : Nat) (B : List Int) (a : Nat) (e : Int) (hC : Cur X p q B a e) (hB : Byts B) (hl : X.heap.size = l) :
  Calls Tryz.prog 63 #[.pointer (some ⟨p, 0, none⟩), .int .i64 107, .slice (some ⟨l, 0, none⟩) 2 2] (X.alloc (.cells #[.int .u8 0, .int .u8 1] 5)) fun E w' => E = .returned (.int .u8 (rdOf (amongM B a [0, 1] 107) a e).1) ∧ Goes X w' p q B (rdOf (amongM B a [0, 1] 107) a e).2.1 (rdOf (amongM B a [0, 1] 107) a e).2.2 := by
 subst hl
 have hpl := hC.lt
 refine (among_any _ p q X.heap.size B a e 107 (some ⟨X.heap.size, 0, none⟩) 2 [0, 1] (hC.alloc _) hB rfl (by omega) (lit_ByQ X [0, 1] 5) (by decide)).mono ?_
 rintro E w' ⟨h1, h2⟩
 exact ⟨h1, Goes.of_alloc h2⟩
set_option maxRecDepth 100000 in
set_option maxHeartbeats 1000000 in
theorem Limits1_any (W : World) (p q r : Nat) (B : List Int) (a : Nat) (hC : Cur W p q B a 0) (hB : Byts B) (hr : Blk W r #[.pointer (some ⟨p, 0, none⟩)] 53) (hrp : r ≠ p) :
  Calls Tryz.prog 113 #[.pointer (some ⟨r, 0, none⟩)] W (FlatPost W p q B (limV (lim1M B a).1) (lim1M B a).2.1 (lim1M B a).2.2) := by
 have hpl := hC.lt
 have HS := Lib.hid ((St.start hC).alloc (.cells #[.int .u32 0, .int .u32 0, .bool false] 101))
 have HX := Lib.hid (Lc.new W #[.int .u32 0, .int .u32 0, .bool false] 101 hpl)
 have HR := Lib.hid ((⟨hr, hrp⟩ : Lc p W r #[.pointer (some ⟨p, 0, none⟩)] 53).alloc (.cells #[.int .u32 0, .int .u32 0, .bool false] 101))
 have HA := Lib.hid (flag_any _ p q (W.heap.size + 1) B a 0 HS.out.cur hB (World.size_alloc _ _))
 have c0 : W.cell? ⟨r, 0, none⟩ = some (.pointer (some ⟨p, 0, none⟩)) := hr.cell 0
 have hrl := hr.lt
 obtain ⟨R, hR⟩ : ∃ R, R = lim1M B a := ⟨_, rfl⟩
 rw [← hR]
 unfold lim1M at hR
 generalize rdOf (amongM B a [0, 1] 107) a 0 = r0 at *
 obtain ⟨x0, a1, e1⟩ := r0
 dsimp only at hR
 have HU1 := Lib.hid (fun X (h : Cur X p q B a1 e1) => U32_any X p q B a1 e1 h hB)
 generalize rdOf (u32M B a1) a1 e1 = r1 at *
 obtain ⟨x1, a2, e2⟩ := r1
 dsimp only at hR
 have HU2 := Lib.hid (fun X (h : Cur X p q B a2 e2) => U32_any X p q B a2 e2 h hB)
 generalize rdOf (u32M B a2) a2 e2 = r2 at *
 obtain ⟨x2, a3, e3⟩ := r2
 dsimp only at hR
 clear hC hB hr hrp
 by_cases hx : x0 = 1
 ·subst hx
  rw [if_pos rfl] at hR
  subst hR
  go_enter Tryz.func113, Tryz.ntmps113
  go_wp2_with fail
  refine HA.out.mono ?_
  rintro E W1 ⟨rfl, hG⟩
  replace HS := Lib.hid (HS.out.goes hG)
  replace HX := Lib.hid (HX.out.goes hG)
  replace HR := Lib.hid (HR.out.goes hG)
  replace c0 := HR.out.c0
  replace hrl := HR.out.lt
  have hs1 := HS.out.sz
  have hxl := HX.out.lt
  have hrw : r ≠ W1.heap.size := by omega
  have hxw : W.heap.size ≠ W1.heap.size := by omega
  clear hG HA
  go_wp2_with fail
  refine (HU1.out _ (HS.out.cur.alloc _)).mono ?_
  rintro E W2 ⟨rfl, hG⟩
  replace HS := Lib.hid ((HS.out.alloc _).goes hG)
  replace HX := Lib.hid ((HX.out.alloc _).goes hG)
  replace HR := Lib.hid ((HR.out.alloc _).goes hG)
  have HN := Lib.hid ((Lc.new W1 #[.int .u32 0, .int .u32 0, .bool true] 101 (by omega)).goes hG)
  replace c0 := HR.out.c0
  replace hrl := HR.out.lt
  have n0 := HN.out.c0
  have n1 := HN.out.c1
  have n2 := HN.out.c2
  have f0 := HN.out.fz 0
  have f1 := HN.out.fz 1
  have hnl := HN.out.lt
  replace hxl := HX.out.lt
  clear hG HU1
  go_wp2_with fail
  refine (HU2.out _ (HS.out.set W1.heap.size 0 _ (by omega)).cur).mono ?_
  rintro E W3 ⟨rfl, hG⟩
  replace HS := Lib.hid ((HS.out.set W1.heap.size 0 _ (by omega)).goes hG)
  replace HX := Lib.hid ((HX.out.other W1.heap.size 0 _ hxw).goes hG)
  replace HN := Lib.hid ((HN.out.s0 _).goes hG)
  replace n0 := HN.out.c0
  replace n1 := HN.out.c1
  replace n2 := HN.out.c2
  replace f1 := HN.out.fz 1
  have x0 := HX.out.c0
  have x1' := HX.out.c1
  have x2' := HX.out.c2
  have g0 := HX.out.fz 0
  have g1 := HX.out.fz 1
  have g2 := HX.out.fz 2
  replace hnl := HN.out.lt
  replace hxl := HX.out.lt
  clear hG HU2
  go_wp2_with fail
  refine bodyPost_ret (v := limV (x1, x2, true)) (by simp [results, Tryz.results113, go_sem, x0, x1', x2', hxl, limV, hxw]) rfl ⟨rfl, St.fin (W := W) ?_⟩
  (repeat (first | with_reducible exact HS.out | (with_reducible refine St.set ?_ _ _ _ ?_; rotate_left; omega) | with_reducible refine St.alloc ?_ _ | with_reducible refine St.drew ?_))
 ·rw [if_neg hx] at hR
  subst hR
  go_enter Tryz.func113, Tryz.ntmps113
  go_wp2_with fail
  refine HA.out.mono ?_
  rintro E W1 ⟨rfl, hG⟩
  replace HS := Lib.hid (HS.out.goes hG)
  replace HX := Lib.hid (HX.out.goes hG)
  replace HR := Lib.hid (HR.out.goes hG)
  replace c0 := HR.out.c0
  replace hrl := HR.out.lt
  have hs1 := HS.out.sz
  have hxl := HX.out.lt
  have hrw : r ≠ W1.heap.size := by omega
  have hxw : W.heap.size ≠ W1.heap.size := by omega
  clear hG HA
  go_wp2_with fail
  refine (HU1.out _ (HS.out.cur.alloc _)).mono ?_
  rintro E W2 ⟨rfl, hG⟩
  replace HS := Lib.hid ((HS.out.alloc _).goes hG)
  replace HX := Lib.hid ((HX.out.alloc _).goes hG)
  have HN := Lib.hid ((Lc.new W1 #[.int .u32 0, .int .u32 0, .bool (decide (x0 = 1))] 101 (by omega)).goes hG)
  rw [show decide (x0 = 1) = false from decide_eq_false hx] at HN
  have n0 := HN.out.c0
  have n1 := HN.out.c1
  have n2 := HN.out.c2
  have f0 := HN.out.fz 0
  have f1 := HN.out.fz 1
  have xx0 := HX.out.c0
  have xx1 := HX.out.c1
  have xx2 := HX.out.c2
  have g0 := HX.out.fz 0
  have g1 := HX.out.fz 1
  have g2 := HX.out.fz 2
  have hnl := HN.out.lt
  replace hxl := HX.out.lt
  clear hG HU1
  go_wp2_with fail
  refine bodyPost_ret (v := limV (x1, 0, false)) (by simp [results, Tryz.results113, go_sem, xx0, xx1, xx2, hxl, limV, hxw]) rfl ⟨rfl, St.fin (W := W) ?_⟩
  (repeat (first | with_reducible exact HS.out | (with_reducible refine St.set ?_ _ _ _ ?_; rotate_left; omega) | with_reducible refine St.alloc ?_ _ | with_reducible refine St.drew ?_))
set_option maxRecDepth 100000 in
set_option maxHeartbeats 1000000 in
theorem Global1_any (W : World) (p q r : Nat) (B : List Int) (a : Nat) (hC : Cur W p q B a 0) (hB : Byts B) (hr : Blk W r #[.pointer (some ⟨p, 0, none⟩)] 53) (hrp : r ≠ p) :
  Calls Tryz.prog 122 #[.pointer (some ⟨r, 0, none⟩)] W (FlatPost W p q B (gtyV (gty1M B a).1) (gty1M B a).2.1 (gty1M B a).2.2) := by
 have hpl := hC.lt
 have HS := Lib.hid ((St.start hC).alloc (.cells #[.int .u8 0, .bool false] 103))
 have HX := Lib.hid (Lc.new W #[.int .u8 0, .bool false] 103 hpl)
 have HR := Lib.hid ((⟨hr, hrp⟩ : Lc p W r #[.pointer (some ⟨p, 0, none⟩)] 53).alloc (.cells #[.int .u8 0, .bool false] 103))
 have HA := Lib.hid (Value_any _ p q B a 0 HS.out.cur hB)
 have c0 : W.cell? ⟨r, 0, none⟩ = some (.pointer (some ⟨p, 0, none⟩)) := hr.cell 0
 have hrl := hr.lt
 obtain ⟨R, hR⟩ : ∃ R, R = gty1M B a := ⟨_, rfl⟩
 rw [← hR]
 unfold gty1M at hR
 generalize rdOf (valM B a) a 0 = r0 at *
 obtain ⟨x0, a1, e1⟩ := r0
 dsimp only at hR
 have HU1 := Lib.hid (fun X l (h : Cur X p q B a1 e1) (hl : X.heap.size = l) => flag_any X p q l B a1 e1 h hB hl)
 generalize rdOf (amongM B a1 [0, 1] 107) a1 e1 = r1 at *
 obtain ⟨x1, a2, e2⟩ := r1
 dsimp only at hR
 subst hR
 clear hC hB hr hrp
 go_enter Tryz.func122, Tryz.ntmps122
 go_wp2_with fail
 refine HA.out.mono ?_
 rintro E W1 ⟨rfl, hG⟩
 replace HS := Lib.hid (HS.out.goes hG)
 replace HX := Lib.hid (HX.out.goes hG)
 replace HR := Lib.hid (HR.out.goes hG)
 replace c0 := HR.out.c0
 replace hrl := HR.out.lt
 have hs1 := HS.out.sz
 clear hG HA
 go_wp2_with fail
 refine (HU1.out _ _ HS.out.cur rfl).mono ?_
 rintro E W2 ⟨rfl, hG⟩
 replace HS := Lib.hid (HS.out.goes hG)
 replace HX := Lib.hid (HX.out.goes hG)
 have xx0 := HX.out.c0
 have xx1 := HX.out.c1
 have g0 := HX.out.fz 0
 have g1 := HX.out.fz 1
 have hxl := HX.out.lt
 clear hG HU1
 go_wp2_with fail
 refine bodyPost_ret (v := gtyV (x0, decide (x1 = 1))) (by simp [results, Tryz.results122, go_sem, xx0, xx1, hxl, gtyV]; rfl) rfl ⟨rfl, St.fin (W := W) ?_⟩
 (repeat (first | with_reducible exact HS.out | (with_reducible refine St.set ?_ _ _ _ ?_; rotate_left; omega) | with_reducible refine St.alloc ?_ _ | with_reducible refine St.drew ?_))
end Go.Proofs.YtofaiocffifhfaaGreat
end
section
namespace Go.Proofs.YtofaiocffifhfaaGreat
open Go.RowKit Go.Shelf YtofaiocffifhfaaGreatB Go.Proofs.YtofaiocffifhfaaGreatW.PrintWords
theorem ent_Limits1 : Enters Tryz.prog 113 := enters_of Tryz.func113 (by kernel_rfl) rfl
theorem ent_Table1 : Enters Tryz.prog 112 := enters_of Tryz.func112 (by kernel_rfl) rfl
theorem ent_Global1 : Enters Tryz.prog 122 := enters_of Tryz.func122 (by kernel_rfl) rfl
set_option maxRecDepth 100000 in
set_option maxHeartbeats 1000000 in
theorem Limits_any (W : World) (p q : Nat) (B : List Int) (a : Nat) (e : Int) (hC : Cur W p q B a e) (hB : Byts B) :
  Calls Tryz.prog 80 #[.pointer (some ⟨p, 0, none⟩)] W (FlatPost W p q B (limV (limM B a e).1) (limM B a e).2.1 (limM B a e).2.2) := by
 have hpl := hC.lt
 have HS := Lib.hid (((St.start hC).alloc (.cells #[.pointer (some ⟨p, 0, none⟩)] 53)).alloc (.cells #[.int .u32 0, .int .u32 0, .bool false] 101))
 have hb := (Blk.new W #[.pointer (some ⟨p, 0, none⟩)] 53).alloc (.cells #[.int .u32 0, .int .u32 0, .bool false] 101)
 have HX := Lib.hid (Lc.newAt (p := p) (W.alloc (.cells #[.pointer (some ⟨p, 0, none⟩)] 53)) #[.int .u32 0, .int .u32 0, .bool false] 101 (by rw [World.size_alloc]; omega) (World.size_alloc _ _))
 obtain ⟨R, hR⟩ : ∃ R, R = limM B a e := ⟨_, rfl⟩
 rw [← hR]
 have HK := Lib.hid (show Calls Tryz.prog 111 #[.pointer (some ⟨p, 0, none⟩), .func (.func 113) #[] #[.pointer (some ⟨W.heap.size, 0, none⟩)]] ((W.alloc (.cells #[.pointer (some ⟨p, 0, none⟩)] 53)).alloc (.cells #[.int .u32 0, .int .u32 0, .bool false] 101)) (FlatPost ((W.alloc (.cells #[.pointer (some ⟨p, 0, none⟩)] 53)).alloc (.cells #[.int .u32 0, .int .u32 0, .bool false] 101)) p q B (limV R.1) R.2.1 R.2.2) from by
  unfold limM rdBack at hR
  by_cases he : e = 0
  ·subst he
   rw [if_pos rfl] at hR
   have h1 := Limits1_any (((W.alloc (.cells #[.pointer (some ⟨p, 0, none⟩)] 53)).alloc (.cells #[.int .u32 0, .int .u32 0, .bool false] 101)).alloc (.cells #[.int .u32 0, .int .u32 0, .bool false] 101)) p q W.heap.size B a (HS.out.cur.alloc _) hB (hb.alloc _) (by omega)
   generalize lim1M B a = r at *
   obtain ⟨⟨x, y, z⟩, nx, e'⟩ := r
   have h := reads_lim _ p q B a nx 113 ent_Limits1 #[.pointer (some ⟨W.heap.size, 0, none⟩)] x y z e' HS.out.cur h1
   by_cases h' : e' = 0
   ·subst h'
    rw [if_pos rfl, if_pos rfl] at h
    rw [if_pos rfl] at hR
    subst hR
    exact h
   ·rw [if_neg h', if_neg h'] at h
    rw [if_neg h'] at hR
    subst hR
    exact h
  ·rw [if_neg he] at hR
   subst hR
   exact reads_bad_lim _ p q B a e _ HS.out.cur (beq_eq_false_iff_ne.2 he))
 clear hR hC hB hb
 obtain ⟨⟨x, y, z⟩, nx, e'⟩ := R
 dsimp only [limV] at HK ⊢
 go_enter Tryz.func80, Tryz.ntmps80
 go_wp2_with fail
 refine HK.out.mono ?_
 rintro E W1 ⟨rfl, hG⟩
 replace HS := Lib.hid (HS.out.goes hG)
 replace HX := Lib.hid (HX.out.goes hG)
 have x0 := HX.out.c0
 have x1 := HX.out.c1
 have x2 := HX.out.c2
 have y0 := HX.out.fz 0
 have y1 := HX.out.fz 1
 have y2 := HX.out.fz 2
 have xl := HX.out.lt
 clear hG HK
 go_wp2_with fail
 refine bodyPost_ret (v := limV ⟨x, y, z⟩) (by simp [results, Tryz.results80, go_sem, x0, x1, x2, xl, limV]) rfl ⟨rfl, St.fin (W := W) ?_⟩
 (repeat (first | with_reducible exact HS.out | (with_reducible refine St.set ?_ _ _ _ ?_; rotate_left; omega) | with_reducible refine St.alloc ?_ _ | with_reducible refine St.drew ?_))
set_option maxRecDepth 100000 in
set_option maxHeartbeats 1000000 in
theorem Global_any (W : World) (p q : Nat) (B : List Int) (a : Nat) (e : Int) (hC : Cur W p q B a e) (hB : Byts B) :
  Calls Tryz.prog 110 #[.pointer (some ⟨p, 0, none⟩)] W (FlatPost W p q B (gtyV (gtyM B a e).1) (gtyM B a e).2.1 (gtyM B a e).2.2) := by
 have hpl := hC.lt
 have HS := Lib.hid (((St.start hC).alloc (.cells #[.pointer (some ⟨p, 0, none⟩)] 53)).alloc (.cells #[.int .u8 0, .bool false] 103))
 have hb := (Blk.new W #[.pointer (some ⟨p, 0, none⟩)] 53).alloc (.cells #[.int .u8 0, .bool false] 103)
 have HX := Lib.hid (Lc.newAt (p := p) (W.alloc (.cells #[.pointer (some ⟨p, 0, none⟩)] 53)) #[.int .u8 0, .bool false] 103 (by rw [World.size_alloc]; omega) (World.size_alloc _ _))
 obtain ⟨R, hR⟩ : ∃ R, R = gtyM B a e := ⟨_, rfl⟩
 rw [← hR]
 have HK := Lib.hid (show Calls Tryz.prog 121 #[.pointer (some ⟨p, 0, none⟩), .func (.func 122) #[] #[.pointer (some ⟨W.heap.size, 0, none⟩)]] ((W.alloc (.cells #[.pointer (some ⟨p, 0, none⟩)] 53)).alloc (.cells #[.int .u8 0, .bool false] 103)) (FlatPost ((W.alloc (.cells #[.pointer (some ⟨p, 0, none⟩)] 53)).alloc (.cells #[.int .u8 0, .bool false] 103)) p q B (gtyV R.1) R.2.1 R.2.2) from by
  unfold gtyM rdBack at hR
  by_cases he : e = 0
  ·subst he
   rw [if_pos rfl] at hR
   have h1 := Global1_any (((W.alloc (.cells #[.pointer (some ⟨p, 0, none⟩)] 53)).alloc (.cells #[.int .u8 0, .bool false] 103)).alloc (.cells #[.int .u8 0, .bool false] 103)) p q W.heap.size B a (HS.out.cur.alloc _) hB (hb.alloc _) (by omega)
   generalize gty1M B a = r at *
   obtain ⟨⟨x, z⟩, nx, e'⟩ := r
   have h := reads_gty _ p q B a nx 122 ent_Global1 #[.pointer (some ⟨W.heap.size, 0, none⟩)] x 0 z e' HS.out.cur h1
   by_cases h' : e' = 0
   ·subst h'
    rw [if_pos rfl, if_pos rfl] at h
    rw [if_pos rfl] at hR
    subst hR
    exact h
   ·rw [if_neg h', if_neg h'] at h
    rw [if_neg h'] at hR
    subst hR
    exact h
  ·rw [if_neg he] at hR
   subst hR
   exact reads_bad_gty _ p q B a e _ HS.out.cur (beq_eq_false_iff_ne.2 he))
 clear hR hC hB hb
 obtain ⟨⟨x, z⟩, nx, e'⟩ := R
 dsimp only [gtyV] at HK ⊢
 go_enter Tryz.func110, Tryz.ntmps110
 go_wp2_with fail
 refine HK.out.mono ?_
 rintro E W1 ⟨rfl, hG⟩
 replace HS := Lib.hid (HS.out.goes hG)
 replace HX := Lib.hid (HX.out.goes hG)
 have x0 := HX.out.c0
 have x1 := HX.out.c1
 have x2 := HX.out.c1
 have y0 := HX.out.fz 0
 have y1 := HX.out.fz 1
 have y2 := HX.out.fz 1
 have xl := HX.out.lt
 clear hG HK
 go_wp2_with fail
 refine bodyPost_ret (v := gtyV ⟨x, z⟩) (by simp [results, Tryz.results110, go_sem, x0, x1, x2, xl, gtyV]) rfl ⟨rfl, St.fin (W := W) ?_⟩
 (repeat (first | with_reducible exact HS.out | (with_reducible refine St.set ?_ _ _ _ ?_; rotate_left; omega) | with_reducible refine St.alloc ?_ _ | with_reducible refine St.drew ?_))
end Go.Proofs.YtofaiocffifhfaaGreat
end
section
namespace Go.Proofs.YtofaiocffifhfaaGreat
open Go.RowKit Go.Shelf YtofaiocffifhfaaGreatB Go.Proofs.YtofaiocffifhfaaGreatW.PrintWords
set_option maxRecDepth 100000 in
set_option maxHeartbeats 1000000 in
theorem Table1_any (W : World) (p q r : Nat) (B : List Int) (a : Nat) (hC : Cur W p q B a 0) (hB : Byts B) (hr : Blk W r #[.pointer (some ⟨p, 0, none⟩)] 53) (hrp : r ≠ p) :
  Calls Tryz.prog 112 #[.pointer (some ⟨r, 0, none⟩)] W (FlatPost W p q B (limV (tab1M B a).1) (tab1M B a).2.1 (tab1M B a).2.2) := by
 have hpl := hC.lt
 have HS := Lib.hid ((St.start hC).alloc (.cells #[.int .u32 0, .int .u32 0, .bool false] 101))
 have HX := Lib.hid (Lc.new W #[.int .u32 0, .int .u32 0, .bool false] 101 hpl)
 have HR := Lib.hid ((⟨hr, hrp⟩ : Lc p W r #[.pointer (some ⟨p, 0, none⟩)] 53).alloc (.cells #[.int .u32 0, .int .u32 0, .bool false] 101))
 have HA := Lib.hid (among_any _ p q (W.heap.size + 1) B a 0 106 (some ⟨W.heap.size + 1, 0, none⟩) 1 [112] (HS.out.cur.alloc (.cells (([112] : List Int).map (Value.int .u8)).toArray 5)) hB rfl (by omega) (by have := lit_ByQ (W.alloc (.cells #[.int .u32 0, .int .u32 0, .bool false] 101)) [112] 5; rw [World.size_alloc] at this; exact this) (by decide))
 have c0 : W.cell? ⟨r, 0, none⟩ = some (.pointer (some ⟨p, 0, none⟩)) := hr.cell 0
 have hrl := hr.lt
 obtain ⟨R, hR⟩ : ∃ R, R = tab1M B a := ⟨_, rfl⟩
 rw [← hR]
 unfold tab1M at hR
 generalize rdOf (amongM B a [112] 106) a 0 = r0 at *
 obtain ⟨x0, a1, e1⟩ := r0
 dsimp only at hR
 have HU1 := Lib.hid (fun X (h : Cur X p q B a1 e1) => Limits_any X p q B a1 e1 h hB)
 rw [← hR] at HU1
 obtain ⟨⟨x, y, z⟩, a2, e2⟩ := R
 dsimp only [limV] at HU1 ⊢
 clear hC hB hr hrp hR
 go_enter Tryz.func112, Tryz.ntmps112
 go_wp2_with fail
 refine HA.out.mono ?_
 rintro E W1 ⟨rfl, hG0⟩
 have hG := Goes.of_alloc hG0
 replace HS := Lib.hid (HS.out.goes hG)
 replace HX := Lib.hid (HX.out.goes hG)
 replace HR := Lib.hid (HR.out.goes hG)
 replace c0 := HR.out.c0
 replace hrl := HR.out.lt
 have hs1 := HS.out.sz
 clear hG hG0 HA
 go_wp2_with fail
 refine (HU1.out _ HS.out.cur).mono ?_
 rintro E W2 ⟨rfl, hG⟩
 replace HS := Lib.hid (HS.out.goes hG)
 replace HX := Lib.hid (HX.out.goes hG)
 have xx0 := HX.out.c0
 have xx1 := HX.out.c1
 have xx2 := HX.out.c2
 have g0 := HX.out.fz 0
 have g1 := HX.out.fz 1
 have g2 := HX.out.fz 2
 have hxl := HX.out.lt
 clear hG HU1
 go_wp2_with fail
 refine bodyPost_ret (v := limV (x, y, z)) (by simp [results, Tryz.results112, go_sem, xx0, xx1, xx2, hxl, limV]) rfl ⟨rfl, St.fin (W := W) ?_⟩
 (repeat (first | with_reducible exact HS.out | (with_reducible refine St.set ?_ _ _ _ ?_; rotate_left; omega) | with_reducible refine St.alloc ?_ _ | with_reducible refine St.drew ?_))
set_option maxRecDepth 100000 in
set_option maxHeartbeats 1000000 in
theorem Table_any (W : World) (p q : Nat) (B : List Int) (a : Nat) (e : Int) (hC : Cur W p q B a e) (hB : Byts B) :
  Calls Tryz.prog 79 #[.pointer (some ⟨p, 0, none⟩)] W (FlatPost W p q B (limV (tabM B a e).1) (tabM B a e).2.1 (tabM B a e).2.2) := by
 have hpl := hC.lt
 have HS := Lib.hid (((St.start hC).alloc (.cells #[.pointer (some ⟨p, 0, none⟩)] 53)).alloc (.cells #[.int .u32 0, .int .u32 0, .bool false] 101))
 have hb := (Blk.new W #[.pointer (some ⟨p, 0, none⟩)] 53).alloc (.cells #[.int .u32 0, .int .u32 0, .bool false] 101)
 have HX := Lib.hid (Lc.newAt (p := p) (W.alloc (.cells #[.pointer (some ⟨p, 0, none⟩)] 53)) #[.int .u32 0, .int .u32 0, .bool false] 101 (by rw [World.size_alloc]; omega) (World.size_alloc _ _))
 obtain ⟨R, hR⟩ : ∃ R, R = tabM B a e := ⟨_, rfl⟩
 rw [← hR]
 have HK := Lib.hid (show Calls Tryz.prog 111 #[.pointer (some ⟨p, 0, none⟩), .func (.func 112) #[] #[.pointer (some ⟨W.heap.size, 0, none⟩)]] ((W.alloc (.cells #[.pointer (some ⟨p, 0, none⟩)] 53)).alloc (.cells #[.int .u32 0, .int .u32 0, .bool false] 101)) (FlatPost ((W.alloc (.cells #[.pointer (some ⟨p, 0, none⟩)] 53)).alloc (.cells #[.int .u32 0, .int .u32 0, .bool false] 101)) p q B (limV R.1) R.2.1 R.2.2) from by
  unfold tabM rdBack at hR
  by_cases he : e = 0
  ·subst he
   rw [if_pos rfl] at hR
   have h1 := Table1_any (((W.alloc (.cells #[.pointer (some ⟨p, 0, none⟩)] 53)).alloc (.cells #[.int .u32 0, .int .u32 0, .bool false] 101)).alloc (.cells #[.int .u32 0, .int .u32 0, .bool false] 101)) p q W.heap.size B a (HS.out.cur.alloc _) hB (hb.alloc _) (by omega)
   generalize tab1M B a = r at *
   obtain ⟨⟨x, y, z⟩, nx, e'⟩ := r
   have h := reads_lim _ p q B a nx 112 ent_Table1 #[.pointer (some ⟨W.heap.size, 0, none⟩)] x y z e' HS.out.cur h1
   by_cases h' : e' = 0
   ·subst h'
    rw [if_pos rfl, if_pos rfl] at h
    rw [if_pos rfl] at hR
    subst hR
    exact h
   ·rw [if_neg h', if_neg h'] at h
    rw [if_neg h'] at hR
    subst hR
    exact h
  ·rw [if_neg he] at hR
   subst hR
   exact reads_bad_lim _ p q B a e _ HS.out.cur (beq_eq_false_iff_ne.2 he))
 clear hR hC hB hb
 obtain ⟨⟨x, y, z⟩, nx, e'⟩ := R
 dsimp only [limV] at HK ⊢
 go_enter Tryz.func79, Tryz.ntmps79
 go_wp2_with fail
 refine HK.out.mono ?_
 rintro E W1 ⟨rfl, hG⟩
 replace HS := Lib.hid (HS.out.goes hG)
 replace HX := Lib.hid (HX.out.goes hG)
 have x0 := HX.out.c0
 have x1 := HX.out.c1
 have x2 := HX.out.c2
 have y0 := HX.out.fz 0
 have y1 := HX.out.fz 1
 have y2 := HX.out.fz 2
 have xl := HX.out.lt
 clear hG HK
 go_wp2_with fail
 refine bodyPost_ret (v := limV ⟨x, y, z⟩) (by simp [results, Tryz.results79, go_sem, x0, x1, x2, xl, limV]) rfl ⟨rfl, St.fin (W := W) ?_⟩
 (repeat (first | with_reducible exact HS.out | (with_reducible refine St.set ?_ _ _ _ ?_; rotate_left; omega) | with_reducible refine St.alloc ?_ _ | with_reducible refine St.drew ?_))
end Go.Proofs.YtofaiocffifhfaaGreat
end
section
namespace Go.Proofs.YtofaiocffifhfaaGreat
open Go.RowKit Go.Shelf YtofaiocffifhfaaGreatB Go.Proofs.YtofaiocffifhfaaGreatW.PrintWords
def knM (B : List Int) (a : Nat) (e : Int) : Int × Nat × Int :=
 let b := rdByte B a e
 (b.1, b.2.1, if 3 < b.1 then failE b.2.2 107 else b.2.2)
theorem rdByte_b {B : List Int} {a : Nat} {e : Int} (hB : Byts B) : 0 ≤ (rdByte B a e).1 ∧ (rdByte B a e).1 ≤ 255 := by
 unfold rdByte
 split
 ·cases h : B[a]? with
  | none => simp
  | some x => exact hB.get h
 ·simp
set_option maxRecDepth 100000 in
theorem kind_any (W : World) (p q : Nat) (B : List Int) (a : Nat) (e : Int) (sat : Bool) (hC : Cur W p q B a e) (hB : Byts B) :
  Calls Tryz.prog 109 #[.agg #[.pointer (some ⟨p, 0, none⟩), .bool sat]] W (FlatPost W p q B (.int .i64 (knM B a e).1) (knM B a e).2.1 (knM B a e).2.2) := by
 have hpl := hC.lt
 have HS := Lib.hid ((St.start hC).alloc (.cells #[.pointer (some ⟨p, 0, none⟩), .bool sat] 67))
 have HX := Lib.hid (Lc.new W #[.pointer (some ⟨p, 0, none⟩), .bool sat] 67 hpl)
 have HA := Lib.hid (Byte_any _ p q B a e HS.out.cur hB)
 have hbb := rdByte_b (a := a) (e := e) hB
 obtain ⟨R, hR⟩ : ∃ R, R = knM B a e := ⟨_, rfl⟩
 rw [← hR]
 unfold knM at hR
 generalize rdByte B a e = r0 at *
 obtain ⟨x0, a1, e1⟩ := r0
 dsimp only at hR hbb
 clear hC hB
 by_cases hx : 3 < x0
 ·rw [if_pos hx] at hR
  subst hR
  go_enter Tryz.func109, Tryz.ntmps109
  go_wp2_with fail
  refine HA.out.mono ?_
  rintro E W1 ⟨rfl, hG⟩
  replace HS := Lib.hid (HS.out.goes hG)
  replace HX := Lib.hid (HX.out.goes hG)
  have c0 := HX.out.c0
  have hxl := HX.out.lt
  clear hG HA
  go_wp2_with fail
  refine (Fail_any _ p q B a1 e1 107 HS.out.cur rfl).mono ?_
  rintro E W2 ⟨rfl, hG⟩
  replace HS := Lib.hid (HS.out.goes hG)
  clear hG
  go_wp2_with fail
  go_ret
  exact ⟨rfl, HS.out.fin⟩
 ·rw [if_neg hx] at hR
  subst hR
  go_enter Tryz.func109, Tryz.ntmps109
  go_wp2_with fail
  refine HA.out.mono ?_
  rintro E W1 ⟨rfl, hG⟩
  replace HS := Lib.hid (HS.out.goes hG)
  clear hG HA
  go_wp2_with fail
  go_ret
  exact ⟨rfl, HS.out.fin⟩
set_option maxRecDepth 100000 in
theorem pexpr_any (W : World) (p q : Nat) (B : List Int) (a : Nat) (e : Int) (sat : Bool) (hC : Cur W p q B a e) (hB : Byts B) :
  Calls Tryz.prog 114 #[.agg #[.pointer (some ⟨p, 0, none⟩), .bool sat]] W (ExprPost W p q B (exprM sat B a e)) := by
 have hpl := hC.lt
 have HX := Lib.hid (Lc.new W #[.pointer (some ⟨p, 0, none⟩), .bool sat] 67 hpl)
 have c0 := HX.out.c0
 have c1 := HX.out.c1
 have HE := Lib.hid (Expr_any _ p q sat B a e (hC.alloc (.cells #[.pointer (some ⟨p, 0, none⟩), .bool sat] 67)) hB)
 generalize exprM sat B a e = r at *
 clear hC hB
 go_enter Tryz.func114, Tryz.ntmps114
 go_wp2_with fail
 refine HE.out.mono ?_
 rintro E W1 ⟨⟨A, c, rfl, hl, hF⟩, hG⟩
 have HF := Lib.hid hF
 have HG := Lib.hid (Goes.of_alloc hG)
 clear hF hG HE c0 c1
 go_wp2_with fail
 go_ret
 exact ⟨⟨A, c, rfl, hl, HF.out.mono (fun k hk => by rw [World.size_alloc] at hk; omega)⟩, HG.out⟩
theorem knM_b {B : List Int} {a : Nat} {e : Int} (hB : Byts B) : 0 ≤ (knM B a e).1 ∧ (knM B a e).1 ≤ 4294967295 := by
 have := rdByte_b (a := a) (e := e) hB
 unfold knM
 dsimp only
 omega
end Go.Proofs.YtofaiocffifhfaaGreat
end
section
namespace Go.Proofs.YtofaiocffifhfaaGreat
open Go.RowKit Go.Shelf YtofaiocffifhfaaGreatB Go.Proofs.YtofaiocffifhfaaGreatW.PrintWords
def secM {α : Type} (step : α → Int → Nat → α × Nat × Int) (B : List Int) : Nat → α → Int → Nat → Int → α × Nat × Int
 | 0, M, _, a, e => (M, a, e)
 | f + 1, M, hi, a, e => if e = 0 then (match B[a]? with
  | none => (M, a, 0)
  | some n => if 11 < n ∨ (0 < n ∧ n ≤ hi) then (M, a + 1, 104) else secM step B f (step M n (a + 1)).1 (if hi < n then n else hi) (step M n (a + 1)).2.1 (step M n (a + 1)).2.2)
  else (M, a, e)
theorem secM_bad {α : Type} (step : α → Int → Nat → α × Nat × Int) (B : List Int) (f : Nat) (M : α) (hi : Int) (a : Nat) (e : Int) (he : ¬ e = 0) : secM step B f M hi a e = (M, a, e) := by
 cases f with
 | zero => rfl
 | succ f => rw [secM, if_neg he]
theorem G2_low {W W2 X : World} {p m : Nat} (h : Below W.heap.size W W2) (h' : G2 W2 X p m) : G2 W X p m := (G2.of_grown (grown_below h none) (fun k e => by cases e)).trans h'
def SecPost {α : Type} (I : World → α → Nat → Prop) (W : World) (p q m : Nat) (B : List Int) (r : α × Nat × Int) (E : Ending) (w' : World) : Prop :=
 E = .returned (.tuple #[]) ∧ (∃ a, I w' r.1 a) ∧ Cur w' p q B r.2.1 r.2.2 ∧ G2 W w' p m
def StepOk {α : Type} (I : World → α → Nat → Prop) (step : α → Int → Nat → α × Nat × Int) (W : World) (p q m : Nat) (B : List Int) (sat : Bool) : Prop :=
 ∀ (X : World) (M : α) (a : Nat) (n : Int) (bm bn : Nat), W.heap.size ≤ X.heap.size → I X M a → Cur X p q B (a + 1) 0 → B[a]? = some n → 0 ≤ n → n ≤ 11 → X.cell? ⟨bm, 0, none⟩ = some (.pointer (some ⟨m, 0, none⟩)) → X.cell? ⟨bn, 0, none⟩ = some (.int .u8 n) → bm ≠ p → bn ≠ p →
  Calls Tryz.prog 42 #[.agg #[.pointer (some ⟨p, 0, none⟩), .bool sat], .func (.func 43) #[] #[.pointer (some ⟨bm, 0, none⟩), .pointer (some ⟨bn, 0, none⟩)]] X fun E Y =>
   E = .returned (.tuple #[]) ∧ I Y (step M n (a + 1)).1 (step M n (a + 1)).2.1 ∧ Cur Y p q B (step M n (a + 1)).2.1 (step M n (a + 1)).2.2 ∧ G2 X Y p m ∧ ((step M n (a + 1)).2.2 = 0 → a + 1 ≤ (step M n (a + 1)).2.1)
set_option maxRecDepth 100000 in
set_option maxHeartbeats 2000000 in
theorem sections_gen {α : Type} (I : World → α → Nat → Prop) (step : α → Int → Nat → α × Nat × Int) (W : World) (p q m : Nat) (B : List Int) (sat : Bool) (M0 : α) (hC : Cur W p q B 0 0) (hB : Byts B) (hm : m < W.heap.size) (hmp : m ≠ p) (hI : I W M0 0)
  (hmove : ∀ X Y M a, I X M a → X.grownBy Y (some p) → I Y M a) (hstep : StepOk I step W p q m B sat) :
  Calls Tryz.prog 17 #[.pointer (some ⟨m, 0, none⟩), .agg #[.pointer (some ⟨p, 0, none⟩), .bool sat]] W (SecPost I W p q m B (secM step B (B.length + 1) M0 0 0 0)) := by
 have hpl := hC.lt
 obtain ⟨tg, htg⟩ : ∃ tg, secM step B (B.length + 1) M0 0 0 0 = tg := ⟨_, rfl⟩
 rw [htg]
 have HB := Lib.hid hB
 have HMP := Lib.hid hmp
 have HMV := Lib.hid hmove
 have HST := Lib.hid hstep
 have hb2 := (Blk.new W #[.pointer (some ⟨m, 0, none⟩)] 68).alloc (.cells #[.pointer (some ⟨p, 0, none⟩), .bool sat] 67)
 have hb3 := Blk.new (W.alloc (.cells #[.pointer (some ⟨m, 0, none⟩)] 68)) #[.pointer (some ⟨p, 0, none⟩), .bool sat] 67
 rw [World.size_alloc] at hb3
 have HW2 := Lib.hid (show Below W.heap.size W ((W.alloc (.cells #[.pointer (some ⟨m, 0, none⟩)] 68)).alloc (.cells #[.pointer (some ⟨p, 0, none⟩), .bool sat] 67)) from ((Below.refl _ _).alloc (Nat.le_refl _) _).alloc (by rw [World.size_alloc]; omega) _)
 have HC2 := Lib.hid ((hC.alloc (.cells #[.pointer (some ⟨m, 0, none⟩)] 68)).alloc (.cells #[.pointer (some ⟨p, 0, none⟩), .bool sat] 67))
 have HI2 := Lib.hid (hmove _ _ _ _ hI (grown_below HW2.out (some p)))
 have HTG := Lib.hid htg
 have hW2 : W.heap.size + 2 ≤ ((W.alloc (.cells #[.pointer (some ⟨m, 0, none⟩)] 68)).alloc (.cells #[.pointer (some ⟨p, 0, none⟩), .bool sat] 67)).heap.size := by rw [World.size_alloc, World.size_alloc]; omega
 clear hC hB hmp hmove hstep hI htg
 go_enter Tryz.func17, Tryz.ntmps17
 go_wp2_with fail
 generalize (W.alloc (.cells #[.pointer (some ⟨m, 0, none⟩)] 68)).alloc (.cells #[.pointer (some ⟨p, 0, none⟩), .bool sat] 67) = W2 at *
 go_loopw [4] (fun v wr => ∃ (f : Nat) (M : α) (hi : Int) (a ai : Nat) (e : Int), v = .int .u8 hi ∧ 0 ≤ hi ∧ hi ≤ 11 ∧ Hid (I wr M ai ∧ (e = 0 → ai = a)) ∧ Hid (Cur wr p q B a e) ∧ Hid (G2 W2 wr p m) ∧ Hid (secM step B f M hi a e = tg ∧ (e = 0 → B.length < a + f))) (fun _ wr => curMeas wr p B.length)
 case atStart => exact ⟨B.length + 1, M0, 0, 0, 0, 0, rfl, by omega, by omega, ⟨HI2.out, fun _ => rfl⟩, HC2, G2.refl _ _ _, HTG.out, fun _ => by omega⟩
 case round =>
  obtain ⟨f, M, hi, a, ai, e, rfl, hi0, hi1, HI, HC, HG, HS⟩ := hrel
  have hx3 := hb3.g2 HG.out (by omega) (by omega)
  have hx2 := hb2.g2 HG.out (by omega) (by omega)
  have b0 : wr.cell? ⟨W.heap.size + 1, 0, none⟩ = some (.pointer (some ⟨p, 0, none⟩)) := hx3.cell 0
  have b1 : wr.cell? ⟨W.heap.size + 1, 1, none⟩ = some (.bool sat) := hx3.cell 1
  have hl3 := hx3.lt
  have HX2 := Lib.hid hx2
  have HX3 := Lib.hid hx3
  clear hx2 hx3
  by_cases he : e = 0
  ·subst he
   have HPG := Lib.hid (pgood_any wr p q B a 0 sat true HC.out rfl)
   have hx3 := (HX3.out.alloc (.cells #[.pointer (some ⟨p, 0, none⟩), .bool sat] 67))
   have d0 : (wr.alloc (.cells #[.pointer (some ⟨p, 0, none⟩), .bool sat] 67)).cell? ⟨W.heap.size + 1, 0, none⟩ = some (.pointer (some ⟨p, 0, none⟩)) := hx3.cell 0
   have HL := Lib.hid (left_any _ p q B a 0 (HC.out.alloc (.cells #[.pointer (some ⟨p, 0, none⟩), .bool sat] 67)) HB.out)
   clear hx3
   go_wp2_with fail
   refine HPG.out.mono ?_
   rintro E w' ⟨rfl, rfl⟩
   go_wp2_with fail
   refine HL.out.mono ?_
   rintro E W3 ⟨rfl, hG3⟩
   have hG3w : Goes wr W3 p q B a 0 := Goes.of_alloc hG3
   have hz3 := hG3w.2.size
   have hxl3 := HX3.out.lt
   have hx3 := HX3.out.grown hG3w.2 (fun e => by injection e with e; omega)
   have hx2 := HX2.out.grown hG3w.2 (fun e => by injection e with e; omega)
   have HX32 := Lib.hid hx2
   have HX33 := Lib.hid hx3
   have d0 : W3.cell? ⟨W.heap.size + 1, 0, none⟩ = some (.pointer (some ⟨p, 0, none⟩)) := hx3.cell 0
   have d1 : W3.cell? ⟨W.heap.size + 1, 1, none⟩ = some (.bool sat) := hx3.cell 1
   have hl3 := hx3.lt
   have HC3 := Lib.hid hG3w.1
   have HG3 := Lib.hid hG3w.2
   have HGA := Lib.hid (HG.out.grown hG3w.2 (fun r e => by injection e with e; left; exact e.symm))
   clear hG3 hG3w hx2 hx3 HL HPG b0 b1
   have hal := HC.out.2.1
   by_cases h7 : a < B.length
   ·have h8 : decide ((B.length : Int) - (a : Int) > 0) = true := by simp; omega
    obtain ⟨n, hn⟩ : ∃ n, B[a]? = some n := ⟨_, List.getElem?_eq_getElem h7⟩
    have hnb := HB.out.get hn
    have HBY := Lib.hid (Byte_any W3 p q B a 0 HC3.out HB.out)
    rw [show rdByte B a 0 = (n, a + 1, 0) from by rw [rdByte, if_pos rfl, hn]] at HBY
    have HN := Lib.hid hn
    have H7 := Lib.hid h7
    clear hn h7
    go_wp2_with fail
    refine HBY.out.mono ?_
    rintro E W4 ⟨rfl, hG4⟩
    have hG4 : Goes W3 W4 p q B (a + 1) 0 := hG4
    have hz4 := hG4.2.size
    have hx3 := (HX33.out.grown hG4.2 (fun e => by injection e with e; omega)).alloc (.cells #[.int .u8 n] 5)
    have hx2 := (HX32.out.grown hG4.2 (fun e => by injection e with e; omega)).alloc (.cells #[.int .u8 n] 5)
    have hxn := Blk.new W4 #[.int .u8 n] 5
    have e0 : (W4.alloc (.cells #[.int .u8 n] 5)).cell? ⟨W.heap.size + 1, 0, none⟩ = some (.pointer (some ⟨p, 0, none⟩)) := hx3.cell 0
    have e1 : (W4.alloc (.cells #[.int .u8 n] 5)).cell? ⟨W.heap.size + 1, 1, none⟩ = some (.bool sat) := hx3.cell 1
    have e2 : (W4.alloc (.cells #[.int .u8 n] 5)).cell? ⟨W4.heap.size, 0, none⟩ = some (.int .u8 n) := hxn.cell 0
    have HX42 := Lib.hid hx2
    have HX43 := Lib.hid hx3
    have HX4n := Lib.hid hxn
    have HC4 := Lib.hid (hG4.1.alloc (.cells #[.int .u8 n] 5))
    have HG4 := Lib.hid ((HG3.out.trans hG4.2).trans (World.grownBy_alloc W4 (.cells #[.int .u8 n] 5) (some p)))
    have HGB := Lib.hid ((HGA.out.grown hG4.2 (fun r e => by injection e with e; left; exact e.symm)).alloc (.cells #[.int .u8 n] 5))
    obtain ⟨f, rfl⟩ : ∃ g, f = g + 1 := ⟨f - 1, by have := HS.out.2 (by trivial); have := H7.out; omega⟩
    have hst := HS.out.1
    rw [secM, if_pos rfl, HN.out] at hst
    dsimp only at hst
    clear hG4 hx2 hx3 hxn d0 d1
    have hnn : 0 ≤ n := hnb.1
    clear hnb
    by_cases hbad : 11 < n ∨ (0 < n ∧ n ≤ hi)
    ·rw [if_pos hbad] at hst
     have HF := Lib.hid (Fail_any _ p q B (a + 1) 0 104 HC4.out rfl)
     have HT := Lib.hid hst
     clear hst
     rcases hbad with hb | ⟨hb1, hb2⟩
     ·go_wp2_with fail
      refine HF.out.mono ?_
      rintro E W5 ⟨rfl, hG5⟩
      have hG5 : Goes _ W5 p q B (a + 1) 104 := hG5
      have HG5 := Lib.hid hG5
      clear hG5
      go_wp2_with fail
      go_end0
      rw [← HT.out]
      exact ⟨rfl, ⟨ai, HMV.out _ _ _ _ (HMV.out _ _ _ _ HI.out.1 HG4.out) HG5.out.2⟩, HG5.out.1, (G2_low HW2.out HGB.out).grown HG5.out.2 (fun r e => by injection e with e; left; exact e.symm)⟩
     ·have hb0 : ¬ 11 < n := by omega
      go_wp2_with fail
      refine HF.out.mono ?_
      rintro E W5 ⟨rfl, hG5⟩
      have hG5 : Goes _ W5 p q B (a + 1) 104 := hG5
      have HG5 := Lib.hid hG5
      clear hG5
      go_wp2_with fail
      go_end0
      rw [← HT.out]
      exact ⟨rfl, ⟨ai, HMV.out _ _ _ _ (HMV.out _ _ _ _ HI.out.1 HG4.out) HG5.out.2⟩, HG5.out.1, (G2_low HW2.out HGB.out).grown HG5.out.2 (fun r e => by injection e with e; left; exact e.symm)⟩
    ·rw [if_neg hbad] at hst
     have hb0 : ¬ 11 < n := fun h => hbad (.inl h)
     have hb1 : ¬ (0 < n ∧ n ≤ hi) := fun h => hbad (.inr h)
     clear hbad
     have HW := Lib.hid (HST.out _ M a n W.heap.size W4.heap.size (by have := HG4.out.size; have := HG.out.size; omega) (HMV.out _ _ _ _ (by have h := HI.out.1; rw [HI.out.2 (by trivial)] at h; exact h) HG4.out) HC4.out HN.out hnn (by omega) (HX42.out.cell 0) (HX4n.out.cell 0) (by omega) (by have := HG.out.size; omega))
     generalize step M n (a + 1) = r at *
     obtain ⟨M', a', e'⟩ := r
     dsimp only at hst HW
     have HT := Lib.hid hst
     clear hst
     rcases Int.lt_or_eq_of_le hnn with h0 | h0
     ·have hb2 : hi < n := by omega
      have hb3 : ¬ n ≤ hi := by omega
      rw [if_pos hb2] at HT
      clear hb1
      go_wp2_with fail
      refine HW.out.mono ?_
      rintro E W5 ⟨rfl, hI5, hC5, hG5, ha5⟩
      have HI5 := Lib.hid hI5
      have HC5 := Lib.hid hC5
      have HG5 := Lib.hid hG5
      have HA5 := Lib.hid ha5
      clear hI5 hC5 hG5 ha5
      go_wp2_with fail
      go_roundw
      case rel => exact ⟨f, M', _, a', a', e', rfl, by omega, by omega, ⟨HI5.out, fun _ => rfl⟩, HC5.out, HGB.out.trans HG5.out, HT.out, fun h => by have := HA5.out h; have := HS.out.2 (by trivial); omega⟩
      case measure =>
       rw [curMeas_eq HC5.out, curMeas_eq HC.out, if_pos rfl]
       split
       ·rename_i h; have := HA5.out h; omega
       ·omega
     ·subst h0
      rw [if_neg (by omega)] at HT
      clear hb1
      go_wp2_with fail
      refine HW.out.mono ?_
      rintro E W5 ⟨rfl, hI5, hC5, hG5, ha5⟩
      have HI5 := Lib.hid hI5
      have HC5 := Lib.hid hC5
      have HG5 := Lib.hid hG5
      have HA5 := Lib.hid ha5
      clear hI5 hC5 hG5 ha5
      go_wp2_with fail
      go_roundw
      case rel => exact ⟨f, M', _, a', a', e', rfl, by omega, by omega, ⟨HI5.out, fun _ => rfl⟩, HC5.out, HGB.out.trans HG5.out, HT.out, fun h => by have := HA5.out h; have := HS.out.2 (by trivial); omega⟩
      case measure =>
       rw [curMeas_eq HC5.out, curMeas_eq HC.out, if_pos rfl]
       split
       ·rename_i h; have := HA5.out h; omega
       ·omega
   ·have h8 : decide ((B.length : Int) - (a : Int) > 0) = false := by simp; omega
    have ht := HS.out.1
    have hn : B[a]? = none := List.getElem?_eq_none (by omega)
    obtain ⟨f, rfl⟩ : ∃ g, f = g + 1 := ⟨f - 1, by have := HS.out.2 (by trivial); omega⟩
    rw [secM, if_pos rfl, hn] at ht
    have HT := Lib.hid ht
    clear ht hn
    go_wp2_with fail
    go_end0
    rw [← HT.out]
    exact ⟨rfl, ⟨ai, HMV.out _ _ _ _ HI.out.1 HG3.out⟩, HC3.out, G2_low HW2.out HGA.out⟩
  ·have he2 : (e == 0) = false := beq_eq_false_iff_ne.2 he
   have HPG := Lib.hid (pgood_any wr p q B a e sat false HC.out he2)
   have ht := HS.out.1
   rw [secM_bad _ _ _ _ _ _ _ he] at ht
   have HT := Lib.hid ht
   clear ht he he2
   go_wp2_with fail
   refine HPG.out.mono ?_
   rintro E w' ⟨rfl, rfl⟩
   go_wp2_with fail
   go_end0
   rw [← HT.out]
   exact ⟨rfl, ⟨ai, HMV.out _ _ _ _ HI.out.1 (World.grownBy_alloc _ _ _)⟩, HC.out.alloc _, G2_low HW2.out (HG.out.alloc _)⟩
end Go.Proofs.YtofaiocffifhfaaGreat
end
section
namespace Go.Proofs.YtofaiocffifhfaaGreat
open Go.RowKit Go.Shelf YtofaiocffifhfaaGreatB Go.Proofs.YtofaiocffifhfaaGreatW.PrintWords
theorem conv_str (W : World) (A : Option Addr) (B : List Int) (c : Nat) (hR : RdI W .u8 A B) : (convert 22 9 (.slice A B.length c)).run Tryz.prog W = .ok (.string (strOfNums B)) W := by
 rcases Nat.eq_zero_or_pos B.length with h | h
 ·have hb : B = [] := List.length_eq_zero_iff.1 h
  subst hb
  show (convert 22 9 (.slice A 0 c)).run Tryz.prog W = _
  rw [run_convert_bytes_string W 22 9 5 _ 0 c Tryz.underlying22 Tryz.underlying5 Tryz.underlying9]
  cases A <;> simp [Conv.bytesToString, loadCells]
  all_goals rfl
 ·obtain ⟨b, o, rfl, hc⟩ := hR.2 h
  exact run_convert_bytes_arg W 22 5 Tryz.underlying22 Tryz.underlying5 b o B.length c B rfl (fun i hi => by
   rw [hc i B[i] (List.getElem?_eq_getElem hi)]
   simp [List.getD, List.getElem?_eq_getElem hi]) 9 Tryz.underlying9
def magicL : List Int := [0, 97, 115, 109, 1, 0, 0, 0]
theorem magic_str : strOfNums magicL = ⟨#[0, 97, 115, 109, 1, 0, 0, 0]⟩ := by decide
abbrev mod0 (v : Value) : Array Value := #[v, .slice none 0 0, .slice none 0 0, .slice none 0 0, .slice none 0 0, .slice none 0 0, .slice none 0 0, .bool false, .int .u32 0, .slice none 0 0, .slice none 0 0]
abbrev bld0 (v : Value) : Array Value := #[v, .slice none 0 0, .slice none 0 0, .slice none 0 0, .slice none 0 0, .slice none 0 0, .slice none 0 0, .bool false, .int .u32 0, .slice none 0 0, .slice none 0 0, .slice none 0 0, .slice none 0 0]
def DecSp (W : World) (n1 : Nat) (e1 : Int) (E : Ending) (W' : World) : Prop :=
 Below W.heap.size W W' ∧ (e1 = 0 → ∃ A c, E = .returned (.tuple #[.agg (mod0 (.slice A n1 c)), .int .i64 0])) ∧ (¬ e1 = 0 → E = .returned (.tuple #[.agg (mod0 (.slice none 0 0)), .int .i64 e1]))
theorem below_ge {W0 X Y : World} (n : Nat) (h : Below n W0 X) (p m : Nat) (hg : G2 X Y p m) (hp : n ≤ p) (hm : n ≤ m) (hn : n ≤ X.heap.size) : Below n W0 Y :=
 ⟨hg.os.trans h.os, hg.tape.trans h.tape, hg.output.trans h.output, Nat.le_trans h.size hg.size, fun k hk => (hg.block k (by omega) (by omega) (by omega)).trans (h.block k hk)⟩
theorem bl_set {n : Nat} {W X : World} (h : Below n W X) (b i : Nat) (v : Value) (hb : n ≤ b) : Below n W (X.setCell ⟨b, i, none⟩ v) := h.setCell hb v
theorem bl_alloc {W X : World} (h : Below W.heap.size W X) (o : Obj) : Below W.heap.size W (X.alloc o) := h.alloc h.size o
theorem bl_drew {n : Nat} {W X : World} (h : Below n W X) : Below n W X.drew := ⟨h.os, h.tape, h.output, h.size, h.block⟩
set_option maxRecDepth 100000 in
set_option maxHeartbeats 2000000 in
theorem Decode_sp (W : World) (A : Option Addr) (c : Nat) (T : List Int) (sat : Bool) (e1 : Int) (n1 : Nat) (hR : RdI W .u8 A (magicL ++ T)) (hB : Byts (magicL ++ T)) (hl : T.length ≤ 60000) (hc : (magicL ++ T).length ≤ c)
  (hsec : ∀ X p q m, W.heap.size ≤ m → m < X.heap.size → W.heap.size ≤ p → m ≠ p → (0 < T.length → m ≠ q) → Cur X p q T 0 0 → Blk X m (bld0 (.slice none 0 0)) 71 →
   Calls Tryz.prog 17 #[.pointer (some ⟨m, 0, none⟩), .agg #[.pointer (some ⟨p, 0, none⟩), .bool sat]] X fun E Y => E = .returned (.tuple #[]) ∧ (∃ a, Cur Y p q T a e1) ∧ G2 X Y p m ∧ ∃ A c, Blk Y m (bld0 (.slice A n1 c)) 71) :
  Calls Tryz.prog 8 #[.slice A (magicL ++ T).length c, .bool sat] W (DecSp W n1 e1) := by
 have hml : (magicL ++ T).length = 8 + T.length := by simp [magicL]; omega
 obtain ⟨A2, hr2, hA2⟩ := cut_lo (P := Tryz.prog) 22 5 .i64 1 Tryz.underlying22 infoB A (magicL ++ T).length c 8 (by omega)
 have hR8 : RdI W .u8 A magicL := ⟨by decide, fun _ => by
  obtain ⟨b, o, e, hcc⟩ := hR.2 (by omega)
  refine ⟨b, o, e, fun j x hj => hcc j x ?_⟩
  have := (List.getElem?_eq_some_iff.1 hj).1
  rw [List.getElem?_append_left this]; exact hj⟩
 have hRT : RdI W .u8 A2 T := ⟨by omega, fun hp => by
  obtain ⟨b, o, e, hcc⟩ := hR.2 (by omega)
  refine ⟨b, o + 8, by rw [hA2 (by omega), e]; simp [Addr.add], fun j x hj => ?_⟩
  rw [Nat.add_assoc]
  refine hcc (8 + j) x ?_
  rw [List.getElem?_append_right (by simp [magicL])]
  simpa [magicL] using hj⟩
 have hk1 := fun X (h : Below W.heap.size W X) => conv_str X A magicL c (hR8.below h)
 rw [magic_str] at hk1
 have HK := Lib.hid hk1
 have HR := Lib.hid hRT
 have hBT : Byts T := ⟨by have := hB.1; omega, fun x hx => hB.2 x (List.mem_append_right _ hx)⟩
 have HB := Lib.hid hBT
 have HS := Lib.hid hsec
 rw [hml] at hc ⊢
 have hr3 : ∀ X : World, (Instr.slice 22 (.slice A (8 + T.length) c) (some (.int .i64 8)) none none).run Tryz.prog X = .ok (.slice A2 T.length (c - 8)) X := fun X => by
  have h := hr2 X
  rw [hml, Nat.add_sub_cancel_left] at h
  exact h
 clear hr2
 have hk0 : ∀ X : World, Below W.heap.size W X → (convert 22 9 (.slice A 8 c)).run Tryz.prog X = .ok (.string ⟨#[0, 97, 115, 109, 1, 0, 0, 0]⟩) X := HK.out
 have hk2 := hk0 _ ((Below.refl _ _).alloc (Nat.le_refl _) (.cells (mod0 (.slice none 0 0)) 34))
 clear hR hB hsec hA2 hR8 hRT hk1 hBT hml hk0
 go_enter Tryz.func8, Tryz.ntmps8
 go_wp2_with fail
 have hW1 : Below W.heap.size W (W.alloc (.cells (mod0 (.slice none 0 0)) 34)) := (Below.refl _ _).alloc (Nat.le_refl _) _
 have hz1 : (W.alloc (.cells (mod0 (.slice none 0 0)) 34)).heap.size = W.heap.size + 1 := World.size_alloc _ _
 have hx := Blk.new W (mod0 (.slice none 0 0)) 34
 have HN := Lib.hid (New_own _ A2 (c - 8) T (HR.out.below hW1) HB.out)
 have HW1 := Lib.hid hW1
 have HX := Lib.hid hx
 clear hx hW1
 refine HN.out.mono ?_
 rintro E W2 ⟨p, q, hp, hq, rfl, hC2, hB2⟩
 have HX2 := Lib.hid (HX.out.below hB2 (by omega))
 have hz2 := hB2.size
 have HW2 := Lib.hid (HW1.out.trans (hB2.mono (by omega)))
 have HC2 := Lib.hid hC2
 have hpl := hC2.lt
 have HQ := Lib.hid (fun hl => hC2.qlt' hl : 0 < T.length → q < W2.heap.size)
 clear hC2 hB2 hq HN HX HW1 hk2
 have hb6 := (Blk.new W2 #[.pointer (some ⟨p, 0, none⟩), .bool sat] 67).alloc (.cells (bld0 (.slice none 0 0)) 71)
 have hbm := Blk.new (W2.alloc (.cells #[.pointer (some ⟨p, 0, none⟩), .bool sat] 67)) (bld0 (.slice none 0 0)) 71
 have hx3 := (HX2.out.alloc (.cells #[.pointer (some ⟨p, 0, none⟩), .bool sat] 67)).alloc (.cells (bld0 (.slice none 0 0)) 71)
 have hC3 := (HC2.out.alloc (.cells #[.pointer (some ⟨p, 0, none⟩), .bool sat] 67)).alloc (.cells (bld0 (.slice none 0 0)) 71)
 have hz3 : ((W2.alloc (.cells #[.pointer (some ⟨p, 0, none⟩), .bool sat] 67)).alloc (.cells (bld0 (.slice none 0 0)) 71)).heap.size = W2.heap.size + 2 := by rw [World.size_alloc, World.size_alloc]
 have hs3 := HS.out _ p q (W2.heap.size + 1) (by omega) (by omega) (by omega) (by omega) (fun hl => by have := HQ.out hl; omega) hC3 (by rw [World.size_alloc] at hbm; exact hbm)
 have HB3 := Lib.hid ((HW2.out.alloc HW2.out.size (.cells #[.pointer (some ⟨p, 0, none⟩), .bool sat] 67)).alloc (by rw [World.size_alloc]; have := HW2.out.size; omega) (.cells (bld0 (.slice none 0 0)) 71))
 have HX3 := Lib.hid hx3
 have HX6 := Lib.hid hb6
 have HS3 := Lib.hid hs3
 have HXM := Lib.hid (show W2.heap.size + 1 < ((W2.alloc (.cells #[.pointer (some ⟨p, 0, none⟩), .bool sat] 67)).alloc (.cells (bld0 (.slice none 0 0)) 71)).heap.size by omega)
 clear hb6 hbm hx3 hC3 hs3 HS
 go_wp2_with fail
 refine HS3.out.mono ?_
 rintro E W4 ⟨rfl, ⟨a4, hC4⟩, hG4, A4, c4, hm4⟩
 have hz4 := hG4.size
 rw [hz3] at hz4
 have hpw : W.heap.size ≠ p := by omega
 have hmw : W.heap.size ≠ W2.heap.size + 1 := by omega
 have hx4 : Blk W4 W.heap.size (mod0 (.slice none 0 0)) 34 := HX3.out.g2 hG4 hpw hmw
 have hx6 : Blk W4 W2.heap.size #[.pointer (some ⟨p, 0, none⟩), .bool sat] 67 := HX6.out.g2 hG4 (by omega) (by omega)
 have HB4 := Lib.hid (below_ge W.heap.size HB3.out p (W2.heap.size + 1) hG4 (by omega) (by omega) (by omega))
 have HC4 := Lib.hid hC4
 have HX4 := Lib.hid hx4
 have HX5 := Lib.hid hx6
 have HM4 := Lib.hid hm4
 have x0 : W4.cell? ⟨W2.heap.size, 0, none⟩ = some (.pointer (some ⟨p, 0, none⟩)) := hx6.cell 0
 have x1 : W4.cell? ⟨W2.heap.size, 1, none⟩ = some (.bool sat) := hx6.cell 1
 have xl := hx6.lt
 clear hG4 hC4 hx4 hx6 hm4 HS3 HB3 HX3 HX6 HX2 HW2 HC2 HQ HXM hz3
 by_cases he : e1 = 0
 ·subst he
  have HPG := Lib.hid (pgood_any W4 p q T a4 0 sat true HC4.out rfl)
  go_wp2_with fail
  refine HPG.out.mono ?_
  rintro E w' ⟨rfl, rfl⟩
  have hm5 := HM4.out.alloc (.cells #[.pointer (some ⟨p, 0, none⟩), .bool sat] 67)
  have hx5 := HX4.out.alloc (.cells #[.pointer (some ⟨p, 0, none⟩), .bool sat] 67)
  have hB5 := HB4.out.alloc HB4.out.size (.cells #[.pointer (some ⟨p, 0, none⟩), .bool sat] 67)
  clear HX5 HX4 HM4 HC4 HB4 x0 x1
  generalize W4.alloc (.cells #[.pointer (some ⟨p, 0, none⟩), .bool sat] 67) = W5 at *
  have m0 : W5.cell? ⟨W2.heap.size + 1, 0, none⟩ = some (.slice A4 n1 c4) := hm5.cell 0
  have m1 : W5.cell? ⟨W2.heap.size + 1, 1, none⟩ = some (.slice none 0 0) := hm5.cell 1
  have m2 : W5.cell? ⟨W2.heap.size + 1, 2, none⟩ = some (.slice none 0 0) := hm5.cell 2
  have m3 : W5.cell? ⟨W2.heap.size + 1, 3, none⟩ = some (.slice none 0 0) := hm5.cell 3
  have m4 : W5.cell? ⟨W2.heap.size + 1, 4, none⟩ = some (.slice none 0 0) := hm5.cell 4
  have m5 : W5.cell? ⟨W2.heap.size + 1, 5, none⟩ = some (.slice none 0 0) := hm5.cell 5
  have m6 : W5.cell? ⟨W2.heap.size + 1, 6, none⟩ = some (.slice none 0 0) := hm5.cell 6
  have m7 : W5.cell? ⟨W2.heap.size + 1, 7, none⟩ = some (.bool false) := hm5.cell 7
  have m8 : W5.cell? ⟨W2.heap.size + 1, 8, none⟩ = some (.int .u32 0) := hm5.cell 8
  have m9 : W5.cell? ⟨W2.heap.size + 1, 9, none⟩ = some (.slice none 0 0) := hm5.cell 9
  have m10 : W5.cell? ⟨W2.heap.size + 1, 10, none⟩ = some (.slice none 0 0) := hm5.cell 10
  have m11 : W5.cell? ⟨W2.heap.size + 1, 11, none⟩ = some (.slice none 0 0) := hm5.cell 11
  have m12 : W5.cell? ⟨W2.heap.size + 1, 12, none⟩ = some (.slice none 0 0) := hm5.cell 12
  have z0 : W5.cell? ⟨W.heap.size, 0, none⟩ = some (.slice none 0 0) := hx5.cell 0
  have z1 : W5.cell? ⟨W.heap.size, 1, none⟩ = some (.slice none 0 0) := hx5.cell 1
  have z2 : W5.cell? ⟨W.heap.size, 2, none⟩ = some (.slice none 0 0) := hx5.cell 2
  have z3 : W5.cell? ⟨W.heap.size, 3, none⟩ = some (.slice none 0 0) := hx5.cell 3
  have z4 : W5.cell? ⟨W.heap.size, 4, none⟩ = some (.slice none 0 0) := hx5.cell 4
  have z5 : W5.cell? ⟨W.heap.size, 5, none⟩ = some (.slice none 0 0) := hx5.cell 5
  have z6 : W5.cell? ⟨W.heap.size, 6, none⟩ = some (.slice none 0 0) := hx5.cell 6
  have z7 : W5.cell? ⟨W.heap.size, 7, none⟩ = some (.bool false) := hx5.cell 7
  have z8 : W5.cell? ⟨W.heap.size, 8, none⟩ = some (.int .u32 0) := hx5.cell 8
  have z9 : W5.cell? ⟨W.heap.size, 9, none⟩ = some (.slice none 0 0) := hx5.cell 9
  have z10 : W5.cell? ⟨W.heap.size, 10, none⟩ = some (.slice none 0 0) := hx5.cell 10
  have zf0 := hx5.frozen 0
  have zf1 := hx5.frozen 1
  have zf2 := hx5.frozen 2
  have zf3 := hx5.frozen 3
  have zf4 := hx5.frozen 4
  have zf5 := hx5.frozen 5
  have zf6 := hx5.frozen 6
  have zf7 := hx5.frozen 7
  have zf8 := hx5.frozen 8
  have zf9 := hx5.frozen 9
  have zf10 := hx5.frozen 10
  have ml := hm5.lt
  have zl := hx5.lt
  have HM5 := Lib.hid hm5
  have HX5 := Lib.hid hx5
  have HB5 := Lib.hid hB5
  clear hm5 hx5 hB5
  go_wp2_with fail
  go_region
  go_wp2_with fail
  go_loopw [62] (fun i wr => i = .int .i64 0 ∧ Hid (Below W5.heap.size W5 wr)) (fun _ _ => 0)
  case atStart => exact ⟨rfl, (by first | exact Below.refl _ _ | exact bl_drew (Below.refl _ _))⟩
  case round =>
   obtain ⟨rfl, HBr⟩ := hrel
   have hm6 := HM5.out.below HBr.out ml
   have hx6 := HX5.out.below HBr.out zl
   have m0 : wr.cell? ⟨W2.heap.size + 1, 0, none⟩ = some (.slice A4 n1 c4) := hm6.cell 0
   have m1 : wr.cell? ⟨W2.heap.size + 1, 1, none⟩ = some (.slice none 0 0) := hm6.cell 1
   have m2 : wr.cell? ⟨W2.heap.size + 1, 2, none⟩ = some (.slice none 0 0) := hm6.cell 2
   have m3 : wr.cell? ⟨W2.heap.size + 1, 3, none⟩ = some (.slice none 0 0) := hm6.cell 3
   have m4 : wr.cell? ⟨W2.heap.size + 1, 4, none⟩ = some (.slice none 0 0) := hm6.cell 4
   have m5 : wr.cell? ⟨W2.heap.size + 1, 5, none⟩ = some (.slice none 0 0) := hm6.cell 5
   have m6 : wr.cell? ⟨W2.heap.size + 1, 6, none⟩ = some (.slice none 0 0) := hm6.cell 6
   have m7 : wr.cell? ⟨W2.heap.size + 1, 7, none⟩ = some (.bool false) := hm6.cell 7
   have m8 : wr.cell? ⟨W2.heap.size + 1, 8, none⟩ = some (.int .u32 0) := hm6.cell 8
   have m9 : wr.cell? ⟨W2.heap.size + 1, 9, none⟩ = some (.slice none 0 0) := hm6.cell 9
   have m10 : wr.cell? ⟨W2.heap.size + 1, 10, none⟩ = some (.slice none 0 0) := hm6.cell 10
   have m11 : wr.cell? ⟨W2.heap.size + 1, 11, none⟩ = some (.slice none 0 0) := hm6.cell 11
   have m12 : wr.cell? ⟨W2.heap.size + 1, 12, none⟩ = some (.slice none 0 0) := hm6.cell 12
   have z0 : wr.cell? ⟨W.heap.size, 0, none⟩ = some (.slice none 0 0) := hx6.cell 0
   have z1 : wr.cell? ⟨W.heap.size, 1, none⟩ = some (.slice none 0 0) := hx6.cell 1
   have z2 : wr.cell? ⟨W.heap.size, 2, none⟩ = some (.slice none 0 0) := hx6.cell 2
   have z3 : wr.cell? ⟨W.heap.size, 3, none⟩ = some (.slice none 0 0) := hx6.cell 3
   have z4 : wr.cell? ⟨W.heap.size, 4, none⟩ = some (.slice none 0 0) := hx6.cell 4
   have z5 : wr.cell? ⟨W.heap.size, 5, none⟩ = some (.slice none 0 0) := hx6.cell 5
   have z6 : wr.cell? ⟨W.heap.size, 6, none⟩ = some (.slice none 0 0) := hx6.cell 6
   have z7 : wr.cell? ⟨W.heap.size, 7, none⟩ = some (.bool false) := hx6.cell 7
   have z8 : wr.cell? ⟨W.heap.size, 8, none⟩ = some (.int .u32 0) := hx6.cell 8
   have z9 : wr.cell? ⟨W.heap.size, 9, none⟩ = some (.slice none 0 0) := hx6.cell 9
   have z10 : wr.cell? ⟨W.heap.size, 10, none⟩ = some (.slice none 0 0) := hx6.cell 10
   have zf0 := hx6.frozen 0
   have zf1 := hx6.frozen 1
   have zf2 := hx6.frozen 2
   have zf3 := hx6.frozen 3
   have zf4 := hx6.frozen 4
   have zf5 := hx6.frozen 5
   have zf6 := hx6.frozen 6
   have zf7 := hx6.frozen 7
   have zf8 := hx6.frozen 8
   have zf9 := hx6.frozen 9
   have zf10 := hx6.frozen 10
   have ml := hm6.lt
   have zl := hx6.lt
   clear hm6 hx6
   go_wp2_with fail
   refine bodyPost_ret (v := .tuple #[.agg (mod0 (.slice A4 n1 c4)), .int .i64 0]) (by simp [results, Tryz.results8, go_sem, z0, z1, z2, z3, z4, z5, z6, z7, z8, z9, z10, zl]) rfl ⟨?_, fun _ => ⟨A4, c4, rfl⟩, fun h => absurd rfl h⟩
   have hb6 := HB5.out.trans (HBr.out.mono HB5.out.size)
   (repeat (first | with_reducible exact hb6 | (with_reducible refine bl_set ?_ _ _ _ ?_; rotate_left; omega) | with_reducible refine bl_alloc ?_ _ | with_reducible refine bl_drew ?_))
 ·have HPG := Lib.hid (pgood_any W4 p q T a4 e1 sat false HC4.out (by simp [he]))
  have hx5 := HX4.out.alloc (.cells #[.pointer (some ⟨p, 0, none⟩), .bool sat] 67)
  have hx6 := HX5.out.alloc (.cells #[.pointer (some ⟨p, 0, none⟩), .bool sat] 67)
  have HE := Lib.hid (err_any _ p q T a4 e1 (HC4.out.alloc (.cells #[.pointer (some ⟨p, 0, none⟩), .bool sat] 67)))
  have y0 : (W4.alloc (.cells #[.pointer (some ⟨p, 0, none⟩), .bool sat] 67)).cell? ⟨W2.heap.size, 0, none⟩ = some (.pointer (some ⟨p, 0, none⟩)) := hx6.cell 0
  have HX6 := Lib.hid hx5
  have HB5 := Lib.hid (HB4.out.alloc HB4.out.size (.cells #[.pointer (some ⟨p, 0, none⟩), .bool sat] 67))
  have HE1 := Lib.hid he
  clear he hx6
  have z0 : (W4.alloc (.cells #[.pointer (some ⟨p, 0, none⟩), .bool sat] 67)).cell? ⟨W.heap.size, 0, none⟩ = some (.slice none 0 0) := hx5.cell 0
  have z1 : (W4.alloc (.cells #[.pointer (some ⟨p, 0, none⟩), .bool sat] 67)).cell? ⟨W.heap.size, 1, none⟩ = some (.slice none 0 0) := hx5.cell 1
  have z2 : (W4.alloc (.cells #[.pointer (some ⟨p, 0, none⟩), .bool sat] 67)).cell? ⟨W.heap.size, 2, none⟩ = some (.slice none 0 0) := hx5.cell 2
  have z3 : (W4.alloc (.cells #[.pointer (some ⟨p, 0, none⟩), .bool sat] 67)).cell? ⟨W.heap.size, 3, none⟩ = some (.slice none 0 0) := hx5.cell 3
  have z4 : (W4.alloc (.cells #[.pointer (some ⟨p, 0, none⟩), .bool sat] 67)).cell? ⟨W.heap.size, 4, none⟩ = some (.slice none 0 0) := hx5.cell 4
  have z5 : (W4.alloc (.cells #[.pointer (some ⟨p, 0, none⟩), .bool sat] 67)).cell? ⟨W.heap.size, 5, none⟩ = some (.slice none 0 0) := hx5.cell 5
  have z6 : (W4.alloc (.cells #[.pointer (some ⟨p, 0, none⟩), .bool sat] 67)).cell? ⟨W.heap.size, 6, none⟩ = some (.slice none 0 0) := hx5.cell 6
  have z7 : (W4.alloc (.cells #[.pointer (some ⟨p, 0, none⟩), .bool sat] 67)).cell? ⟨W.heap.size, 7, none⟩ = some (.bool false) := hx5.cell 7
  have z8 : (W4.alloc (.cells #[.pointer (some ⟨p, 0, none⟩), .bool sat] 67)).cell? ⟨W.heap.size, 8, none⟩ = some (.int .u32 0) := hx5.cell 8
  have z9 : (W4.alloc (.cells #[.pointer (some ⟨p, 0, none⟩), .bool sat] 67)).cell? ⟨W.heap.size, 9, none⟩ = some (.slice none 0 0) := hx5.cell 9
  have z10 : (W4.alloc (.cells #[.pointer (some ⟨p, 0, none⟩), .bool sat] 67)).cell? ⟨W.heap.size, 10, none⟩ = some (.slice none 0 0) := hx5.cell 10
  have zf0 := hx5.frozen 0
  have zf1 := hx5.frozen 1
  have zf2 := hx5.frozen 2
  have zf3 := hx5.frozen 3
  have zf4 := hx5.frozen 4
  have zf5 := hx5.frozen 5
  have zf6 := hx5.frozen 6
  have zf7 := hx5.frozen 7
  have zf8 := hx5.frozen 8
  have zf9 := hx5.frozen 9
  have zf10 := hx5.frozen 10
  have zl := hx5.lt
  clear hx5
  go_wp2_with fail
  refine HPG.out.mono ?_
  rintro E w' ⟨rfl, rfl⟩
  go_wp2_with fail
  refine HE.out.mono ?_
  rintro E w' ⟨rfl, rfl⟩
  go_wp2_with fail
  refine bodyPost_ret (v := .tuple #[.agg (mod0 (.slice none 0 0)), .int .i64 e1]) (by simp [results, Tryz.results8, go_sem, z0, z1, z2, z3, z4, z5, z6, z7, z8, z9, z10, zl]) rfl ⟨?_, fun h => absurd h HE1.out, fun _ => rfl⟩
  (repeat (first | with_reducible exact HB5.out | (with_reducible refine bl_set ?_ _ _ _ ?_; rotate_left; omega) | with_reducible refine bl_alloc ?_ _ | with_reducible refine bl_drew ?_))
end Go.Proofs.YtofaiocffifhfaaGreat
end
section
namespace Go.Proofs.YtofaiocffifhfaaGreat
open Go.RowKit Go.Shelf YtofaiocffifhfaaGreatB Go.Proofs.YtofaiocffifhfaaGreatW.PrintWords
def rightM (s : ByteArray) (at_ : Nat) (c : Int) : Bool := if c = 65533 then (if at_ + 3 ≤ s.size then (s.extract at_ (at_ + 3)).toList == [239, 191, 189] else false) else true
def utfGo (s : ByteArray) : Nat → Nat → Bool
 | 0, _ => true
 | f + 1, pos => if pos < s.size then rightM s pos (Utf8.decode s pos).1 && utfGo s f (pos + (Utf8.decode s pos).2) else true
def utfOk (s : ByteArray) : Bool := utfGo s (s.size + 1) 0
theorem decode_wide (s : ByteArray) (pos : Nat) (h : pos < s.size) : 1 ≤ (Utf8.decode s pos).2 := by
 by_cases ha : (s[pos]'h).toNat < 128
 ·rw [decode_ascii s pos h ha]
  exact Nat.le_refl _
 ·exact (decode_high s pos h (by omega)).2
theorem utfGo_end (s : ByteArray) (f pos : Nat) (h : ¬ pos < s.size) : utfGo s f pos = true := by
 cases f with
 | zero => rfl
 | succ f => rw [utfGo, if_neg h]
set_option maxRecDepth 100000 in
theorem right_any (W : World) (s : ByteArray) (at_ : Nat) (c : Int) (hs : s.size ≤ 1048576) (ha : at_ ≤ s.size) :
  Calls Tryz.prog 139 #[.string s, .int .i64 at_, .int .i32 c] W fun E w' => E = .returned (.bool (rightM s at_ c)) ∧ W = w' := by
 by_cases hc : c = 65533
 ·subst hc
  by_cases h3 : at_ + 3 ≤ s.size
  ·have h4 : decide ((s.size : Int) - at_ ≥ 3) = true := by simp; omega
   have h5 : (3 : Int) ≤ (s.size : Int) - at_ := by omega
   have h6 : (at_ : Int) + 3 ≤ s.size := by omega
   obtain ⟨R, hR⟩ : ∃ R : Bool, R = ((s.extract at_ (at_ + 3)).toList == [239, 191, 189]) := ⟨_, rfl⟩
   have HR := Lib.hid (show rightM s at_ 65533 = R by rw [hR, rightM, if_pos rfl, if_pos h3])
   go_enter Tryz.func139, Tryz.ntmps139
   go_wp2_with fail
   go_ret
   exact ⟨by rw [HR.out, hR]; rfl, rfl⟩
  ·have h4 : decide ((s.size : Int) - at_ ≥ 3) = false := by simp; omega
   have h5 : ¬ (3 : Int) ≤ (s.size : Int) - at_ := by omega
   have HR := Lib.hid (show rightM s at_ 65533 = false by rw [rightM, if_pos rfl, if_neg h3])
   go_enter Tryz.func139, Tryz.ntmps139
   go_wp2_with fail
   go_ret
   exact ⟨by rw [HR.out]; rfl, rfl⟩
 ·have HR := Lib.hid (show rightM s at_ c = true by rw [rightM, if_neg hc])
  go_enter Tryz.func139, Tryz.ntmps139
  go_wp2_with fail
  go_ret
  exact ⟨by rw [HR.out]; rfl, rfl⟩
set_option maxRecDepth 100000 in
theorem cnt1_any (W : World) (nb : Nat) (v c nx : Int) (hb : Blk W nb #[.int .i64 v] 3) :
  Calls Tryz.prog 132 #[.int .i32 c, .int .i64 nx, .pointer (some ⟨nb, 0, none⟩)] W fun E w' => E = .returned (.bool true) ∧ ∃ v', w' = W.setCell ⟨nb, 0, none⟩ (.int .i64 v') := by
 have c0 : W.cell? ⟨nb, 0, none⟩ = some (.int .i64 v) := hb.cell 0
 have f0 := hb.frozen 0
 have hl := hb.lt
 go_enter Tryz.func132, Tryz.ntmps132
 go_wp2_with fail
 go_ret
 exact ⟨rfl, _, rfl⟩
theorem grown_iterAt {W X : World} {row : Option Nat} (h : W.grownBy X row) {k : Nat} (hk : W.heap.size ≤ k) (s : ByteArray) (pos : Nat) : W.grownBy (X.iterAt k s pos) row :=
 ⟨h.os, h.tape, h.output, by rw [Lib.iterAt_size]; exact h.size, fun j hj hr => (Lib.iterAt_other X k j s pos (by omega)).trans (h.block j hj hr)⟩
def TellPost (W : World) (nb : Nat) (s : ByteArray) (E : Ending) (w' : World) : Prop := E = .returned (.bool (utfOk s)) ∧ (∃ v, Blk w' nb #[.int .i64 v] 3) ∧ W.grownBy w' (some nb)
set_option maxRecDepth 100000 in
set_option maxHeartbeats 1000000 in
theorem tell_cnt (W : World) (nb : Nat) (v0 : Int) (s : ByteArray) (hs : s.size ≤ 1048576) (hb : Blk W nb #[.int .i64 v0] 3) :
  Calls Tryz.prog 131 #[.string s, .func (.func 132) #[] #[.pointer (some ⟨nb, 0, none⟩)]] W (TellPost W nb s) := by
 have hin : ∀ args w, Sem.run Tryz.prog (callFunc 132 args) w = .ok (.enter 132 args) w := enters_of Tryz.func132 (by kernel_rfl) rfl
 have hnl := hb.lt
 have HB := Lib.hid hb
 clear hb
 go_enter Tryz.func131, Tryz.ntmps131
 go_wp2_with fail
 have hit0 : (W.iter s 0).heap[W.heap.size]? = some (.stringIter s 0) := World.iter_heap W s 0
 have hg0 : W.grownBy (W.iter s 0) (some nb) := World.grownBy_alloc W (.stringIter s 0) _
 have hb0 : Blk (W.iter s 0) nb #[.int .i64 v0] 3 := HB.out.alloc (.stringIter s 0)
 go_loopw [5, 6] (fun bg ls wr => ∃ (f pos : Nat) (v : Int), ((bg = .int .i64 (-1) ∧ ls = .int .i32 0 ∧ Hid (utfOk s = utfGo s f pos)) ∨ (∃ b : Nat, ∃ c : Int, bg = .int .i64 b ∧ ls = .int .i32 c ∧ b ≤ s.size ∧ Hid (utfOk s = (rightM s b c && utfGo s f pos)))) ∧ Hid (s.size < pos + f) ∧ Hid (wr.heap[W.heap.size]? = some (.stringIter s pos)) ∧ Hid (Blk wr nb #[.int .i64 v] 3) ∧ Hid (W.grownBy wr (some nb))) (fun _ _ wr => s.size - wr.iterPos W.heap.size)
 case atStart => exact ⟨s.size + 1, 0, v0, .inl ⟨rfl, rfl, rfl⟩, Lib.hid (by omega), hit0, hb0, hg0⟩
 case round =>
  obtain ⟨f, pos, v, hst, HF, HI, HBK, HG⟩ := hrel
  by_cases hp : pos < s.size
  ·have hnx : ∀ ty, (Instr.next (.pointer (some ⟨W.heap.size, 0, none⟩)) true ty).run Tryz.prog wr = _ := fun ty => Lib.run_next_any_at wr W.heap.size s pos ty HI.out hp
   have hwd := decode_wide s pos hp
   obtain ⟨f, rfl⟩ : ∃ g, f = g + 1 := ⟨f - 1, by have := HF.out; omega⟩
   have HGo := Lib.hid (show utfGo s (f + 1) pos = (rightM s pos (Utf8.decode s pos).1 && utfGo s f (pos + (Utf8.decode s pos).2)) by rw [utfGo, if_pos hp])
   have HI2 := Lib.hid (Lib.iterAt_heap wr W.heap.size s pos (pos + (Utf8.decode s pos).2) HI.out)
   have HB2 := Lib.hid (show Blk (wr.iterAt W.heap.size s (pos + (Utf8.decode s pos).2)) nb #[.int .i64 v] 3 from (Lib.iterAt_other wr W.heap.size nb s (pos + (Utf8.decode s pos).2) (by omega)).trans HBK.out)
   have HG2 := Lib.hid (grown_iterAt HG.out (Nat.le_refl _) s (pos + (Utf8.decode s pos).2))
   have hpi := iterPos_of HI.out
   generalize wr.iterAt W.heap.size s (pos + (Utf8.decode s pos).2) = wi at *
   generalize Utf8.decode s pos = d at *
   obtain ⟨c1, wd⟩ := d
   dsimp only at hnx hwd HGo HI2
   rcases hst with ⟨rfl, rfl, HE⟩ | ⟨b, c, rfl, rfl, hbs, HE⟩
   ·go_wp2_with fail
    go_roundw
    case rel => exact ⟨f, pos + wd, v, .inr ⟨pos, c1, rfl, rfl, by omega, Lib.hid (by rw [HE.out, HGo.out])⟩, Lib.hid (by have := HF.out; omega), HI2, HB2, HG2⟩
    case measure =>
     rw [hpi, iterPos_of HI2.out]
     omega
   ·have HR := Lib.hid (right_any wi s b c hs hbs)
    have HC := Lib.hid (fun cx nx => cnt1_any wi nb v cx nx HB2.out)
    obtain ⟨rb, hrb⟩ : ∃ rb, rb = rightM s b c := ⟨_, rfl⟩
    rw [← hrb] at HR HE
    clear hrb
    cases rb with
    | false =>
     go_wp2_with fail
     refine HR.out.mono ?_
     rintro E w' ⟨rfl, rfl⟩
     go_wp2_with fail
     go_ret
     exact ⟨by rw [HE.out]; rfl, ⟨v, HB2.out⟩, HG2.out⟩
    | true =>
     go_wp2_with fail
     refine HR.out.mono ?_
     rintro E w' ⟨rfl, rfl⟩
     go_wp2_with fail
     refine (HC.out _ _).mono ?_
     rintro E w' ⟨rfl, v', rfl⟩
     go_wp2_with fail
     go_roundw
     case rel => exact ⟨f, pos + wd, v', .inr ⟨pos, c1, rfl, rfl, by omega, Lib.hid (by rw [HE.out, Bool.true_and, HGo.out])⟩, Lib.hid (by have := HF.out; omega), Lib.hid ((Below.heap_setCell _ _ _ _ (by show W.heap.size ≠ nb; omega)).trans HI2.out), HB2.out.set 0 _, HG2.out.trans (gset _ nb 0 _)⟩
     case measure =>
      rw [hpi, iterPos_of ((Below.heap_setCell _ _ _ _ (by show W.heap.size ≠ nb; omega)).trans HI2.out)]
      omega
  ·have hnx : ∀ ty, (Instr.next (.pointer (some ⟨W.heap.size, 0, none⟩)) true ty).run Tryz.prog wr = _ := fun ty => Lib.run_next_end_at wr W.heap.size s pos ty HI.out hp
   have HGo := Lib.hid (utfGo_end s f pos hp)
   rcases hst with ⟨rfl, rfl, HE⟩ | ⟨b, c, rfl, rfl, hbs, HE⟩
   ·go_wp2_with fail
    go_ret
    exact ⟨by rw [HE.out, HGo.out]; rfl, ⟨v, HBK.out⟩, HG.out⟩
   ·have HR := Lib.hid (right_any wr s b c hs hbs)
    have HC := Lib.hid (fun cx nx => cnt1_any wr nb v cx nx HBK.out)
    obtain ⟨rb, hrb⟩ : ∃ rb, rb = rightM s b c := ⟨_, rfl⟩
    rw [← hrb] at HR HE
    clear hrb
    cases rb with
    | false =>
     go_wp2_with fail
     refine HR.out.mono ?_
     rintro E w' ⟨rfl, rfl⟩
     go_wp2_with fail
     go_ret
     exact ⟨by rw [HE.out]; rfl, ⟨v, HBK.out⟩, HG.out⟩
    | true =>
     go_wp2_with fail
     refine HR.out.mono ?_
     rintro E w' ⟨rfl, rfl⟩
     go_wp2_with fail
     refine (HC.out _ _).mono ?_
     rintro E w' ⟨rfl, v', rfl⟩
     go_wp2_with fail
     go_ret
     exact ⟨by rw [HE.out, HGo.out]; rfl, ⟨v', HBK.out.set 0 _⟩, HG.out.trans (gset _ nb 0 _)⟩
def OkPost (W : World) (v : Value) (E : Ending) (w' : World) : Prop := E = .returned v ∧ Below W.heap.size W w'
theorem below_gr {W X Y : World} {nb : Nat} (hb : Below W.heap.size W X) (hg : X.grownBy Y (some nb)) (hn : W.heap.size ≤ nb) : Below W.heap.size W Y := hb.grown hg hb.size (fun k hk => by injection hk with hk; omega)
theorem strOf_size (B : List Int) : (strOfNums B).size = B.length := strOfNums_size B
set_option maxRecDepth 100000 in
theorem uCount_any (W : World) (A : Option Addr) (c : Nat) (B : List Int) (hR : RdI W .u8 A B) (hB : Byts B) :
  Calls Tryz.prog 120 #[.slice A B.length c] W fun E w' => (∃ v, E = .returned (.tuple #[.int .i64 v, .bool (utfOk (strOfNums B))])) ∧ Below W.heap.size W w' := by
 have hBl := Blk.new W #[.int .i64 0] 3
 have hb0 : Below W.heap.size W (W.alloc (.cells #[.int .i64 0] 3)) := (Below.refl _ _).alloc (Nat.le_refl _) _
 have hk := conv_str (W.alloc (.cells #[.int .i64 0] 3)) A B c (hR.below hb0)
 have HT := Lib.hid (tell_cnt _ W.heap.size 0 (strOfNums B) (by rw [strOf_size]; exact hB.1) hBl)
 have HB0 := Lib.hid hb0
 clear hR hB hBl hb0
 generalize strOfNums B = s at *
 obtain ⟨ok, hok⟩ : ∃ ok, ok = utfOk s := ⟨_, rfl⟩
 unfold TellPost at HT
 rw [← hok] at HT ⊢
 clear hok
 go_enter Tryz.func120, Tryz.ntmps120
 go_wp2_with fail
 refine HT.out.mono ?_
 rintro E w' ⟨rfl, ⟨v, hv⟩, hg⟩
 have HB := Lib.hid (below_gr HB0.out hg (Nat.le_refl _))
 have HV := Lib.hid hv
 have v0 : w'.cell? ⟨W.heap.size, 0, none⟩ = some (.int .i64 v) := hv.cell 0
 have vf := hv.frozen 0
 have vl := hv.lt
 clear HT HB0 hk hv hg
 cases ok with
 | false =>
  go_wp2_with fail
  refine bodyPost_ret (v := .tuple #[.int .i64 0, .bool false]) (by simp [results, Tryz.results120, go_sem, v0, vl]) rfl ⟨⟨0, rfl⟩, ?_⟩
  (repeat (first | with_reducible exact HB.out | (with_reducible refine bl_set ?_ _ _ _ ?_; rotate_left; omega) | with_reducible refine bl_alloc ?_ _ | with_reducible refine bl_drew ?_))
 | true =>
  go_wp2_with fail
  refine bodyPost_ret (v := .tuple #[.int .i64 v, .bool true]) (by simp [results, Tryz.results120, go_sem, v0, vl]) rfl ⟨⟨v, rfl⟩, ?_⟩
  (repeat (first | with_reducible exact HB.out | (with_reducible refine bl_set ?_ _ _ _ ?_; rotate_left; omega) | with_reducible refine bl_alloc ?_ _ | with_reducible refine bl_drew ?_))
set_option maxRecDepth 100000 in
theorem valid_any (W : World) (A : Option Addr) (c : Nat) (B : List Int) (hR : RdI W .u8 A B) (hB : Byts B) :
  Calls Tryz.prog 105 #[.slice A B.length c] W (OkPost W (.bool (utfOk (strOfNums B)))) := by
 have HT := Lib.hid (uCount_any W A c B hR hB)
 clear hR hB
 generalize utfOk (strOfNums B) = ok at *
 go_enter Tryz.func105, Tryz.ntmps105
 go_wp2_with fail
 refine HT.out.mono ?_
 rintro E w' ⟨⟨v, rfl⟩, hb⟩
 have HB := Lib.hid hb
 clear hb HT
 go_wp2_with fail
 go_ret
 exact ⟨rfl, HB.out⟩
end Go.Proofs.YtofaiocffifhfaaGreat
end
section
namespace Go.Proofs.YtofaiocffifhfaaGreat
open Go.RowKit Go.Shelf YtofaiocffifhfaaGreatB Go.Proofs.YtofaiocffifhfaaGreatW.PrintWords
def nam1M (B : List Int) (a : Nat) : ByteArray × Nat × Int :=
 let t := pieceM B a 0
 (strOfNums t.1, t.2.1, if t.2.2 = 0 then (if utfOk (strOfNums t.1) = true then 0 else 102) else t.2.2)
def namM (B : List Int) (a : Nat) (e : Int) : ByteArray × Nat × Int := rdBack ⟨#[]⟩ (nam1M B a) a e
theorem piece_byts {B : List Int} (hB : Byts B) (a : Nat) (e : Int) : Byts (pieceM B a e).1 := by
 unfold pieceM rdL
 split
 ·unfold takeM
  by_cases h : (rdOf (u32M B a) a e).2.1 + (rdOf (u32M B a) a e).1.toNat ≤ B.length
  ·rw [if_pos h]
   refine ⟨?_, fun x hx => hB.2 x (List.mem_of_mem_drop (List.mem_of_mem_take hx))⟩
   have := hB.1
   simp only [List.length_take, List.length_drop]
   omega
  ·rw [if_neg h]
   exact ⟨by simp, by simp⟩
 ·exact ⟨by simp, by simp⟩
set_option maxRecDepth 100000 in
set_option maxHeartbeats 1000000 in
theorem Name1_any (W : World) (p q r : Nat) (B : List Int) (a : Nat) (hC : Cur W p q B a 0) (hB : Byts B) (hr : Blk W r #[.pointer (some ⟨p, 0, none⟩)] 53) (hrp : r ≠ p) :
  Calls Tryz.prog 104 #[.pointer (some ⟨r, 0, none⟩)] W (FlatPost W p q B (.string (nam1M B a).1) (nam1M B a).2.1 (nam1M B a).2.2) := by
 have hpl := hC.lt
 have HS := Lib.hid (St.start hC)
 have HR := Lib.hid (⟨hr, hrp⟩ : Lc p W r #[.pointer (some ⟨p, 0, none⟩)] 53)
 have hu := rdOf_u32' (a := a) (e := 0) hB
 have hpb := piece_byts hB a 0
 have HU := Lib.hid (fun X (h : Cur X p q B a 0) => U32_any X p q B a 0 h hB)
 obtain ⟨R, hR⟩ : ∃ R, R = nam1M B a := ⟨_, rfl⟩
 rw [← hR]
 unfold nam1M at hR
 have hpm : pieceM B a 0 = rdL (takeM B (rdOf (u32M B a) a 0).2.1 (rdOf (u32M B a) a 0).1.toNat) (rdOf (u32M B a) a 0).2.1 (rdOf (u32M B a) a 0).2.2 := rfl
 rw [hpm] at hR hpb
 clear hpm
 generalize rdOf (u32M B a) a 0 = r0 at *
 obtain ⟨n, a1, e1⟩ := r0
 dsimp only at hu hR hpb
 obtain ⟨k, rfl⟩ := Int.eq_ofNat_of_zero_le hu.1
 rw [Int.toNat_natCast] at hR hpb
 have HT := Lib.hid (fun X (h : Cur X p q B a1 e1) => Take_any X p q B a1 k e1 h hB (by omega))
 generalize rdL (takeM B a1 k) a1 e1 = t at *
 obtain ⟨bs, a2, e2⟩ := t
 dsimp only at hR hpb
 have HRR := Lib.hid hR
 have HBS := Lib.hid hpb
 have d0 : W.cell? ⟨r, 0, none⟩ = some (.pointer (some ⟨p, 0, none⟩)) := hr.cell 0
 have HD := Lib.hid (fun Y (h : Lc p Y r #[.pointer (some ⟨p, 0, none⟩)] 53) => h.c0)
 have hrl := hr.lt
 clear hC hB hr hrp hu hR hpb
 go_enter Tryz.func104, Tryz.ntmps104
 go_wp2_with fail
 go_region_held3 (fun w' => w'.cell? ⟨r, 0, none⟩ = some (.pointer (some ⟨p, 0, none⟩)))
  (first
   | exact d0
   | exact d2
   | exact d1)
  (first
   | (go_at_call 71; refine (HT.out _ hS1.cur).mono ?_; rintro E W2 ⟨⟨v, rfl, hO⟩, hG2⟩; have hS2 := hS1.goes hG2; have hR2 := hR1.goes hG2; have d2 := HD.out _ hR2)
   | (go_at_call 34; refine (HU.out _ HS.out.drew.cur).mono ?_; rintro E W1 ⟨rfl, hG1⟩; have hS1 := HS.out.drew.goes hG1; have hR1 := HR.out.drew.goes hG1; have d1 := HD.out _ hR1))
 have hO := Own_lower hO (show W.heap.size ≤ W1.heap.size from hS1.sz)
 obtain ⟨A, c, rfl, hl, hF⟩ := hO.reads
 have HO := Lib.hid hO
 have HRI := Lib.hid (C_rdI hF.now (by have := HBS.out.1; omega))
 have HS2 := Lib.hid hS2
 have HR2 := Lib.hid hR2
 have hrl2 := hR2.lt
 clear d0 d1 HS HR HT HU hG1 hG2 hS1 hR1 hO hF hS2 hR2 hl HD
 by_cases he : e2 = 0
 ·subst he
  have HV := Lib.hid (valid_any W2 A c bs HRI.out HBS.out)
  have hk := fun X (h : Below W2.heap.size W2 X) => conv_str X A bs c (HRI.out.below h)
  have HK := Lib.hid hk
  clear hk
  obtain ⟨ok, hok⟩ : ∃ ok, ok = utfOk (strOfNums bs) := ⟨_, rfl⟩
  rw [← hok] at HV
  rw [if_pos rfl, ← hok] at HRR
  clear hok
  cases ok with
  | true =>
   go_wp2_with fail
   refine (good_any _ _ _ _ _ _ true HS2.out.cur rfl).mono ?_
   rintro E w' ⟨rfl, rfl⟩
   go_wp2_with fail
   refine HV.out.mono ?_
   rintro E W3 ⟨rfl, hb⟩
   have HS3 := Lib.hid (HS2.out.below hb)
   have hk := HK.out W3 hb
   clear hb HV HK
   go_wp2_with fail
   go_ret
   rw [HRR.out]
   exact ⟨rfl, HS3.out.fin⟩
  | false =>
   go_wp2_with fail
   refine (good_any _ _ _ _ _ _ true HS2.out.cur rfl).mono ?_
   rintro E w' ⟨rfl, rfl⟩
   go_wp2_with fail
   refine HV.out.mono ?_
   rintro E W3 ⟨rfl, hb⟩
   have HS3 := Lib.hid (HS2.out.below hb)
   have HR3 := Lib.hid (HR2.out.below hb)
   have HB3 := Lib.hid hb
   have d3 := HR3.out.c0
   replace hrl2 := HR3.out.lt
   obtain ⟨A', c', g0, g1, g2, k0, k1, k2, gle, gq, glt, ga⟩ := HS3.out.cur.cells
   clear hb HV d2 gq
   go_wp2_with fail
   go_still_tail 8, (by kernel_rfl)
   change wpList _ _ _ _ _ W3.drew
   have HS4 := Lib.hid HS3.out.drew
   have HB4 := Lib.hid (bl_drew HB3.out)
   have HO4 := Lib.hid (HO.out.below HB4.out)
   generalize W3.drew = W4 at *
   go_wp2_with fail
   refine (fail_yes W4 p q B a2 a2 102 HS4.out.cur rfl HS4.out.le).mono ?_
   rintro E W5 ⟨rfl, hG⟩
   have HS5 := Lib.hid (HS4.out.goes hG)
   have hO5 := HO4.out.grown hG.2 (row := some p) (.inr (fun e => by have := (Own.block HO4.out e).1; omega)) (fun k hk => hk.elim)
   have hR5 : RdI W5 .u8 A bs := by
    obtain ⟨A', c', h1, h2, h3⟩ := hO5.reads
    injection h1 with h1 _ _
    subst h1
    exact C_rdI h3.now (by have := HBS.out.1; omega)
   have hk := conv_str W5 A bs c hR5
   clear hG HS4 hR5 hO5
   go_wp2_with fail
   go_ret
   rw [HRR.out]
   exact ⟨rfl, HS5.out.fin⟩
 ·have hk := conv_str W2 A bs c HRI.out
  have HE2 := Lib.hid he
  rw [if_neg he] at HRR
  clear he
  go_wp2_with fail
  refine (good_any _ _ _ _ _ _ false HS2.out.cur (beq_eq_false_iff_ne.2 HE2.out)).mono ?_
  rintro E w' ⟨rfl, rfl⟩
  go_wp2_with fail
  go_ret
  rw [HRR.out]
  exact ⟨rfl, HS2.out.fin⟩
theorem ent_Name1 : Enters Tryz.prog 104 := enters_of Tryz.func104 (by kernel_rfl) rfl
set_option maxRecDepth 100000 in
set_option maxHeartbeats 1000000 in
theorem Name_any (W : World) (p q : Nat) (B : List Int) (a : Nat) (e : Int) (hC : Cur W p q B a e) (hB : Byts B) :
  Calls Tryz.prog 72 #[.pointer (some ⟨p, 0, none⟩)] W (FlatPost W p q B (.string (namM B a e).1) (namM B a e).2.1 (namM B a e).2.2) := by
 have hpl := hC.lt
 have HS := Lib.hid ((St.start hC).alloc (.cells #[.pointer (some ⟨p, 0, none⟩)] 53))
 have hb := Blk.new W #[.pointer (some ⟨p, 0, none⟩)] 53
 obtain ⟨R, hR⟩ : ∃ R, R = namM B a e := ⟨_, rfl⟩
 rw [← hR]
 have HK := Lib.hid (show Calls Tryz.prog 103 #[.pointer (some ⟨p, 0, none⟩), .func (.func 104) #[] #[.pointer (some ⟨W.heap.size, 0, none⟩)]] (W.alloc (.cells #[.pointer (some ⟨p, 0, none⟩)] 53)) (FlatPost (W.alloc (.cells #[.pointer (some ⟨p, 0, none⟩)] 53)) p q B (.string R.1) R.2.1 R.2.2) from by
  unfold namM rdBack at hR
  by_cases he : e = 0
  ·subst he
   rw [if_pos rfl] at hR
   have h1 := Name1_any (W.alloc (.cells #[.pointer (some ⟨p, 0, none⟩)] 53)) p q W.heap.size B a HS.out.cur hB hb (by omega)
   generalize nam1M B a = r at *
   obtain ⟨x, nx, e'⟩ := r
   have h := reads_v_str (W.alloc (.cells #[.pointer (some ⟨p, 0, none⟩)] 53)) p q B a nx 104 ent_Name1 #[.pointer (some ⟨W.heap.size, 0, none⟩)] (fun v _ => v = .string x) e' HS.out.cur (h1.mono fun E w' ⟨g1, g2⟩ => ⟨_, g1, rfl, g2⟩)
   refine h.mono ?_
   rintro E w' ⟨⟨v, rfl, g1, g2⟩, g3⟩
   by_cases h' : e' = 0
   ·subst h'
    rw [if_pos rfl] at hR
    subst hR
    rw [g1 rfl]
    exact ⟨rfl, g3⟩
   ·rw [if_neg h'] at hR
    subst hR
    rw [g2 h']
    rw [rsA, if_neg h'] at g3
    exact ⟨rfl, g3⟩
  ·rw [if_neg he] at hR
   subst hR
   refine (reads_bad_str _ p q B a e _ HS.out.cur (beq_eq_false_iff_ne.2 he)).mono ?_
   rintro E w' ⟨rfl, rfl⟩
   exact ⟨rfl, Goes.same HS.out.cur⟩)
 clear hR hC hB hb
 obtain ⟨x, nx, e'⟩ := R
 go_enter Tryz.func72, Tryz.ntmps72
 go_wp2_with fail
 refine HK.out.mono ?_
 rintro E W1 ⟨rfl, hG⟩
 replace HS := Lib.hid (HS.out.goes hG)
 clear hG HK
 go_wp2_with fail
 go_ret
 exact ⟨rfl, HS.out.fin⟩
end Go.Proofs.YtofaiocffifhfaaGreat
end
section
namespace Go.Proofs.YtofaiocffifhfaaGreatB
open Go.RowKit Go.Proofs.YtofaiocffifhfaaGreatW.PrintWords
section
variable {α β : Type} {d : Kd α} {d1 : Kd α} {d2 : Kd β} {W : World} {ok : Nat → Prop} {x : α} {y : β} {c1 c2 cs : List Value}
theorem fk_pair (h1 : FK d1 W ok x c1) (h2 : FK d2 W ok y c2) : FK (Kd.pair d1 d2) W ok (x, y) (c1 ++ c2) := fun W' hW => ⟨c1, c2, rfl, h1 W' hW, h2 W' hW⟩
theorem fk_int {k : IntKind} {n : Int} (h : (Lit.int k n).wf = true) : FK (rng k) W ok n [.int k n] := fun _ _ => ⟨rfl, h⟩
theorem fk_bool (b : Bool) : FK Kd.bool W ok b [.bool b] := fun _ _ => rfl
theorem fk_str (s : ByteArray) : FK Kd.string W ok s [.string s] := fun _ _ => rfl
theorem fk_nil : FK knil W ok () [] := fun _ _ => rfl
theorem fk_sl {t : Nat} {A : Option Addr} {xs : List α} {c : Nat} (h : FC d W ok A xs) (hl : xs.length ≤ c) : FK (Kd.slice t d) W ok xs [.slice A xs.length c] := fun W' hW => ⟨A, c, rfl, hl, h W' hW⟩
theorem fk_iso {f : β → α} (h : FK d W ok (f y) cs) : FK (Kd.iso d f) W ok y cs := fun W' hW => h W' hW
theorem fk_iso_inv {f : β → α} (h : FK (Kd.iso d f) W ok y cs) : FK d W ok (f y) cs := fun W' hW => h W' hW
theorem fk_pair_inv {z : α × β} (h : FK (Kd.pair d1 d2) W ok z cs) : ∃ c1 c2, cs = c1 ++ c2 ∧ FK d1 W ok z.1 c1 ∧ FK d2 W ok z.2 c2 := by
 obtain ⟨c1, c2, rfl, h1, h2⟩ := h.now
 have key : ∀ W', Agr ok W W' → d1.K W' z.1 c1 ∧ d2.K W' z.2 c2 := fun W' hW => by
  obtain ⟨e1, e2, he, g1, g2⟩ := h W' hW
  have hl : c1.length = e1.length := by rw [d1.K_len h1, d1.K_len g1]
  obtain ⟨rfl, rfl⟩ := List.append_inj he hl
  exact ⟨g1, g2⟩
 exact ⟨c1, c2, rfl, fun W' hW => (key W' hW).1, fun W' hW => (key W' hW).2⟩
theorem fk_int_inv {k : IntKind} {n : Int} (h : FK (rng k) W ok n cs) : cs = [.int k n] ∧ (Lit.int k n).wf = true := h.now
theorem fk_bool_inv {b : Bool} (h : FK Kd.bool W ok b cs) : cs = [.bool b] := h.now
theorem fk_str_inv {s : ByteArray} (h : FK Kd.string W ok s cs) : cs = [.string s] := h.now
theorem fk_nil_inv (h : FK knil W ok () cs) : cs = [] := h.now
theorem fk_sl_inv {t : Nat} {xs : List α} (h : FK (Kd.slice t d) W ok xs cs) : ∃ A c, cs = [.slice A xs.length c] ∧ xs.length ≤ c ∧ FC d W ok A xs := by
 obtain ⟨A, c, rfl, hl, _⟩ := h.now
 refine ⟨A, c, rfl, hl, fun W' hW => ?_⟩
 obtain ⟨A', c', he, _, h'⟩ := h W' hW
 injection he with he _
 injection he with he _ _
 subst he
 exact h'
end
theorem wf_u8 {n : Int} (h : 0 ≤ n ∧ n ≤ 255) : (Lit.int .u8 n).wf = true := by simp [Lit.wf, IntKind.min, IntKind.max, IntKind.signed, IntKind.bits]; omega
theorem wf_u32 {n : Int} (h : 0 ≤ n ∧ n ≤ 4294967295) : (Lit.int .u32 n).wf = true := by simp [Lit.wf, IntKind.min, IntKind.max, IntKind.signed, IntKind.bits]; omega
theorem wf_i64 {n : Int} (h : 0 ≤ n ∧ n ≤ 4294967295) : (Lit.int .i64 n).wf = true := by simp [Lit.wf, IntKind.min, IntKind.max, IntKind.signed, IntKind.bits]; omega
structure ImpD where
 m : ByteArray
 n : ByteArray
 kind : Int
 ty : Int
 lim : Int × Int × Bool
 glob : Int × Bool
structure ExpD where
 n : ByteArray
 kind : Int
 ix : Int
structure CellD where
 ty : Int × Bool
 init : List Ins
structure ElemD where
 tab : Int
 off : List Ins
 fns : List Int
structure DataD where
 mem : Int
 off : List Ins
 bts : List Int
structure FnD where
 ty : Int
 loc : List Int
 body : List Ins
end Go.Proofs.YtofaiocffifhfaaGreatB
namespace Go.Proofs.YtofaiocffifhfaaGreat
open Go.RowKit Go.Shelf YtofaiocffifhfaaGreatB Go.Proofs.YtofaiocffifhfaaGreatW.PrintWords
def kLim : Kd (Int × Int × Bool) := Kd.iso (Kd.pair (rng .u32) (Kd.pair (rng .u32) (Kd.pair Kd.bool knil))) (fun x => (x.1, x.2.1, x.2.2, ()))
def kImp : Kd ImpD := Kd.iso (Kd.pair Kd.string (Kd.pair Kd.string (Kd.pair (rng .i64) (Kd.pair (rng .u32) (Kd.pair (rng .u32) (Kd.pair (rng .u32) (Kd.pair Kd.bool (Kd.pair (rng .u8) (Kd.pair Kd.bool knil)))))))))
 (fun x => (x.m, x.n, x.kind, x.ty, x.lim.1, x.lim.2.1, x.lim.2.2, x.glob.1, x.glob.2, ()))
def kExp : Kd ExpD := Kd.iso (Kd.pair Kd.string (Kd.pair (rng .i64) (Kd.pair (rng .u32) knil))) (fun x => (x.n, x.kind, x.ix, ()))
def kCell : Kd CellD := Kd.iso (Kd.pair (rng .u8) (Kd.pair Kd.bool (Kd.pair (Kd.slice 153 kI) knil))) (fun x => (x.ty.1, x.ty.2, x.init, ()))
def kElem : Kd ElemD := Kd.iso (Kd.pair (rng .u32) (Kd.pair (Kd.slice 153 kI) (Kd.pair (Kd.slice 30 (rng .u32)) knil))) (fun x => (x.tab, x.off, x.fns, ()))
def kData : Kd DataD := Kd.iso (Kd.pair (rng .u32) (Kd.pair (Kd.slice 153 kI) (Kd.pair (Kd.slice 5 (rng .u8)) knil))) (fun x => (x.mem, x.off, x.bts, ()))
def kFn : Kd FnD := Kd.iso (Kd.pair (rng .u32) (Kd.pair (Kd.slice 5 (rng .u8)) (Kd.pair (Kd.slice 153 kI) knil))) (fun x => (x.ty, x.loc, x.body, ()))
section
variable {W : World} {ok : Nat → Prop} {cs : List Value}
theorem lim_mk {x : Int × Int × Bool} (h1 : 0 ≤ x.1 ∧ x.1 ≤ 4294967295) (h2 : 0 ≤ x.2.1 ∧ x.2.1 ≤ 4294967295) : FK kLim W ok x [.int .u32 x.1, .int .u32 x.2.1, .bool x.2.2] :=
 fk_iso (fk_pair (fk_int (wf_u32 h1)) (fk_pair (fk_int (wf_u32 h2)) (fk_pair (fk_bool _) fk_nil)))
theorem imp_mk {x : ImpD} (h0 : 0 ≤ x.kind ∧ x.kind ≤ 4294967295) (h : 0 ≤ x.ty ∧ x.ty ≤ 4294967295) (h1 : 0 ≤ x.lim.1 ∧ x.lim.1 ≤ 4294967295) (h2 : 0 ≤ x.lim.2.1 ∧ x.lim.2.1 ≤ 4294967295) (h3 : 0 ≤ x.glob.1 ∧ x.glob.1 ≤ 255) :
  FK kImp W ok x [.string x.m, .string x.n, .int .i64 x.kind, .int .u32 x.ty, .int .u32 x.lim.1, .int .u32 x.lim.2.1, .bool x.lim.2.2, .int .u8 x.glob.1, .bool x.glob.2] :=
 fk_iso (fk_pair (fk_str _) (fk_pair (fk_str _) (fk_pair (fk_int (wf_i64 h0)) (fk_pair (fk_int (wf_u32 h)) (fk_pair (fk_int (wf_u32 h1)) (fk_pair (fk_int (wf_u32 h2)) (fk_pair (fk_bool _) (fk_pair (fk_int (wf_u8 h3)) (fk_pair (fk_bool _) fk_nil)))))))))
theorem exp_mk {x : ExpD} (h0 : 0 ≤ x.kind ∧ x.kind ≤ 4294967295) (h : 0 ≤ x.ix ∧ x.ix ≤ 4294967295) : FK kExp W ok x [.string x.n, .int .i64 x.kind, .int .u32 x.ix] :=
 fk_iso (fk_pair (fk_str _) (fk_pair (fk_int (wf_i64 h0)) (fk_pair (fk_int (wf_u32 h)) fk_nil)))
theorem cell_mk {x : CellD} {A : Option Addr} {c : Nat} (h0 : 0 ≤ x.ty.1 ∧ x.ty.1 ≤ 255) (h : FC kI W ok A x.init) (hl : x.init.length ≤ c) : FK kCell W ok x [.int .u8 x.ty.1, .bool x.ty.2, .slice A x.init.length c] :=
 fk_iso (fk_pair (fk_int (wf_u8 h0)) (fk_pair (fk_bool _) (fk_pair (fk_sl h hl) fk_nil)))
theorem elem_mk {x : ElemD} {A A' : Option Addr} {c c' : Nat} (h0 : 0 ≤ x.tab ∧ x.tab ≤ 4294967295) (h : FC kI W ok A x.off) (hl : x.off.length ≤ c) (h' : FC (rng .u32) W ok A' x.fns) (hl' : x.fns.length ≤ c') :
  FK kElem W ok x [.int .u32 x.tab, .slice A x.off.length c, .slice A' x.fns.length c'] :=
 fk_iso (fk_pair (fk_int (wf_u32 h0)) (fk_pair (fk_sl h hl) (fk_pair (fk_sl h' hl') fk_nil)))
theorem data_mk {x : DataD} {A A' : Option Addr} {c c' : Nat} (h0 : 0 ≤ x.mem ∧ x.mem ≤ 4294967295) (h : FC kI W ok A x.off) (hl : x.off.length ≤ c) (h' : FC (rng .u8) W ok A' x.bts) (hl' : x.bts.length ≤ c') :
  FK kData W ok x [.int .u32 x.mem, .slice A x.off.length c, .slice A' x.bts.length c'] :=
 fk_iso (fk_pair (fk_int (wf_u32 h0)) (fk_pair (fk_sl h hl) (fk_pair (fk_sl h' hl') fk_nil)))
theorem fn_mk {x : FnD} {A A' : Option Addr} {c c' : Nat} (h0 : 0 ≤ x.ty ∧ x.ty ≤ 4294967295) (h' : FC (rng .u8) W ok A' x.loc) (hl' : x.loc.length ≤ c') (h : FC kI W ok A x.body) (hl : x.body.length ≤ c) :
  FK kFn W ok x [.int .u32 x.ty, .slice A' x.loc.length c', .slice A x.body.length c] :=
 fk_iso (fk_pair (fk_int (wf_u32 h0)) (fk_pair (fk_sl h' hl') (fk_pair (fk_sl h hl) fk_nil)))
theorem lim_open {x : Int × Int × Bool} (h : FK kLim W ok x cs) : cs = [.int .u32 x.1, .int .u32 x.2.1, .bool x.2.2] := by
 obtain ⟨c1, c2, rfl, h1, h2⟩ := fk_pair_inv (fk_iso_inv h)
 obtain ⟨c3, c4, rfl, h3, h4⟩ := fk_pair_inv h2
 obtain ⟨c5, c6, rfl, h5, h6⟩ := fk_pair_inv h4
 rw [(fk_int_inv h1).1, (fk_int_inv h3).1, fk_bool_inv h5, fk_nil_inv h6]
 rfl
theorem imp_open {x : ImpD} (h : FK kImp W ok x cs) : cs = [.string x.m, .string x.n, .int .i64 x.kind, .int .u32 x.ty, .int .u32 x.lim.1, .int .u32 x.lim.2.1, .bool x.lim.2.2, .int .u8 x.glob.1, .bool x.glob.2] := by
 obtain ⟨_, _, rfl, h1, h⟩ := fk_pair_inv (fk_iso_inv h)
 obtain ⟨_, _, rfl, h2, h⟩ := fk_pair_inv h
 obtain ⟨_, _, rfl, h3, h⟩ := fk_pair_inv h
 obtain ⟨_, _, rfl, h4, h⟩ := fk_pair_inv h
 obtain ⟨_, _, rfl, h5, h⟩ := fk_pair_inv h
 obtain ⟨_, _, rfl, h6, h⟩ := fk_pair_inv h
 obtain ⟨_, _, rfl, h7, h⟩ := fk_pair_inv h
 obtain ⟨_, _, rfl, h8, h⟩ := fk_pair_inv h
 obtain ⟨_, _, rfl, h9, h⟩ := fk_pair_inv h
 rw [fk_str_inv h1, fk_str_inv h2, (fk_int_inv h3).1, (fk_int_inv h4).1, (fk_int_inv h5).1, (fk_int_inv h6).1, fk_bool_inv h7, (fk_int_inv h8).1, fk_bool_inv h9, fk_nil_inv h]
 rfl
theorem exp_open {x : ExpD} (h : FK kExp W ok x cs) : cs = [.string x.n, .int .i64 x.kind, .int .u32 x.ix] := by
 obtain ⟨_, _, rfl, h1, h⟩ := fk_pair_inv (fk_iso_inv h)
 obtain ⟨_, _, rfl, h2, h⟩ := fk_pair_inv h
 obtain ⟨_, _, rfl, h3, h⟩ := fk_pair_inv h
 rw [fk_str_inv h1, (fk_int_inv h2).1, (fk_int_inv h3).1, fk_nil_inv h]
 rfl
theorem cell_open {x : CellD} (h : FK kCell W ok x cs) : ∃ A c, cs = [.int .u8 x.ty.1, .bool x.ty.2, .slice A x.init.length c] ∧ x.init.length ≤ c ∧ FC kI W ok A x.init := by
 obtain ⟨_, _, rfl, h1, h⟩ := fk_pair_inv (fk_iso_inv h)
 obtain ⟨_, _, rfl, h2, h⟩ := fk_pair_inv h
 obtain ⟨_, _, rfl, h3, h⟩ := fk_pair_inv h
 obtain ⟨A, c, h3, hl, hF⟩ := fk_sl_inv h3
 rw [(fk_int_inv h1).1, fk_bool_inv h2, h3, fk_nil_inv h]
 exact ⟨A, c, rfl, hl, hF⟩
theorem elem_open {x : ElemD} (h : FK kElem W ok x cs) : ∃ A c A' c', cs = [.int .u32 x.tab, .slice A x.off.length c, .slice A' x.fns.length c'] ∧ x.off.length ≤ c ∧ FC kI W ok A x.off ∧ x.fns.length ≤ c' ∧ FC (rng .u32) W ok A' x.fns := by
 obtain ⟨_, _, rfl, h1, h⟩ := fk_pair_inv (fk_iso_inv h)
 obtain ⟨_, _, rfl, h2, h⟩ := fk_pair_inv h
 obtain ⟨_, _, rfl, h3, h⟩ := fk_pair_inv h
 obtain ⟨A, c, h2, hl, hF⟩ := fk_sl_inv h2
 obtain ⟨A', c', h3, hl', hF'⟩ := fk_sl_inv h3
 rw [(fk_int_inv h1).1, h2, h3, fk_nil_inv h]
 exact ⟨A, c, A', c', rfl, hl, hF, hl', hF'⟩
theorem data_open {x : DataD} (h : FK kData W ok x cs) : ∃ A c A' c', cs = [.int .u32 x.mem, .slice A x.off.length c, .slice A' x.bts.length c'] ∧ x.off.length ≤ c ∧ FC kI W ok A x.off ∧ x.bts.length ≤ c' ∧ FC (rng .u8) W ok A' x.bts := by
 obtain ⟨_, _, rfl, h1, h⟩ := fk_pair_inv (fk_iso_inv h)
 obtain ⟨_, _, rfl, h2, h⟩ := fk_pair_inv h
 obtain ⟨_, _, rfl, h3, h⟩ := fk_pair_inv h
 obtain ⟨A, c, h2, hl, hF⟩ := fk_sl_inv h2
 obtain ⟨A', c', h3, hl', hF'⟩ := fk_sl_inv h3
 rw [(fk_int_inv h1).1, h2, h3, fk_nil_inv h]
 exact ⟨A, c, A', c', rfl, hl, hF, hl', hF'⟩
theorem fn_open {x : FnD} (h : FK kFn W ok x cs) : ∃ A c A' c', cs = [.int .u32 x.ty, .slice A x.loc.length c, .slice A' x.body.length c'] ∧ x.loc.length ≤ c ∧ FC (rng .u8) W ok A x.loc ∧ x.body.length ≤ c' ∧ FC kI W ok A' x.body := by
 obtain ⟨_, _, rfl, h1, h⟩ := fk_pair_inv (fk_iso_inv h)
 obtain ⟨_, _, rfl, h2, h⟩ := fk_pair_inv h
 obtain ⟨_, _, rfl, h3, h⟩ := fk_pair_inv h
 obtain ⟨A, c, h2, hl, hF⟩ := fk_sl_inv h2
 obtain ⟨A', c', h3, hl', hF'⟩ := fk_sl_inv h3
 rw [(fk_int_inv h1).1, h2, h3, fk_nil_inv h]
 exact ⟨A, c, A', c', rfl, hl, hF, hl', hF'⟩
end
end Go.Proofs.YtofaiocffifhfaaGreat
end
