/- Lemmas towards this claim's statement: what the functions named here come to, each under the conditions that it states itself. -/
import Derived.WalkKit
import Derived.WalkSpells
import Derived.WalkLawsBesides
import Derived.BigQuiet
import Derived.BigRegion
import Derived.Deep.QuietTactic
import Derived.Deep.RegionWith
import Derived.StillTailTactics
import Derived.Deep.RegionHeld3
import Derived.Laws.CopyOwn
import Derived.Laws.MakeOwn
import Derived.Laws.OwnMore
import Derived.Deep.DeepCutAuto
import Derived.Deep.CutBlock
import Derived.Deep.LoopGhost
import Derived.Lib.Hide
import Derived.KernelRfl
import Derived.Test.YtofaiocffifhfaaGreatWWords
import Derived.Test.YtofaiocffifhfaaGreatRows
import Derived.ProofKit
import Derived.OpenShut
import Derived.ShutString
import Derived.ChangeOld
import Derived.SizedLaws
import Derived.JoinedCond
import Derived.Deep.Slices
import Derived.Shelf.Abstract
import Derived.Laws.BitsAllLaws
section
namespace Go.Proofs.YtofaiocffifhfaaGreatB
open Go.RowKit Go.Proofs.YtofaiocffifhfaaGreatW.PrintWords

def Blk (w : World) (g : Nat) (cs : Array Value) (t : TypeId) : Prop := w.heap[g]? = some (.cells cs t (0, 0))
theorem Blk.cell {w : World} {g : Nat} {cs : Array Value} {t : TypeId} (h : Blk w g cs t) (j : Nat) : w.cell? ⟨g, j, none⟩ = cs[j]? := cell_of_row w g j cs t (0, 0) h
theorem Blk.frozen {w : World} {g : Nat} {cs : Array Value} {t : TypeId} (h : Blk w g cs t) (j : Nat) : w.frozen? ⟨g, j, none⟩ = false := frozen_of_row w g j cs t h
theorem Blk.lt {w : World} {g : Nat} {cs : Array Value} {t : TypeId} (h : Blk w g cs t) : g < w.heap.size := (Array.getElem?_eq_some_iff.1 h).1
theorem Blk.below {w w' : World} {g : Nat} {cs : Array Value} {t : TypeId} (h : Blk w g cs t) {B : Nat} (hb : Below B w w') (hB : g < B) : Blk w' g cs t := (hb.block g hB).trans h
theorem Blk.grown {w w' : World} {g : Nat} {cs : Array Value} {t : TypeId} (h : Blk w g cs t) {row : Option Nat} (hb : w.grownBy w' row) (hB : some g ≠ row) : Blk w' g cs t := (hb.block g h.lt hB).trans h
theorem Blk.new (w : World) (cs : Array Value) (t : TypeId) : Blk (w.alloc (.cells cs t)) w.heap.size cs t := heap_alloc_new w _
theorem Blk.alloc {w : World} {g : Nat} {cs : Array Value} {t : TypeId} (h : Blk w g cs t) (o : Obj) : Blk (w.alloc o) g cs t := (Below.heap_alloc w o g h.lt).trans h
theorem Blk.drew {w : World} {g : Nat} {cs : Array Value} {t : TypeId} (h : Blk w g cs t) : Blk w.drew g cs t := h
theorem Blk.set {w : World} {g : Nat} {cs : Array Value} {t : TypeId} (h : Blk w g cs t) (j : Nat) (v : Value) : Blk (w.setCell ⟨g, j, none⟩ v) g (cs.setIfInBounds j v) t := heap_setCell_same w g j cs t v h
theorem Blk.set_other {w : World} {g : Nat} {cs : Array Value} {t : TypeId} (h : Blk w g cs t) (a : Addr) (v : Value) (hne : g ≠ a.block) : Blk (w.setCell a v) g cs t := (Below.heap_setCell w a v g hne).trans h

theorem grown_below {w w1 : World} (h : Below w.heap.size w w1) (row : Option Nat) : w.grownBy w1 row := ⟨h.os, h.tape, h.output, h.size, fun i hi _ => h.block i hi⟩
def RdI (w : World) (k : IntKind) (A : Option Addr) (xs : List Int) : Prop :=
 xs.length ≤ 140737488351232 ∧ (0 < xs.length → ∃ b o, A = some ⟨b, o, none⟩ ∧ ∀ j x, xs[j]? = some x → w.cell? ⟨b, o + j, none⟩ = some (.int k x))
theorem RdI.get {w : World} {k : IntKind} {A : Option Addr} {xs : List Int} (h : RdI w k A xs) (i : Nat) (hi : i < xs.length) :
  ∃ b o x, A = some ⟨b, o, none⟩ ∧ w.cell? ⟨b, o + i, none⟩ = some (.int k x) ∧ Hid (xs[i]? = some x) := by
 obtain ⟨b, o, e, hc⟩ := h.2 (by omega)
 exact ⟨b, o, xs[i], e, hc i _ (List.getElem?_eq_getElem hi), List.getElem?_eq_getElem hi⟩
theorem RdI.below {w w1 : World} {k : IntKind} {A : Option Addr} {xs : List Int} (h : RdI w k A xs) (hb : Below w.heap.size w w1) : RdI w1 k A xs :=
 ⟨h.1, fun hn => by
  obtain ⟨b, o, e, hc⟩ := h.2 hn
  exact ⟨b, o, e, fun j x hj => pw_cell_below hb (hc j x hj)⟩⟩
theorem take_all_succ {α : Type} {p : α → Prop} {xs : List α} {j : Nat} {x : α} (h : ∀ y ∈ xs.take j, p y) (hx : xs[j]? = some x) (hp : p x) : ∀ y ∈ xs.take (j + 1), p y := by
 intro y hy
 rw [List.take_add_one, hx] at hy
 rcases List.mem_append.1 hy with hy | hy
 ·exact h y hy
 ·simp at hy
  rw [hy]; exact hp
theorem cut_lo {P : Program} (t e : TypeId) (kl : IntKind) (sz : Nat) (ht : P.underlying t = some (.slice e)) (hs : (P.info? e).map (·.size) = some sz) (A : Option Addr) (n c m : Nat) (hm : m ≤ n) :
  ∃ A' : Option Addr, (∀ W : World, (Instr.slice t (.slice A n c) (some (.int kl (m : Int))) none none).run P W = .ok (.slice A' (n - m) (c - m)) W) ∧ (m ≠ c → A' = A.map (·.add (m * sz))) := by
 cases hq : P.info? e with
 | none => simp [hq] at hs
 | some i =>
  have hsz : i.size = sz := by simpa [hq] using hs
  refine ⟨if c = m then A else A.map (·.add (m * sz)), fun W => ?_, fun h => by rw [if_neg (fun e => h e.symm)]⟩
  have hel : P.elem t = e := by simp [Program.elem, ht]
  have hu : P.underlying t = some (.slice (P.elem t)) := by rw [hel]; exact ht
  rw [run_slice_l W t A n c hu kl (m : Int) (Int.natCast_nonneg _) (by omega), hel]
  simp [sizeOf, typeInfo, hq, hsz, sliced, Result.andThen]
theorem cut_lh {P : Program} (t e : TypeId) (kl kh : IntKind) (sz : Nat) (ht : P.underlying t = some (.slice e)) (hs : (P.info? e).map (·.size) = some sz) (A : Option Addr) (n c m k : Nat) (hm : m ≤ k) (hk : k ≤ c) :
  ∃ A' : Option Addr, (∀ W : World, (Instr.slice t (.slice A n c) (some (.int kl (m : Int))) (some (.int kh (k : Int))) none).run P W = .ok (.slice A' (k - m) (c - m)) W) ∧ (m ≠ c → A' = A.map (·.add (m * sz))) := by
 cases hq : P.info? e with
 | none => simp [hq] at hs
 | some i =>
  have hsz : i.size = sz := by simpa [hq] using hs
  refine ⟨if c = m then A else A.map (·.add (m * sz)), fun W => ?_, fun h => by rw [if_neg (fun e => h e.symm)]⟩
  have hel : P.elem t = e := by simp [Program.elem, ht]
  have hu : P.underlying t = some (.slice (P.elem t)) := by rw [hel]; exact ht
  rw [run_slice_lh W t A n c hu kl kh (m : Int) (k : Int) (Int.natCast_nonneg _) (by omega) (by omega), hel]
  simp [sizeOf, typeInfo, hq, hsz, sliced, Result.andThen]
theorem sum_ones {α : Type} (l : List α) : (l.map (fun _ => 1)).sum = l.length := by
 induction l with
 | nil => rfl
 | cons a l ih => simp [ih]; omega
theorem run_append_src {P : Program} {W : World} (base : Nat) (t e ty : TypeId) (z : Value) (sz bytes : Nat)
  (ht : P.underlying t = some (.slice e)) (hinfo : (P.info? e).map (fun i => (i.zero, i.size, i.bytes)) = some (some z, sz, bytes)) (hz : z.cells.size = sz) (hs0 : 0 < sz) (hb0 : 0 < bytes)
  (v : Value) (n : Nat) (xs news : List Value) (A : Option Addr) (m c : Nat) (HO : W.ownsRow base e sz v n xs) (hl : news.length = m * sz) (hsrc : 0 < m → ∃ ad, A = some ad ∧ ∀ j u, news[j]? = some u → W.cell? (ad.add j) = some u)
  (h1 : ∀ u ∈ news, u.oneCell' = true) (hbase : base ≤ W.heap.size) (hle : (n + m) * bytes ≤ 140737488355328) :
  ∃ v1 w1, (Builtin.append_ #[t, t] ty #[v, .slice A m c]).run P W = .ok v1 w1 ∧ w1.ownsRow base e sz v1 (n + m) (xs ++ news) ∧ W.grownBy w1 v.ownBlock ∧ (v1.ownBlock = v.ownBlock ∨ v1.ownBlock = some W.heap.size) := by
 obtain ⟨i0, hi, hzz⟩ := Option.map_eq_some_iff.1 hinfo
 simp only [Prod.mk.injEq] at hzz
 obtain ⟨hz0, hz1, hz2⟩ := hzz
 have hlen : n + m ≤ 140737488355328 := Nat.le_trans (Nat.le_mul_of_pos_right _ hb0) hle
 rcases A with _ | ad
 ·have h0 : m = 0 := by
   rcases Nat.eq_zero_or_pos m with h0 | h0
   ·exact h0
   ·obtain ⟨ad, h, _⟩ := hsrc h0
    cases h
  subst h0
  obtain rfl : news = [] := List.eq_nil_of_length_eq_zero (by rw [hl, Nat.zero_mul])
  refine ⟨v, W, ?_, by simpa using HO, World.grownBy.refl W _, .inl rfl⟩
  rcases HO.2 with ⟨rfl, hn⟩ | ⟨g, cap, cur, rfl, _, _, hnc, _⟩
  ·simp [Builtin.append_, run_underlying ht, sizeOf, typeInfo, hi, Builtin.lenOf, Builtin.firstCells]
  ·simp [Builtin.append_, run_underlying ht, sizeOf, typeInfo, hi, Builtin.lenOf, Builtin.firstCells, hnc, storeCells]
 ·have hnews : ∀ j u, news[j]? = some u → W.cell? (ad.add j) = some u := by
   intro j u hu
   rcases Nat.eq_zero_or_pos m with h0 | h0
   ·subst h0
    have hnil : news = [] := List.eq_nil_of_length_eq_zero (by rw [hl, Nat.zero_mul])
    rw [hnil] at hu
    simp at hu
   ·obtain ⟨ad', h', hc⟩ := hsrc h0
    injection h' with h'
    subst h'
    exact hc j u hu
  obtain ⟨v1, w1, hr, h2, h3, _, h5⟩ := run_append_own_at (P := P) W base t ty e i0 z sz bytes ht hi hz0 hz1 hz2 hz hs0 v n xs HO ad m c news hl hnews h1 (by simp only [maxLen]; omega) hle hbase
  exact ⟨v1, w1, hr, h2, h3, h5⟩
section
variable {P : Program} {ops : Array Oper} {rest : List Oper} {o : Oper} {a : Act} {Q : Exit → Act → World → Prop} {Kc : Act → World → Prop} {W : World}
theorem wpList_append_src (base : Nat) (hgd : o.guard = none) (s x : Operand) (t e : TypeId) (z : Value) (sz bytes : Nat)
  (ho : o.op = .call { callee := .builtin .append, args := #[s, x], argTypes := #[t, t] })
  (ht : P.underlying t = some (.slice e)) (hinfo : (P.info? e).map (fun i => (i.zero, i.size, i.bytes)) = some (some z, sz, bytes)) (hz : z.cells.size = sz) (hs0 : 0 < sz) (hb0 : 0 < bytes)
  (v : Value) (n : Nat) (xs news : List Value) (A : Option Addr) (m c : Nat) (hs : a.eval s = v) (hx : a.eval x = .slice A m c) (HO : W.ownsRow base e sz v n xs) (hl : news.length = m * sz) (hsrc : 0 < m → ∃ ad, A = some ad ∧ ∀ j u, news[j]? = some u → W.cell? (ad.add j) = some u)
  (h1 : ∀ u ∈ news, u.oneCell' = true) (hbase : base ≤ W.heap.size) (hle : (n + m) * bytes ≤ 140737488355328)
  (h : ∀ v1 w1, w1.ownsRow base e sz v1 (n + m) (xs ++ news) → W.grownBy w1 v.ownBlock → (v1.ownBlock = v.ownBlock ∨ v1.ownBlock = some W.heap.size) → wpList P ops Q rest (a.put o.dst v1) w1) :
  wpList P ops Q (o :: rest) a W := by
 obtain ⟨v1, w1, hr, h2, h3, h5⟩ := run_append_src (P := P) base t e o.type z sz bytes ht hinfo hz hs0 hb0 v n xs news A m c HO hl hsrc h1 hbase hle
 refine wpList_plain hgd fun K hK => ?_
 unfold Oper.wp execOp
 simp only [ho, resolve, invoke, builtin, Sem.run_bind, Sem.run_pure, Result.andThen_ok, List.map_toArray, List.map_cons, List.map_nil, hs, hx, hr]
 exact hK _ _ (h v1 w1 h2 h3 h5)
end
theorem RdI.src {w : World} {k : IntKind} {A : Option Addr} {xs : List Int} (h : RdI w k A xs) : 0 < xs.length → ∃ ad, A = some ad ∧ ∀ j u, (nums k xs)[j]? = some u → w.cell? (ad.add j) = some u := by
 intro hp
 obtain ⟨b, o, rfl, hc⟩ := h.2 hp
 refine ⟨_, rfl, fun j u hu => ?_⟩
 simp only [nums, List.getElem?_map, Option.map_eq_some_iff] at hu
 obtain ⟨x, hx, rfl⟩ := hu
 rw [show (⟨b, o, none⟩ : Addr).add j = ⟨b, o + j, none⟩ from by unfold Addr.add; split <;> simp_all]
 exact hc j x hx
theorem nums_one (k : IntKind) (xs : List Int) : ∀ u ∈ nums k xs, u.oneCell' = true := by
 intro u hu
 simp only [nums, List.mem_map] at hu
 obtain ⟨q, _, rfl⟩ := hu
 rfl
theorem own_rdI {w : World} {base n : Nat} {e : TypeId} {k : IntKind} {v : Value} {xs : List Int} (h : w.ownsRow base e 1 v n (nums k xs)) (hl : n ≤ 140737488351232) : ∃ A c, v = .slice A n c ∧ xs.length = n ∧ RdI w k A xs := by
 have hn : xs.length = n := by have := h.1; simp [nums] at this; exact this
 obtain ⟨h1, h2⟩ := h
 rcases h2 with ⟨rfl, rfl⟩ | ⟨g, cap, cur, rfl, hg, hh, h3, h4, h5, h6⟩
 ·exact ⟨none, 0, rfl, hn, by omega, fun hp => absurd hp (by omega)⟩
 ·refine ⟨_, cap, rfl, hn, by omega, fun _ => ⟨g, 0, rfl, fun j x hj => ?_⟩⟩
  rw [Nat.zero_add, cell_of_row w g j cur e (0, 0) hh]
  have hj2 : (nums k xs)[j]? = some (.int k x) := by simp [nums, hj]
  rw [← h6, List.getElem?_take] at hj2
  split at hj2
  ·simpa using hj2
  ·cases hj2
theorem sum_mem {α : Type} (f : α → Nat) (l : List α) {x : α} (h : x ∈ l) : f x ≤ (l.map f).sum := by
 induction l with
 | nil => cases h
 | cons a l ih =>
  rw [List.map_cons, List.sum_cons]
  rcases List.mem_cons.1 h with rfl | h
  ·omega
  ·have := ih h
   omega
theorem sum_len {α : Type} (f : α → Nat) (l : List α) (h : ∀ x, 1 ≤ f x) : l.length ≤ (l.map f).sum := by
 induction l with
 | nil => exact Nat.zero_le _
 | cons a l ih =>
  rw [List.map_cons, List.sum_cons, List.length_cons]
  have := h a
  omega
end Go.Proofs.YtofaiocffifhfaaGreatB
end
section
namespace Go.Proofs.YtofaiocffifhfaaGreatB
open Go.RowKit Go.Proofs.YtofaiocffifhfaaGreatW.PrintWords Go.Proofs.YtofaiocffifhfaaGreat

def rng (k : IntKind) : Kd Int where
 sz := 1
 E := []
 K := fun _ x cs => cs = [.int k x] ∧ (Lit.int k x).wf = true
 M := fun _ _ _ x cs => cs = [.int k x] ∧ (Lit.int k x).wf = true
 K_len := fun h => by rw [h.1]; rfl
 K_one := fun h u hu => by
  rw [h.1] at hu
  rw [List.mem_singleton.1 hu]
  rfl
 K_below := fun _ h => h
 K_of_M := fun h => h
 M_mono := fun _ h => h
 M_bound := fun h => h
 M_move := fun _ h => h
 M_lower := fun _ h => h
def knil : Kd Unit where
 sz := 0
 E := []
 K := fun _ _ cs => cs = []
 M := fun _ _ _ _ cs => cs = []
 K_len := fun h => by rw [h]; rfl
 K_one := fun h u hu => by rw [h] at hu; cases hu
 K_below := fun _ h => h
 K_of_M := fun h => h
 M_mono := fun _ h => h
 M_bound := fun h => h
 M_move := fun _ h => h
 M_lower := fun _ h => h

structure OpensAt {α : Type} (P : Program) (t : TypeId) (d : Kd α) (bk : α → Nat) (n : Nat) : Prop where
 size : P.cellsOf t = d.sz
 opens : ∀ {H : Type} (enc : TypeId × Value → H) (w : World) (base : Nat) (spare : Nat → Bool) (held : Bool) (fuel : Nat) (cs : List Value) (x : DataW H × List MemPlace), fuel ≤ n →
  DataW.trod enc P w base spare held fuel t cs = some x → ∃ a, d.K w a cs ∧ bk a ≤ Rows.uptoBulk x.1
section
variable {P : Program} {t e : TypeId}
theorem opens_int (k : IntKind) (ht : P.underlying t = some (.int k)) (hs : P.cellsOf t = 1) (n : Nat) : OpensAt P t (rng k) (fun _ => 1) n :=
 ⟨hs, fun enc w base spare held fuel cs x _ h => by
  obtain ⟨a, rfl, rfl, hw⟩ := DataW.trod_int ht h
  exact ⟨a, ⟨rfl, hw⟩, by simp [Rows.uptoBulk]⟩⟩
theorem bulk_get {H : Type} : ∀ (l : List (DataW H)) (f : Nat → Nat), (∀ i d, l[i]? = some d → f i ≤ Rows.uptoBulk d) → ((List.range l.length).map f).sum ≤ Rows.uptoBulkAll l
 | [], _, _ => by simp
 | d :: r, f, h => by
  have h0 := h 0 d rfl
  have ih := bulk_get r (fun i => f (i + 1)) (fun i d hd => h (i + 1) d (by simpa using hd))
  rw [List.length_cons, List.range_succ_eq_map, List.map_cons, List.sum_cons, List.map_map]
  simp only [Rows.uptoBulkAll]
  have : ((List.range r.length).map (f ∘ Nat.succ)).sum = ((List.range r.length).map (fun i => f (i + 1))).sum := rfl
  omega
theorem opens_slice {α : Type} [Inhabited α] {d : Kd α} {bk : α → Nat} {n : Nat} (ht : P.underlying t = some (.slice e)) (hs : P.cellsOf t = 1) (hd : OpensAt P e d bk n) : OpensAt P t (Kd.slice e d) (fun xs => (xs.map bk).sum + 1) (n + 1) :=
 ⟨hs, fun {H} enc w base spare held fuel cs x hle h => by
  rcases DataW.trod_slice ht h with ⟨rfl, rfl⟩ | ⟨a, len, cap, elems, rest, m, rfl, rfl, rfl, hb, hl, hm, hlen, hel, hsp, hns⟩
  ·exact ⟨[], ⟨none, 0, rfl, Nat.le_refl _, rfl, by simp, fun h => absurd h (Nat.lt_irrefl 0)⟩, by simp [Rows.uptoBulk]⟩
  ·have hall : ∀ i, i < len → ∃ y : α, ∃ cs', cs'.length = d.sz ∧ d.K w y cs' ∧ (∀ j u, cs'[j]? = some u → w.cell? (a.add (i * d.sz + j)) = some u) ∧ ∃ z, elems[i]? = some z ∧ bk y ≤ Rows.uptoBulk z.1 := by
    intro i hi
    have hi' : i < elems.length := by omega
    have he := hel i hi
    rw [List.getElem?_eq_getElem hi'] at he
    obtain ⟨cs', h1, h2⟩ := Option.bind_eq_some_iff.1 he
    obtain ⟨_, hl1, hc⟩ := World.cells?_some h1
    obtain ⟨y, hy, hbk⟩ := hd.opens enc w base spare held m cs' _ (by omega) h2
    refine ⟨y, cs', by rw [hl1, hd.size], hy, fun j u hu => ?_, _, List.getElem?_eq_getElem hi', hbk⟩
    have hj : j < cs'.length := by
     rcases Nat.lt_or_ge j cs'.length with hj | hj
     ·exact hj
     ·rw [List.getElem?_eq_none hj] at hu; cases hu
    have := hc j (by omega)
    rw [Go.Deep.add_add, hd.size] at this
    rw [this, hu]
   obtain ⟨f, hf⟩ := Go.Deep.choose_lt hall
   refine ⟨(List.range len).map f, ⟨some a, cap, by simp, by simpa using hl, ?_⟩, ?_⟩
   ·refine ⟨rfl, by simp only [List.length_map, List.length_range, maxLen] at hm ⊢; omega, fun _ => ⟨a, rfl, fun j p hp => ?_⟩⟩
    have hj : j < len := by
     rcases Nat.lt_or_ge j len with hj | hj
     ·exact hj
     ·rw [List.getElem?_eq_none (by simpa using hj)] at hp; cases hp
    have hpe : p = f j := by simp [hj] at hp; exact hp.symm
    subst hpe
    obtain ⟨cs', h1, h2, h3, _⟩ := hf j hj
    exact ⟨cs', h1, h2, h3⟩
   ·have hb2 := bulk_get (elems.map (·.1)) (fun i => bk (f i)) (fun i z hz => by
     rw [List.getElem?_map] at hz
     obtain ⟨z', hz', rfl⟩ := Option.map_eq_some_iff.1 hz
     have hi : i < len := by
      rcases Nat.lt_or_ge i elems.length with hj | hj
      ·omega
      ·rw [List.getElem?_eq_none hj] at hz'; cases hz'
     obtain ⟨_, _, _, _, z2, hz2, hbk⟩ := hf i hi
     rw [hz'] at hz2
     injection hz2 with hz2
     subst hz2
     exact hbk)
    rw [List.length_map, hlen] at hb2
    simp only [Rows.uptoBulk, List.map_map]
    have : ((List.range len).map (bk ∘ f)).sum = ((List.range len).map (fun i => bk (f i))).sum := rfl
    omega⟩
structure OpensFs {α : Type} (P : Program) (fs : List Field) (off : Nat) (d : Kd α) (bk : α → Nat) (n : Nat) : Prop where
 opens : ∀ {H : Type} (enc : TypeId × Value → H) (w : World) (base : Nat) (spare : Nat → Bool) (held : Bool) (fuel : Nat) (cs : List Value) (xs : List (DataW H × List MemPlace)), fuel ≤ n → cs.length = off + d.sz → xs.length = fs.length →
  (∀ (i : Nat) (f : Field), fs[i]? = some f → DataW.trod enc P w base spare held fuel f.type ((cs.drop f.offset).take (P.cellsOf f.type)) = xs[i]?) → ∃ a, d.K w a (cs.drop off) ∧ bk a ≤ Rows.uptoBulkAll (xs.map (·.1))
theorem opens_bk {α : Type} {d : Kd α} {bk bk' : α → Nat} {n : Nat} (h : OpensAt P t d bk n) (hb : ∀ a, bk' a ≤ bk a) : OpensAt P t d bk' n :=
 ⟨h.size, fun enc w base spare held fuel cs x hle hx => by
  obtain ⟨a, ha, hb'⟩ := h.opens enc w base spare held fuel cs x hle hx
  exact ⟨a, ha, by have := hb a; omega⟩⟩
end
theorem C_at {α : Type} {d : Kd α} {w : World} {A : Option Addr} {xs : List α} (h : d.C w A xs.length xs) (h1 : 0 < d.sz) (i : Nat) (hi : i < xs.length) :
  ∃ b o x cs, A = some ⟨b, o, none⟩ ∧ Hid (xs[i]? = some x) ∧ d.K w x cs ∧ ∀ j u, cs[j]? = some u → w.cell? ⟨b, o + i * d.sz + j, none⟩ = some u := by
 obtain ⟨ad, e, hc⟩ := h.2.2 (by omega)
 obtain ⟨cs, hl, hk, hcell⟩ := hc i _ (List.getElem?_eq_getElem hi)
 obtain ⟨cs0, hl0, _, hcell0⟩ := hc 0 _ (List.getElem?_eq_getElem (by omega))
 have h0 := hcell0 0 _ (List.getElem?_eq_getElem (by omega))
 obtain ⟨b, o, s⟩ := ad
 have hs : s = none := by
  cases s with
  | none => rfl
  | some s =>
   exfalso
   rw [show 0 * d.sz + 0 = 0 from by omega, Addr.add_zero'] at h0
   unfold World.cell? at h0
   split at h0 <;> simp_all
 subst hs
 refine ⟨b, o, xs[i], cs, e, List.getElem?_eq_getElem hi, hk, fun j u hu => ?_⟩
 have := hcell j u hu
 rwa [show (⟨b, o, none⟩ : Addr).add (i * d.sz + j) = ⟨b, o + i * d.sz + j, none⟩ from by unfold Addr.add; split <;> simp_all [Nat.add_assoc]] at this
theorem C_rdI {w : World} {k : IntKind} {A : Option Addr} {xs : List Int} (h : (rng k).C w A xs.length xs) (hl : xs.length ≤ 140737488351232) : RdI w k A xs := by
 refine ⟨hl, fun hp => ?_⟩
 obtain ⟨b, o, x, cs, rfl, hx, ⟨rfl, _⟩, hc⟩ := C_at h Nat.one_pos 0 hp
 refine ⟨b, o, rfl, fun j y hj => ?_⟩
 have hj' : j < xs.length := (List.getElem?_eq_some_iff.1 hj).1
 obtain ⟨b', o', y', cs', e, hy, ⟨rfl, _⟩, hc'⟩ := C_at h Nat.one_pos j hj'
 injection e with e
 injection e with e1 e2
 subst e1 e2
 rw [hy.out] at hj
 injection hj with hj
 subst hj
 have := hc' 0 _ rfl
 simpa [rng] using this
theorem C_all {w : World} {k : IntKind} {A : Option Addr} {xs : List Int} (h : (rng k).C w A xs.length xs) : ∀ x ∈ xs, (Lit.int k x).wf = true := by
 intro x hx
 obtain ⟨i, hi, rfl⟩ := List.getElem_of_mem hx
 obtain ⟨b, o, y, cs, _, hy, ⟨_, hw⟩, _⟩ := C_at h Nat.one_pos i hi
 have := hy.out
 rw [List.getElem?_eq_getElem hi] at this
 injection this with this
 rw [this]; exact hw
theorem wf_bounds {k : IntKind} {n : Int} (h : (Lit.int k n).wf = true) : k.min ≤ n ∧ n ≤ k.max := by simpa [Lit.wf] using h
end Go.Proofs.YtofaiocffifhfaaGreatB
end
section
namespace Go.Proofs.YtofaiocffifhfaaGreatB
open Go.RowKit Go.Proofs.YtofaiocffifhfaaGreatW.PrintWords Go.Proofs.YtofaiocffifhfaaGreat
inductive Ins where
 | mk (op ty a b bits : Int) (list : List Int) (th el : List Ins) (has : Bool)
instance : Inhabited Ins := ⟨.mk 0 0 0 0 0 [] [] [] false⟩
namespace Ins
def op : Ins → Int | mk o _ _ _ _ _ _ _ _ => o
def ty : Ins → Int | mk _ o _ _ _ _ _ _ _ => o
def a : Ins → Int | mk _ _ o _ _ _ _ _ _ => o
def b : Ins → Int | mk _ _ _ o _ _ _ _ _ => o
def bits : Ins → Int | mk _ _ _ _ o _ _ _ _ => o
def list : Ins → List Int | mk _ _ _ _ _ o _ _ _ => o
def th : Ins → List Ins | mk _ _ _ _ _ _ o _ _ => o
def el : Ins → List Ins | mk _ _ _ _ _ _ _ o _ => o
def has : Ins → Bool | mk _ _ _ _ _ _ _ _ o => o
end Ins
abbrev InsT := Int × Int × Int × Int × Int × List Int × List Ins × List Ins × Bool × Unit
def unIns : Ins → InsT | .mk o t a b n l th el h => (o, t, a, b, n, l, th, el, h, ())
mutual
def bkI : Ins → Nat | .mk _ _ _ _ _ l t e _ => 1 + l.length + bkL t + bkL e
def bkL : List Ins → Nat | [] => 0 | x :: r => bkI x + bkL r
end
theorem bkL_sum : ∀ l : List Ins, bkL l = (l.map bkI).sum
 | [] => by simp [bkL]
 | x :: r => by rw [bkL, bkL_sum r]; simp
theorem bkI_pos (x : Ins) : 1 ≤ bkI x := by cases x; rw [bkI]; omega
theorem bkL_mem {l : List Ins} {x : Ins} (h : x ∈ l) : bkI x ≤ bkL l := by rw [bkL_sum]; exact sum_mem bkI l h
theorem bkL_get {l : List Ins} {i : Nat} {x : Ins} (h : l[i]? = some x) : bkI x ≤ bkL l := bkL_mem (List.mem_of_getElem? h)
theorem bkL_len (l : List Ins) : l.length ≤ bkL l := by rw [bkL_sum]; exact sum_len bkI l bkI_pos
theorem bkL_th (x : Ins) : bkL x.th < bkI x := by cases x; rw [bkI]; simp only [Ins.th]; omega
theorem bkL_el (x : Ins) : bkL x.el < bkI x := by cases x; rw [bkI]; simp only [Ins.el]; omega
theorem bkL_list (x : Ins) : x.list.length < bkI x := by cases x; rw [bkI]; simp only [Ins.list]; omega
def insF (tU tE : Nat) (d : Kd Ins) : Kd Ins :=
 Kd.iso (Kd.pair (rng .i64) (Kd.pair (rng .u8) (Kd.pair (rng .u32) (Kd.pair (rng .u32) (Kd.pair (rng .u64) (Kd.pair (Kd.slice tU (rng .u32)) (Kd.pair (Kd.slice tE d) (Kd.pair (Kd.slice tE d) (Kd.pair Kd.bool knil))))))))) unIns
theorem upto_ins_sz (tU tE : Nat) (n : Nat) : (Kd.upto (insF tU tE) 9 [tU, tE] n).sz = 9 := by cases n <;> rfl
theorem upto_ins_E (tU tE : Nat) : ∀ (n q : Nat), q ∈ (Kd.upto (insF tU tE) 9 [tU, tE] n).E → q ∈ [tU, tE]
 | 0, _, h => h
 | n + 1, q, h => by
  have ih := upto_ins_E tU tE n q
  have h' : q ∈ ([] ++ ([] ++ ([] ++ ([] ++ ([] ++ ((tU :: []) ++ ((tE :: (Kd.upto (insF tU tE) 9 [tU, tE] n).E) ++ ((tE :: (Kd.upto (insF tU tE) 9 [tU, tE] n).E) ++ ([] ++ []))))))))) := h
  simp only [List.nil_append, List.append_nil, List.mem_append, List.mem_cons, List.mem_nil_iff, or_false] at h' ⊢
  rcases h' with h' | (h' | h') | (h' | h')
  ·exact .inl h'
  ·exact .inr h'
  ·simpa using ih h'
  ·exact .inr h'
  ·simpa using ih h'
def kIns (tU tE : Nat) : Kd Ins := Kd.fix (insF tU tE) 9 [tU, tE] (upto_ins_sz tU tE) (upto_ins_E tU tE)
theorem mono_insF (tU tE : Nat) : Kd.Mono (insF tU tE) :=
 Kd.mono_iso unIns (Kd.mono_pair (Kd.mono_const _) (Kd.mono_pair (Kd.mono_const _) (Kd.mono_pair (Kd.mono_const _) (Kd.mono_pair (Kd.mono_const _) (Kd.mono_pair (Kd.mono_const _) (Kd.mono_pair (Kd.mono_const _)
  (Kd.mono_pair (Kd.mono_slice tE Kd.mono_id) (Kd.mono_pair (Kd.mono_slice tE Kd.mono_id) (Kd.mono_pair (Kd.mono_const _) (Kd.mono_const _))))))))))
theorem ins_openC {tU tE : Nat} {w : World} {x : Ins} {cs : List Value} (h : (kIns tU tE).K w x cs) :
  ∃ AL cL AT cT AE cE, cs = [.int .i64 x.op, .int .u8 x.ty, .int .u32 x.a, .int .u32 x.b, .int .u64 x.bits, .slice AL x.list.length cL, .slice AT x.th.length cT, .slice AE x.el.length cE, .bool x.has] ∧
   (Lit.int .i64 x.op).wf = true ∧ (Lit.int .u8 x.ty).wf = true ∧ (Lit.int .u32 x.a).wf = true ∧ (Lit.int .u32 x.b).wf = true ∧ (Lit.int .u64 x.bits).wf = true ∧
   (rng .u32).C w AL x.list.length x.list ∧ (kIns tU tE).C w AT x.th.length x.th ∧ (kIns tU tE).C w AE x.el.length x.el ∧ x.list.length ≤ cL ∧ x.th.length ≤ cT ∧ x.el.length ≤ cE := by
 obtain ⟨n, h⟩ := h
 cases n with
 | zero => exact h.elim
 | succ n =>
  obtain ⟨op, ty, a, b, bits, list, th, el, has⟩ := x
  obtain ⟨_, _, rfl, ⟨rfl, h1⟩, _, _, rfl, ⟨rfl, h2⟩, _, _, rfl, ⟨rfl, h3⟩, _, _, rfl, ⟨rfl, h4⟩, _, _, rfl, ⟨rfl, h5⟩, _, _, rfl, ⟨AL, cL, rfl, l1, hL⟩, _, _, rfl, ⟨AT, cT, rfl, l2, hT⟩, _, _, rfl, ⟨AE, cE, rfl, l3, hE⟩, _, _, rfl, rfl, rfl⟩ := h
  exact ⟨AL, cL, AT, cT, AE, cE, rfl, h1, h2, h3, h4, h5, hL, Kd.fix_C hT, Kd.fix_C hE, l1, l2, l3⟩
end Go.Proofs.YtofaiocffifhfaaGreatB
end
section
namespace Go.Proofs.YtofaiocffifhfaaGreatB
open Go.RowKit Go.Proofs.YtofaiocffifhfaaGreatW.PrintWords
structure Agr (ok : Nat → Prop) (W W' : World) : Prop where
 os : W'.os = W.os
 tape : W'.tape = W.tape
 output : W'.output = W.output
 size : W.heap.size ≤ W'.heap.size
 block : ∀ k, ok k → k < W.heap.size → W'.heap[k]? = W.heap[k]?
theorem Agr.of_below {W W' : World} {ok : Nat → Prop} (h : Below W.heap.size W W') : Agr ok W W' := ⟨h.os, h.tape, h.output, h.size, fun k _ hk => h.block k hk⟩
theorem Agr.of_grown {W W' : World} {ok : Nat → Prop} {row : Option Nat} (h : W.grownBy W' row) (hok : ∀ k, ok k → some k ≠ row) : Agr ok W W' := ⟨h.os, h.tape, h.output, h.size, fun k hk hlt => h.block k hlt (hok k hk)⟩
theorem Agr.trans {W W1 W2 : World} {ok : Nat → Prop} (h : Agr ok W W1) (h' : Agr ok W1 W2) : Agr ok W W2 :=
 ⟨h'.os.trans h.os, h'.tape.trans h.tape, h'.output.trans h.output, Nat.le_trans h.size h'.size, fun k hk hlt => (h'.block k hk (Nat.lt_of_lt_of_le hlt h.size)).trans (h.block k hk hlt)⟩
def Ft (P : World → Prop) (W : World) (ok : Nat → Prop) : Prop := ∀ W' : World, Agr ok W W' → P W'
namespace Ft
variable {P Q : World → Prop} {W W1 : World} {ok ok' : Nat → Prop}
theorem now (h : Ft P W ok) : P W := h W ⟨rfl, rfl, rfl, Nat.le_refl _, fun _ _ _ => rfl⟩
theorem bound (h : Ft P W ok) (hb : ∀ k, ok k → k < W.heap.size → ok' k) : Ft P W ok' := fun W' hW => h W' ⟨hW.os, hW.tape, hW.output, hW.size, fun k hk hlt => hW.block k (hb k hk hlt) hlt⟩
theorem mono (h : Ft P W ok) (hok : ∀ k, ok k → ok' k) : Ft P W ok' := h.bound (fun k hk _ => hok k hk)
theorem step (h : Ft P W ok) (ha : Agr ok W W1) : Ft P W1 ok := fun W' hW => h W' (ha.trans hW)
theorem imp (h : Ft P W ok) (hi : ∀ W', P W' → Q W') : Ft Q W ok := fun W' hW => hi W' (h W' hW)
theorem and (h : Ft P W ok) (h' : Ft Q W ok) : Ft (fun W => P W ∧ Q W) W ok := fun W' hW => ⟨h W' hW, h' W' hW⟩
theorem below (h : Ft P W ok) (hb : Below W.heap.size W W1) : Ft P W1 ok := h.step (Agr.of_below hb)
theorem grown (h : Ft P W ok) {row : Option Nat} (hg : W.grownBy W1 row) (hok : ∀ k, ok k → some k ≠ row) : Ft P W1 ok := h.step (Agr.of_grown hg hok)
theorem old (h : Ft P W ok) (hb : Below W.heap.size W W1) : Ft P W1 (fun k => ok k ∧ k < W.heap.size) := (h.bound (fun k hk hlt => ⟨hk, hlt⟩)).below hb
end Ft
def FC {α : Type} (d : Kd α) (W : World) (ok : Nat → Prop) (A : Option Addr) (xs : List α) : Prop := Ft (fun W => d.C W A xs.length xs) W ok
def FK {α : Type} (d : Kd α) (W : World) (ok : Nat → Prop) (x : α) (cs : List Value) : Prop := Ft (fun W => d.K W x cs) W ok
section
variable {α : Type} {d : Kd α} {W W1 : World} {ok ok' : Nat → Prop} {A : Option Addr} {xs : List α} {x : α} {cs : List Value} {base e : Nat} {v v1 : Value}
theorem FC.of_old (h : d.C W A xs.length xs) : FC d W (fun k => k < W.heap.size) A xs := fun W' hW => Kd.C_below h ⟨hW.os, hW.tape, hW.output, hW.size, fun k hk => hW.block k hk hk⟩
theorem FK.of_old (h : d.K W x cs) : FK d W (fun k => k < W.heap.size) x cs := fun W' hW => d.K_below ⟨hW.os, hW.tape, hW.output, hW.size, fun k hk => hW.block k hk hk⟩ h
theorem FC.nil : FC d W ok none ([] : List α) := fun _ _ => Kd.C_nil d _
theorem FC.at_ (h : FC d W ok A xs) (h1 : 0 < d.sz) (i : Nat) (hi : i < xs.length) :
  ∃ b o x cs, A = some ⟨b, o, none⟩ ∧ Hid (xs[i]? = some x) ∧ FK d W ok x cs ∧ ∀ j u, cs[j]? = some u → W.cell? ⟨b, o + i * d.sz + j, none⟩ = some u := by
 obtain ⟨b, o, x, cs, rfl, hx, hk, hc⟩ := C_at h.now h1 i hi
 have hblt : b < W.heap.size := by
  have h0 : 0 < cs.length := by rw [d.K_len hk]; exact h1
  exact World.block_lt_of_cell? _ _ (hc 0 _ (List.getElem?_eq_getElem h0))
 -- the block of the row itself is ok: in a world without it the row could not be read
 have hok : ok b := by
  apply Classical.byContradiction
  intro hn
  have hW : Agr ok W { W with heap := W.heap.set b (.cells #[] 0 (0, 0)) } := ⟨rfl, rfl, rfl, by simp, fun k hk hlt => by
   have hne : b ≠ k := fun e => hn (e ▸ hk)
   simp [Array.getElem?_set, hne]⟩
  obtain ⟨b', o', x', cs', e, _, hk', hc'⟩ := C_at (h _ hW) h1 i hi
  injection e with e
  injection e with e1 e2
  subst e1 e2
  have h0 : 0 < cs'.length := by rw [d.K_len hk']; exact h1
  have := hc' 0 _ (List.getElem?_eq_getElem h0)
  simp [World.cell?, hblt] at this
 refine ⟨b, o, x, cs, rfl, hx, fun W' hW => ?_, hc⟩
 obtain ⟨b', o', x', cs', e, hx', hk', hc'⟩ := C_at (h W' hW) h1 i hi
 injection e with e
 injection e with e1 e2
 subst e1 e2
 obtain rfl : x = x' := by
  have := hx.out
  rw [hx'.out] at this
  injection this with this
  exact this.symm
 have hcs : cs = cs' := by
  apply List.ext_getElem?
  intro j
  by_cases hj : j < d.sz
  ·have l1 : j < cs.length := by rw [d.K_len hk]; exact hj
   have l2 : j < cs'.length := by rw [d.K_len hk']; exact hj
   have a1 := hc j _ (List.getElem?_eq_getElem l1)
   have a2 := hc' j _ (List.getElem?_eq_getElem l2)
   have hb := hW.block b hok hblt
   have a3 : W'.cell? ⟨b, o + i * d.sz + j, none⟩ = W.cell? ⟨b, o + i * d.sz + j, none⟩ := by simp [World.cell?, hb]
   rw [a3, a1] at a2
   rw [List.getElem?_eq_getElem l1, List.getElem?_eq_getElem l2]
   exact a2
  ·rw [List.getElem?_eq_none (by rw [d.K_len hk]; omega), List.getElem?_eq_none (by rw [d.K_len hk']; omega)]
 rw [hcs]
 exact hk'
def Own (d : Kd α) (e : Nat) (W : World) (base : Nat) (ok : Nat → Prop) (v : Value) (xs : List α) : Prop :=
 ∃ inner, W.ownsRow base e d.sz v xs.length inner ∧ Reps (fun x c => FK d W (fun k => ok k ∧ some k ≠ v.ownBlock) x c) d.sz xs inner
theorem Own.nil : Own d e W base ok (.slice none 0 0) [] := ⟨[], own_nil _ _ _ _, Reps.none _ _⟩
theorem Own.made {cur : Array Value} {c : Nat} (hs : cur.size = c * d.sz) (hc : c ≤ maxLen) (hb : base ≤ W.heap.size) : Own d e (W.alloc (.cells cur e)) base ok (.slice (some ⟨W.heap.size, 0, none⟩) 0 c) ([] : List α) :=
 ⟨[], World.ownsRow_made W cur c hb hc hs, Reps.none _ _⟩
theorem Own.below (h : Own d e W base ok v xs) (hb : Below W.heap.size W W1) : Own d e W1 base ok v xs := by
 obtain ⟨inner, ho, hr⟩ := h
 exact ⟨inner, pw_own_below ho hb, hr.imp_ (fun _ _ hp => Ft.below hp hb)⟩
theorem Own.grown (h : Own d e W base ok v xs) {row : Option Nat} (hg : W.grownBy W1 row) (hne : v.ownBlock = none ∨ v.ownBlock ≠ row) (hok : ∀ k, ok k → some k ≠ row) : Own d e W1 base ok v xs := by
 obtain ⟨inner, ho, hr⟩ := h
 exact ⟨inner, ho.kept hg hne, hr.imp_ (fun _ _ hp => Ft.grown hp hg (fun k hk => hok k hk.1))⟩
theorem Own.mono (h : Own d e W base ok v xs) (hok : ∀ k, ok k → ok' k) : Own d e W base ok' v xs := by
 obtain ⟨inner, ho, hr⟩ := h
 exact ⟨inner, ho, hr.imp_ (fun _ _ hp => Ft.mono hp (fun k hk => ⟨hok k hk.1, hk.2⟩))⟩
theorem Own.block (h : Own d e W base ok v xs) {k : Nat} (hk : v.ownBlock = some k) : base ≤ k ∧ k < W.heap.size := by
 obtain ⟨inner, ⟨h1, h2⟩, hr⟩ := h
 rcases h2 with ⟨rfl, h0⟩ | ⟨g, cap, cur, rfl, hg, hh, h3, h4, h5, h6⟩
 ·cases hk
 ·injection hk with hk
  subst hk
  exact ⟨hg, (Array.getElem?_eq_some_iff.1 hh).1⟩
theorem Own.reads (h : Own d e W base ok v xs) : ∃ A c, v = .slice A xs.length c ∧ xs.length ≤ c ∧ FC d W (fun k => ok k ∨ base ≤ k) A xs := by
 obtain ⟨inner, ho, hr⟩ := h
 have ho' := ho
 obtain ⟨h1, h2⟩ := ho
 rcases h2 with ⟨rfl, h0⟩ | ⟨g, cap, cur, rfl, hg, hh, h3, h4, h5, h6⟩
 ·obtain rfl : xs = [] := List.eq_nil_of_length_eq_zero h0
  exact ⟨none, 0, rfl, Nat.le_refl _, FC.nil⟩
 ·refine ⟨_, cap, rfl, h3, fun W' hW => ⟨rfl, ?_, fun hp => ⟨_, rfl, fun j p hj => ?_⟩⟩⟩
  ·simp only [maxLen] at h4
   omega
  ·have hjl : j < xs.length := (List.getElem?_eq_some_iff.1 hj).1
   have hk := hr.2 j p hj
   have hlt : g < W.heap.size := (Array.getElem?_eq_some_iff.1 hh).1
   have hg' : W'.heap[g]? = some (.cells cur e (0, 0)) := (hW.block g (.inr hg) hlt).trans hh
   have hkn := hk W' ⟨hW.os, hW.tape, hW.output, hW.size, fun k hk hlt => hW.block k (.inl hk.1) hlt⟩
   refine ⟨_, d.K_len hkn, hkn, fun i u hu => ?_⟩
   rw [add_plain, cell_of_row W' g _ cur e (0, 0) hg']
   have hi : i < d.sz := by
    have := (List.getElem?_eq_some_iff.1 hu).1
    rw [d.K_len hkn] at this
    exact this
   rw [List.getElem?_take, if_pos hi, List.getElem?_drop, ← h6, List.getElem?_take] at hu
   split at hu
   ·simpa using hu
   ·cases hu
end
section
variable {α : Type} {d : Kd α} {P : Program} {ops : Array Oper} {rest : List Oper} {o : Oper} {a : Act} {Q : Exit → Act → World → Prop} {W : World}
theorem Own.run_append (base : Nat) (t e ty : TypeId) (z : Value) (bytes : Nat)
  (ht : P.underlying t = some (.slice e)) (hinfo : (P.info? e).map (fun i => (i.zero, i.size, i.bytes)) = some (some z, d.sz, bytes)) (hz : z.cells.size = d.sz) (hs0 : 0 < d.sz) (hb0 : 0 < bytes)
  (v : Value) (xs : List α) (p : α) (cs : List Value) (ok : Nat → Prop) (hp : FK d W (fun k => ok k ∧ some k ≠ v.ownBlock) p cs)
  (HO : Own d e W base ok v xs) (hbase : base ≤ W.heap.size) (hl : (xs.length + 1) * bytes ≤ 140737488355328) :
  ∃ v1 w1, (Builtin.append_ #[t, t] ty #[v, .slice (some ⟨W.heap.size, 0, none⟩) 1 1]).run P (W.alloc (.cells cs.toArray e)) = .ok v1 w1 ∧ Own d e w1 base ok v1 (xs ++ [p]) ∧ W.grownBy w1 v.ownBlock ∧ (v1.ownBlock = v.ownBlock ∨ v1.ownBlock = some (W.heap.size + 1)) := by
 obtain ⟨inner, hown, hr⟩ := HO
 obtain ⟨i0, hi, hzz⟩ := Option.map_eq_some_iff.1 hinfo
 simp only [Prod.mk.injEq] at hzz
 obtain ⟨hz0, hz1, hz2⟩ := hzz
 have hlen : xs.length + 1 ≤ 140737488355328 := Nat.le_trans (Nat.le_mul_of_pos_right _ hb0) hl
 have hcl := d.K_len hp.now
 obtain ⟨v1, w1, hrun, hown1, hg, _, hat⟩ := run_append_own_at (P := P) (W.alloc (.cells cs.toArray e)) base t ty e i0 z d.sz bytes ht hi hz0 hz1 hz2 hz hs0 v xs.length inner (hown.alloc _) ⟨W.heap.size, 0, none⟩ 1 1 cs (by rw [hcl]; simp)
  (by simpa using World.news_of_block (cs := cs.toArray) (t := e) (fr := (0, 0)) (heap_alloc_new W (.cells cs.toArray e))) (d.K_one hp.now) (by simp only [maxLen]; omega) hl (by simp; omega)
 have hgW : W.grownBy w1 v.ownBlock := World.grownBy.trans (World.grownBy_alloc W _ _) hg
 refine ⟨v1, w1, hrun, ⟨inner ++ cs, by simpa using hown1, ?_⟩, hgW, ?_⟩
 ·have hnew : ∀ k, k < W.heap.size → some k ≠ v.ownBlock → some k ≠ v1.ownBlock := by
   intro k hk hne
   rcases hat with hat | hat
   ·rw [hat]; exact hne
   ·rw [hat]
    intro e
    injection e with e
    simp at e
    omega
  have hmove : ∀ p c, FK d W (fun k => ok k ∧ some k ≠ v.ownBlock) p c → FK d w1 (fun k => ok k ∧ some k ≠ v1.ownBlock) p c := fun p c hp =>
   Ft.grown (Ft.bound hp (fun k hk hlt => (⟨⟨hk.1, hnew k hlt hk.2⟩, hk.2⟩ : (ok k ∧ some k ≠ v1.ownBlock) ∧ some k ≠ v.ownBlock))) hgW (fun k hk => hk.2) |>.mono (fun k hk => hk.1)
  exact Reps.snoc (hr.imp_ hmove) (hmove _ _ hp) hcl
 ·rcases hat with hat | hat
  ·exact .inl hat
  ·exact .inr (by simpa using hat)
theorem Own.append (base : Nat) (hgd : o.guard = none) (s x : Operand) (t e : TypeId) (z : Value) (bytes : Nat)
  (ho : o.op = .call { callee := .builtin .append, args := #[s, x], argTypes := #[t, t] })
  (ht : P.underlying t = some (.slice e)) (hinfo : (P.info? e).map (fun i => (i.zero, i.size, i.bytes)) = some (some z, d.sz, bytes)) (hz : z.cells.size = d.sz) (hs0 : 0 < d.sz) (hb0 : 0 < bytes)
  (v : Value) (xs : List α) (p : α) (cs : List Value) (ok : Nat → Prop) (hs : a.eval s = v) (hx : a.eval x = .slice (some ⟨W.heap.size, 0, none⟩) 1 1) (hp : FK d W (fun k => ok k ∧ some k ≠ v.ownBlock) p cs)
  (HO : Own d e W base ok v xs) (hbase : base ≤ W.heap.size) (hl : (xs.length + 1) * bytes ≤ 140737488355328)
  (h : ∀ v1 w1, Own d e w1 base ok v1 (xs ++ [p]) → W.grownBy w1 v.ownBlock → (v1.ownBlock = v.ownBlock ∨ v1.ownBlock = some (W.heap.size + 1)) → wpList P ops Q rest (a.put o.dst v1) w1) :
  wpList P ops Q (o :: rest) a (W.alloc (.cells cs.toArray e)) := by
 obtain ⟨v1, w1, hr, h2, h3, h5⟩ := Own.run_append (P := P) base t e o.type z bytes ht hinfo hz hs0 hb0 v xs p cs ok hp HO hbase hl
 refine wpList_plain hgd fun K hK => ?_
 unfold Oper.wp execOp
 simp only [ho, resolve, invoke, builtin, Sem.run_bind, Sem.run_pure, Result.andThen_ok, List.map_toArray, List.map_cons, List.map_nil, hs, hx, hr]
 exact hK _ _ (h v1 w1 h2 h3 h5)
theorem Own.append_step (base : Nat) {E : Prop} {Kc : Act → World → Prop} (hgd : o.guard = none) (s x : Operand) (t e : TypeId) (z : Value) (bytes : Nat)
  (ho : o.op = .call { callee := .builtin .append, args := #[s, x], argTypes := #[t, t] })
  (ht : P.underlying t = some (.slice e)) (hinfo : (P.info? e).map (fun i => (i.zero, i.size, i.bytes)) = some (some z, d.sz, bytes)) (hz : z.cells.size = d.sz) (hs0 : 0 < d.sz) (hb0 : 0 < bytes)
  (v : Value) (xs : List α) (p : α) (cs : List Value) (ok : Nat → Prop) (hs : a.eval s = v) (hx : a.eval x = .slice (some ⟨W.heap.size, 0, none⟩) 1 1) (hp : FK d W (fun k => ok k ∧ some k ≠ v.ownBlock) p cs)
  (HO : Own d e W base ok v xs) (hbase : base ≤ W.heap.size) (hl : (xs.length + 1) * bytes ≤ 140737488355328)
  (h : ∀ v1 w1, Own d e w1 base ok v1 (xs ++ [p]) → W.grownBy w1 v.ownBlock → (v1.ownBlock = v.ownBlock ∨ v1.ownBlock = some (W.heap.size + 1)) → Kc (a.put o.dst v1) w1) :
  if Region.wanted o (yielded ops a.tmps) = true then Oper.wp P o a (W.alloc (.cells cs.toArray e)) Kc Q else E := by
 have hw : Region.wanted o (yielded ops a.tmps) = true := by simp [Region.wanted, hgd]
 rw [if_pos hw]
 obtain ⟨v1, w1, hr, h2, h3, h5⟩ := Own.run_append (P := P) base t e o.type z bytes ht hinfo hz hs0 hb0 v xs p cs ok hp HO hbase hl
 unfold Oper.wp execOp
 simp only [ho, resolve, invoke, builtin, Sem.run_bind, Sem.run_pure, Result.andThen_ok, List.map_toArray, List.map_cons, List.map_nil, hs, hx, hr]
 exact h v1 w1 h2 h3 h5
end
theorem ins_openF {tU tE : Nat} {w : World} {ok : Nat → Prop} {x : Ins} {cs : List Value} (h : FK (kIns tU tE) w ok x cs) :
  ∃ AL cL AT cT AE cE, cs = [.int .i64 x.op, .int .u8 x.ty, .int .u32 x.a, .int .u32 x.b, .int .u64 x.bits, .slice AL x.list.length cL, .slice AT x.th.length cT, .slice AE x.el.length cE, .bool x.has] ∧
   (Lit.int .i64 x.op).wf = true ∧ (Lit.int .u8 x.ty).wf = true ∧ (Lit.int .u32 x.a).wf = true ∧ (Lit.int .u32 x.b).wf = true ∧ (Lit.int .u64 x.bits).wf = true ∧
   FC (rng .u32) w ok AL x.list ∧ FC (kIns tU tE) w ok AT x.th ∧ FC (kIns tU tE) w ok AE x.el ∧ x.list.length ≤ cL ∧ x.th.length ≤ cT ∧ x.el.length ≤ cE := by
 obtain ⟨AL, cL, AT, cT, AE, cE, rfl, h1, h2, h3, h4, h5, _, _, _, l1, l2, l3⟩ := ins_openC h.now
 refine ⟨AL, cL, AT, cT, AE, cE, rfl, h1, h2, h3, h4, h5, fun W' hW => ?_, fun W' hW => ?_, fun W' hW => ?_, l1, l2, l3⟩
 all_goals
  obtain ⟨AL', cL', AT', cT', AE', cE', e, _, _, _, _, _, a, b, c, _⟩ := ins_openC (h W' hW)
  simp only [List.cons.injEq, Value.slice.injEq, and_true, true_and] at e
  obtain ⟨⟨rfl, _⟩, ⟨rfl, _⟩, rfl, _⟩ := e
  assumption
theorem ins_mkF {tU tE : Nat} {w : World} {ok : Nat → Prop} {x : Ins} {AL AT AE : Option Addr} {cL cT cE : Nat} (h1 : (Lit.int .i64 x.op).wf = true) (h2 : (Lit.int .u8 x.ty).wf = true) (h3 : (Lit.int .u32 x.a).wf = true) (h4 : (Lit.int .u32 x.b).wf = true) (h5 : (Lit.int .u64 x.bits).wf = true)
  (hL : FC (rng .u32) w ok AL x.list) (hT : FC (kIns tU tE) w ok AT x.th) (hE : FC (kIns tU tE) w ok AE x.el) (l1 : x.list.length ≤ cL) (l2 : x.th.length ≤ cT) (l3 : x.el.length ≤ cE) :
  FK (kIns tU tE) w ok x [.int .i64 x.op, .int .u8 x.ty, .int .u32 x.a, .int .u32 x.b, .int .u64 x.bits, .slice AL x.list.length cL, .slice AT x.th.length cT, .slice AE x.el.length cE, .bool x.has] := fun W' hW => by
 obtain ⟨n, hn⟩ := Kd.fix_C_back (mono_insF tU tE) (hT W' hW)
 obtain ⟨m, hm⟩ := Kd.fix_C_back (mono_insF tU tE) (hE W' hW)
 have hn' := Kd.upto_C_le (mono_insF tU tE) (upto_ins_sz tU tE) (Nat.le_max_left n m) hn
 have hm' := Kd.upto_C_le (mono_insF tU tE) (upto_ins_sz tU tE) (Nat.le_max_right n m) hm
 have hL' := hL W' hW
 obtain ⟨op, ty, a, b, bits, list, th, el, has⟩ := x
 exact ⟨max n m + 1, _, _, rfl, ⟨rfl, h1⟩, _, _, rfl, ⟨rfl, h2⟩, _, _, rfl, ⟨rfl, h3⟩, _, _, rfl, ⟨rfl, h4⟩, _, _, rfl, ⟨rfl, h5⟩, _, _, rfl, ⟨AL, cL, rfl, l1, hL'⟩, _, _, rfl, ⟨AT, cT, rfl, l2, hn'⟩, _, _, rfl, ⟨AE, cE, rfl, l3, hm'⟩, _, _, rfl, rfl, rfl⟩
end Go.Proofs.YtofaiocffifhfaaGreatB
end
section
namespace Go.Proofs.YtofaiocffifhfaaGreat
open Go.RowKit YtofaiocffifhfaaGreatB Go.Proofs.YtofaiocffifhfaaGreatW.PrintWords
abbrev kI := kIns 30 153
abbrev kR := kIns 30 151
theorem infoR : (Tryz.prog.info? 151).map (fun i => (i.zero, i.size, i.bytes)) = some (some (.agg #[.int .i64 0, .int .u8 0, .int .u32 0, .int .u32 0, .int .u64 0, .slice none 0 0, .slice none 0 0, .slice none 0 0, .bool false]), 9, 112) := by kernel_rfl
def PlainPost (w : World) (ok : Nat → Prop) (l : List Ins) (e : Ending) (w' : World) : Prop :=
 Below w.heap.size w w' ∧ ∃ A c, e = .returned (.slice A l.length c) ∧ l.length ≤ c ∧ FC kR w' (fun k => ok k ∨ w.heap.size ≤ k) A l
abbrev insCells (x : Ins) (AL AT AE : Option Addr) (cL cT cE : Nat) : Array Value := #[.int .i64 x.op, .int .u8 x.ty, .int .u32 x.a, .int .u32 x.b, .int .u64 x.bits, .slice AL x.list.length cL, .slice AT x.th.length cT, .slice AE x.el.length cE, .bool x.has]
theorem plain_elem {t w0 : Nat} {ok : Nat → Prop} {W W1 W2 : World} {v : Value} {xs : List Ins} {x : Ins} {AL A1 A2 : Option Addr} {cL c1 c2 : Nat}
  (hw0 : w0 ≤ W.heap.size) (hO : Own kR t W w0 (fun k => ok k ∨ w0 ≤ k) v xs) (hB1 : Below W.heap.size W W1) (hB2 : Below W1.heap.size W1 W2)
  (hL : FC (rng .u32) W (fun k => ok k ∧ k < w0) AL x.list) (hT : FC kR W1 (fun k => (ok k ∧ k < w0) ∨ W.heap.size ≤ k) A1 x.th) (hE : FC kR W2 (fun k => (ok k ∧ k < w0) ∨ W1.heap.size ≤ k) A2 x.el)
  (h1 : (Lit.int .i64 x.op).wf = true) (h2 : (Lit.int .u8 x.ty).wf = true) (h3 : (Lit.int .u32 x.a).wf = true) (h4 : (Lit.int .u32 x.b).wf = true) (h5 : (Lit.int .u64 x.bits).wf = true)
  (l1 : x.list.length ≤ cL) (l2 : x.th.length ≤ c1) (l3 : x.el.length ≤ c2) :
  FK kR W2 (fun k => (ok k ∨ w0 ≤ k) ∧ some k ≠ v.ownBlock) x (insCells x AL A1 A2 cL c1 c2).toList ∧ Own kR t W2 w0 (fun k => ok k ∨ w0 ≤ k) v xs := by
 have hs1 := hB1.size
 have hv : ∀ k, v.ownBlock = some k → w0 ≤ k ∧ k < W.heap.size := fun k hk => hO.block hk
 have ha : ∀ k, ok k ∧ k < w0 → (ok k ∨ w0 ≤ k) ∧ some k ≠ v.ownBlock := fun k hk => ⟨.inl hk.1, fun e => by have := hv k e.symm; omega⟩
 refine ⟨ins_mkF h1 h2 h3 h4 h5 (((hL.below hB1).below hB2).mono ha) ((hT.below hB2).mono ?_) (hE.mono ?_) l1 l2 l3, (hO.below hB1).below hB2⟩
 ·rintro k (hk | hk)
  ·exact ha k hk
  ·exact ⟨.inr (by omega), fun e => by have := hv k e.symm; omega⟩
 ·rintro k (hk | hk)
  ·exact ha k hk
  ·exact ⟨.inr (by omega), fun e => by have := hv k e.symm; omega⟩
set_option maxRecDepth 100000 in
set_option maxHeartbeats 4000000 in
theorem plain_any : ∀ (n : Nat) (l : List Ins), bkL l ≤ n → n ≤ 1048576 → ∀ (ok : Nat → Prop) (w : World) (A : Option Addr) (c : Nat), FC kI w ok A l →
  Calls Tryz.prog 31 #[.slice A l.length c] w (PlainPost w ok l) := by
 intro n
 induction n using Nat.strongRecOn with
 | ind n ih =>
 intro l hbk hn ok w A c hF
 have hlen := bkL_len l
 have IH := Lib.hid ih
 have hF2 : FC kI w (fun k => ok k ∧ k < w.heap.size) A l := Ft.bound hF (fun k hk hlt => ⟨hk, hlt⟩)
 clear ih hF
 go_enter Tryz.func31, Tryz.ntmps31
 go_wp2_with fail
 go_loopw [3, 8] (fun v k wr => ∃ j : Nat, j ≤ l.length ∧ k = .int .i64 j ∧ Own kR 151 wr w.heap.size (fun k => ok k ∨ w.heap.size ≤ k) v (l.take j) ∧ Below w.heap.size w wr) (fun _ k _ => l.length - (intOf k).toNat)
 case atStart => exact ⟨0, Nat.zero_le _, rfl, Own.nil, Below.refl _ _⟩
 case round =>
  obtain ⟨j, hj, rfl, hown, hB⟩ := hrel
  have hsz := hB.size
  by_cases hlt : j < l.length
  ·obtain ⟨b, o, x, cs, rfl, hx, hk, hc⟩ := FC.at_ (Ft.below hF2 hB) (by decide) j hlt
   obtain ⟨AL, cL, AT, cT, AE, cE, rfl, g1, g2, g3, g4, g5, hL, hT, hE, l1, l2, l3⟩ := ins_openF hk
   have hz : kI.sz = 9 := rfl
   have d0 := hc 0 _ rfl
   have d1 := hc 1 _ rfl
   have d2 := hc 2 _ rfl
   have d3 := hc 3 _ rfl
   have d4 := hc 4 _ rfl
   have d5 := hc 5 _ rfl
   have d6 := hc 6 _ rfl
   have d7 := hc 7 _ rfl
   have d8 := hc 8 _ rfl
   simp only [hz, Nat.add_zero] at d0 d1 d2 d3 d4 d5 d6 d7 d8
   have hblt : b < wr.heap.size := World.block_lt_of_cell? _ _ d0
   have hbx := bkL_get hx.out
   have hbt := bkL_th x
   have hbe := bkL_el x
   clear hc hk hz
   have hBl : Below w.heap.size w (wr.alloc (.cells (insCells x AL AT AE cL cT cE) 153)) := hB.alloc (by omega) _
   have hTl := Lib.hid (Ft.below hT ((Below.refl wr.heap.size wr).alloc (Nat.le_refl _) (.cells (insCells x AL AT AE cL cT cE) 153)))
   have hEl := Lib.hid (Ft.below hE ((Below.refl wr.heap.size wr).alloc (Nat.le_refl _) (.cells (insCells x AL AT AE cL cT cE) 153)))
   have hLl := Lib.hid (Ft.below hL ((Below.refl wr.heap.size wr).alloc (Nat.le_refl _) (.cells (insCells x AL AT AE cL cT cE) 153)))
   have hOl := Own.below hown ((Below.refl wr.heap.size wr).alloc (Nat.le_refl _) (.cells (insCells x AL AT AE cL cT cE) 153))
   have hW := Blk.new wr (insCells x AL AT AE cL cT cE) 153
   go_wp2_with fail
   have hsW : (wr.alloc (.cells (insCells x AL AT AE cL cT cE) 153)).heap.size = wr.heap.size + 1 := World.size_alloc _ _
   simp only [insCells] at hW hBl hTl hEl hLl hOl hsW
   generalize hWe : wr.alloc (.cells #[.int .i64 x.op, .int .u8 x.ty, .int .u32 x.a, .int .u32 x.b, .int .u64 x.bits, .slice AL x.list.length cL, .slice AT x.th.length cT, .slice AE x.el.length cE, .bool x.has] 153) = W at *
   have hvb := Lib.hid (show ∀ k, u3.ownBlock = some k → w.heap.size ≤ k ∧ k < wr.heap.size from fun k hk => hown.block hk)
   have hne : some wr.heap.size ≠ u3.ownBlock := fun e => by have := hvb.out _ e.symm; omega
   have hOd := Lib.hid (hOl.below ((Below.refl W.heap.size W).drew))
   have hTd := Lib.hid (Ft.below hTl.out ((Below.refl W.heap.size W).drew))
   have hEd := Lib.hid (Ft.below hEl.out ((Below.refl W.heap.size W).drew))
   have hLd := Lib.hid (Ft.below hLl.out ((Below.refl W.heap.size W).drew))
   have hBd := Lib.hid hBl.drew
   clear hWe hown hOl hTl hEl hLl hBl
   have e0 : W.cell? ⟨wr.heap.size, 0, none⟩ = some (.int .i64 x.op) := by rw [hW.cell]; rfl
   have e1 : W.cell? ⟨wr.heap.size, 1, none⟩ = some (.int .u8 x.ty) := by rw [hW.cell]; rfl
   have e2 : W.cell? ⟨wr.heap.size, 2, none⟩ = some (.int .u32 x.a) := by rw [hW.cell]; rfl
   have e3 : W.cell? ⟨wr.heap.size, 3, none⟩ = some (.int .u32 x.b) := by rw [hW.cell]; rfl
   have e4 : W.cell? ⟨wr.heap.size, 4, none⟩ = some (.int .u64 x.bits) := by rw [hW.cell]; rfl
   have e5 : W.cell? ⟨wr.heap.size, 5, none⟩ = some (.slice AL x.list.length cL) := by rw [hW.cell]; rfl
   have e6 : W.cell? ⟨wr.heap.size, 6, none⟩ = some (.slice AT x.th.length cT) := by rw [hW.cell]; rfl
   have e7 : W.cell? ⟨wr.heap.size, 7, none⟩ = some (.slice AE x.el.length cE) := by rw [hW.cell]; rfl
   have e8 : W.cell? ⟨wr.heap.size, 8, none⟩ = some (.bool x.has) := by rw [hW.cell]; rfl
   go_region_held3 (fun w' => w'.cell? ⟨wr.heap.size, 0, none⟩ = some (.int .i64 x.op) ∧ w'.cell? ⟨wr.heap.size, 1, none⟩ = some (.int .u8 x.ty) ∧ w'.cell? ⟨wr.heap.size, 2, none⟩ = some (.int .u32 x.a) ∧ w'.cell? ⟨wr.heap.size, 3, none⟩ = some (.int .u32 x.b) ∧ w'.cell? ⟨wr.heap.size, 4, none⟩ = some (.int .u64 x.bits) ∧ w'.cell? ⟨wr.heap.size, 5, none⟩ = some (.slice AL x.list.length cL) ∧ w'.cell? ⟨wr.heap.size, 6, none⟩ = some (.slice AT x.th.length cT) ∧ w'.cell? ⟨wr.heap.size, 7, none⟩ = some (.slice AE x.el.length cE) ∧ w'.cell? ⟨wr.heap.size, 8, none⟩ = some (.bool x.has))
    (first | exact ⟨e0, e1, e2, e3, e4, e5, e6, e7, e8⟩ | exact ⟨World.grownBy.cell hg1 (pw_cell_below (w := W.drew) hB12 e0) hne, World.grownBy.cell hg1 (pw_cell_below (w := W.drew) hB12 e1) hne, World.grownBy.cell hg1 (pw_cell_below (w := W.drew) hB12 e2) hne, World.grownBy.cell hg1 (pw_cell_below (w := W.drew) hB12 e3) hne, World.grownBy.cell hg1 (pw_cell_below (w := W.drew) hB12 e4) hne, World.grownBy.cell hg1 (pw_cell_below (w := W.drew) hB12 e5) hne, World.grownBy.cell hg1 (pw_cell_below (w := W.drew) hB12 e6) hne, World.grownBy.cell hg1 (pw_cell_below (w := W.drew) hB12 e7) hne, World.grownBy.cell hg1 (pw_cell_below (w := W.drew) hB12 e8) hne⟩ | exact ⟨pw_cell_below (w := W.drew) (hB13 _) e0, pw_cell_below (w := W.drew) (hB13 _) e1, pw_cell_below (w := W.drew) (hB13 _) e2, pw_cell_below (w := W.drew) (hB13 _) e3, pw_cell_below (w := W.drew) (hB13 _) e4, pw_cell_below (w := W.drew) (hB13 _) e5, pw_cell_below (w := W.drew) (hB13 _) e6, pw_cell_below (w := W.drew) (hB13 _) e7, pw_cell_below (w := W.drew) (hB13 _) e8⟩ | exact ⟨pw_cell_below (w := W.drew) hB12 e0, pw_cell_below (w := W.drew) hB12 e1, pw_cell_below (w := W.drew) hB12 e2, pw_cell_below (w := W.drew) hB12 e3, pw_cell_below (w := W.drew) hB12 e4, pw_cell_below (w := W.drew) hB12 e5, pw_cell_below (w := W.drew) hB12 e6, pw_cell_below (w := W.drew) hB12 e7, pw_cell_below (w := W.drew) hB12 e8⟩ | exact ⟨pw_cell_below (w := W.drew) hB1 e0, pw_cell_below (w := W.drew) hB1 e1, pw_cell_below (w := W.drew) hB1 e2, pw_cell_below (w := W.drew) hB1 e3, pw_cell_below (w := W.drew) hB1 e4, pw_cell_below (w := W.drew) hB1 e5, pw_cell_below (w := W.drew) hB1 e6, pw_cell_below (w := W.drew) hB1 e7, pw_cell_below (w := W.drew) hB1 e8⟩)
    (first
     | (go_at_call_of 31 (Value.slice AT x.th.length cT); refine (IH.out (bkL x.th) (by omega) x.th (Nat.le_refl _) (by omega) (fun k => ok k ∧ k < w.heap.size) _ AT cT hTd.out).mono ?_; rintro e1' W1 ⟨hB1, A1, c1, rfl, hl1, hF1⟩)
     | (go_at_call_of 31 (Value.slice AE x.el.length cE); refine (IH.out (bkL x.el) (by omega) x.el (Nat.le_refl _) (by omega) (fun k => ok k ∧ k < w.heap.size) _ AE cE (Ft.below hEd.out hB1)).mono ?_; rintro e2' W2 ⟨hB2, A2, c2, rfl, hl2, hG2⟩; have hB12 := hB1.trans (hB2.mono hB1.size); have hB13 := fun o' => hB12.alloc hB12.size o'; obtain ⟨hK, hO2⟩ := plain_elem (by exact hBd.out.size) hOd.out hB1 hB2 hLd.out hF1 hG2 g1 g2 g3 g4 g5 l1 hl1 hl2)
     | (refine Own.append_step w.heap.size rfl (.tmp 12) (.tmp 34) 85 151 _ 112 rfl Tryz.underlying85 infoR rfl (by decide) (by decide) u3 (l.take j) x _ (fun k => ok k ∨ w.heap.size ≤ k) rfl rfl hK hO2 ?_ ?_ ?_; (exact Nat.le_trans hBd.out.size (Nat.le_trans hB1.size hB2.size)); (rw [List.length_take]; omega); intro v1 w1 hown1 hg1 hat1; have hBw1 := (hBd.out.trans (hB12.mono hBd.out.size)).grown hg1 (Nat.le_trans hBd.out.size (Nat.le_trans hB1.size hB2.size)) (fun k hk => (hvb.out k hk).1)))
   ·clear hK hO2 hF1 hG2 hat1
    rw [show l.take j ++ [x] = l.take (j + 1) from by rw [List.take_add_one, hx.out]; rfl] at hown1
    go_wp2_with fail
    go_roundw
    case rel => exact ⟨j + 1, by omega, by go_num, hown1, hBw1⟩
    case measure => simp [intOf]; omega
  ·obtain rfl : j = l.length := by omega
   rw [List.take_length] at hown
   obtain ⟨A', c', rfl, hl', hF'⟩ := hown.reads
   go_wp2_with fail
   go_ret
   exact ⟨hB, A', c', rfl, hl', hF'.mono (fun k hk => by rcases hk with (hk | hk) | hk; exact .inl hk; exact .inr hk; exact .inr hk)⟩
end Go.Proofs.YtofaiocffifhfaaGreat
end
section
namespace Go.Proofs.YtofaiocffifhfaaGreatB
open Go.RowKit Go.Proofs.YtofaiocffifhfaaGreatW.PrintWords
theorem gset (W : World) (b i : Nat) (v : Value) : W.grownBy (W.setCell ⟨b, i, none⟩ v) (some b) :=
 ⟨rfl, rfl, rfl, by simp [World.setCell], fun k _ hk => Below.heap_setCell W _ v k (fun e => hk (by rw [e]))⟩
def ByQ (W : World) (q : Nat) (A : Option Addr) (B : List Int) : Prop :=
 0 < B.length → ∃ o, A = some ⟨q, o, none⟩ ∧ ∀ j x, B[j]? = some x → W.cell? ⟨q, o + j, none⟩ = some (.int .u8 x)
theorem ByQ.grown {W W' : World} {q : Nat} {A : Option Addr} {B : List Int} (h : ByQ W q A B) {row : Option Nat} (hg : W.grownBy W' row) (hq : some q ≠ row) : ByQ W' q A B := fun hp => by
 obtain ⟨o, e, hc⟩ := h hp
 exact ⟨o, e, fun j x hj => by
  have hx := hc j x hj
  have hlt := World.block_lt_of_cell? _ _ hx
  rw [← hx]
  exact World.cell?_of_block (hg.block q hlt hq)⟩
theorem ByQ.at_ {W : World} {q : Nat} {A : Option Addr} {B : List Int} (h : ByQ W q A B) (i : Nat) (hi : i < B.length) : ∃ o x, A = some ⟨q, o, none⟩ ∧ Hid (B[i]? = some x) ∧ W.cell? ⟨q, o + i, none⟩ = some (.int .u8 x) := by
 obtain ⟨o, e, hc⟩ := h (by omega)
 exact ⟨o, B[i], e, List.getElem?_eq_getElem hi, hc i _ (List.getElem?_eq_getElem hi)⟩
def Byts (B : List Int) : Prop := B.length ≤ 1048576 ∧ ∀ x ∈ B, 0 ≤ x ∧ x ≤ 255
theorem Byts.get {B : List Int} (h : Byts B) {i : Nat} {x : Int} (hx : B[i]? = some x) : 0 ≤ x ∧ x ≤ 255 := h.2 x (List.mem_of_getElem? hx)
end Go.Proofs.YtofaiocffifhfaaGreatB
namespace Go.Proofs.YtofaiocffifhfaaGreat
open Go.RowKit YtofaiocffifhfaaGreatB Go.Proofs.YtofaiocffifhfaaGreatW.PrintWords
def CurB (W : World) (p q : Nat) (A : Option Addr) (c : Nat) (B : List Int) (a : Nat) (e : Int) : Prop :=
 Blk W p #[.slice A B.length c, .int .i64 a, .int .i64 e] 124 ∧ ByQ W q A B
def Cur (W : World) (p q : Nat) (B : List Int) (a : Nat) (e : Int) : Prop := p ≠ q ∧ a ≤ B.length ∧ ∃ A c, B.length ≤ c ∧ CurB W p q A c B a e
theorem Cur.grown {W W' : World} {p q : Nat} {B : List Int} {a : Nat} {e : Int} (h : Cur W p q B a e) {row : Option Nat} (hg : W.grownBy W' row) (hp : some p ≠ row) (hq : some q ≠ row) : Cur W' p q B a e := by
 obtain ⟨h0, h1, A, c, h2, h3, h4⟩ := h
 exact ⟨h0, h1, A, c, h2, h3.grown hg hp, h4.grown hg hq⟩
theorem Cur.below {W W' : World} {p q : Nat} {B : List Int} {a : Nat} {e : Int} (h : Cur W p q B a e) (hb : Below W.heap.size W W') : Cur W' p q B a e := h.grown (grown_below hb none) (by simp) (by simp)
theorem Cur.alloc {W : World} {p q : Nat} {B : List Int} {a : Nat} {e : Int} (h : Cur W p q B a e) (o : Obj) : Cur (W.alloc o) p q B a e := h.grown (World.grownBy_alloc W o none) (by simp) (by simp)
theorem Cur.lt {W : World} {p q : Nat} {B : List Int} {a : Nat} {e : Int} (h : Cur W p q B a e) : p < W.heap.size := by
 obtain ⟨_, _, A, c, _, h3, _⟩ := h
 exact h3.lt
theorem Cur.set {W : World} {p q : Nat} {B : List Int} {a : Nat} {e : Int} (h : Cur W p q B a e) (a' : Nat) (e' : Int) (ha : a' ≤ B.length) : Cur ((W.setCell ⟨p, 2, none⟩ (.int .i64 e')).setCell ⟨p, 1, none⟩ (.int .i64 a')) p q B a' e' := by
 obtain ⟨h0, h1, A, c, h2, h3, h4⟩ := h
 refine ⟨h0, ha, A, c, h2, ?_, ?_⟩
 ·have := (h3.set 2 (.int .i64 e')).set 1 (.int .i64 a')
  simpa using this
 ·exact (h4.grown (gset W p 2 (.int .i64 e')) (fun e => h0 (by injection e with e; exact e.symm))).grown (gset _ p 1 (.int .i64 a')) (fun e => h0 (by injection e with e; exact e.symm))
theorem Cur.setAt {W : World} {p q : Nat} {B : List Int} {a : Nat} {e : Int} (h : Cur W p q B a e) (a' : Nat) (ha : a' ≤ B.length) : Cur (W.setCell ⟨p, 1, none⟩ (.int .i64 a')) p q B a' e := by
 obtain ⟨h0, h1, A, c, h2, h3, h4⟩ := h
 refine ⟨h0, ha, A, c, h2, ?_, ?_⟩
 ·have := h3.set 1 (.int .i64 a')
  simpa using this
 ·exact h4.grown (gset _ p 1 (.int .i64 a')) (fun e => h0 (by injection e with e; exact e.symm))
def Goes (W W' : World) (p q : Nat) (B : List Int) (a : Nat) (e : Int) : Prop := Cur W' p q B a e ∧ W.grownBy W' (some p)
theorem Goes.same {W : World} {p q : Nat} {B : List Int} {a : Nat} {e : Int} (h : Cur W p q B a e) : Goes W W p q B a e := ⟨h, World.grownBy.refl W _⟩
theorem Goes.drewN {W : World} {p q : Nat} {B : List Int} {a : Nat} {e : Int} (h : Cur W p q B a e) (m : Nat) : Goes W (W.drewN m) p q B a e := ⟨h.below ⟨rfl, rfl, rfl, Nat.le_refl _, fun _ _ => rfl⟩, ⟨rfl, rfl, rfl, Nat.le_refl _, fun _ _ _ => rfl⟩⟩
theorem Goes.trans {W W1 W2 : World} {p q : Nat} {B : List Int} {a a' : Nat} {e e' : Int} (h : Goes W W1 p q B a e) (h' : Goes W1 W2 p q B a' e') : Goes W W2 p q B a' e' := ⟨h'.1, h.2.trans h'.2⟩
theorem Cur.cells {W : World} {p q : Nat} {B : List Int} {a : Nat} {e : Int} (h : Cur W p q B a e) :
  ∃ A c, W.cell? ⟨p, 0, none⟩ = some (.slice A B.length c) ∧ W.cell? ⟨p, 1, none⟩ = some (.int .i64 a) ∧ W.cell? ⟨p, 2, none⟩ = some (.int .i64 e) ∧ W.frozen? ⟨p, 0, none⟩ = false ∧ W.frozen? ⟨p, 1, none⟩ = false ∧ W.frozen? ⟨p, 2, none⟩ = false ∧ B.length ≤ c ∧ ByQ W q A B ∧ p < W.heap.size ∧ a ≤ B.length := by
 obtain ⟨h0, h1, A, c, h2, h3, h4⟩ := h
 exact ⟨A, c, by rw [h3.cell]; rfl, by rw [h3.cell]; rfl, by rw [h3.cell]; rfl, h3.frozen 0, h3.frozen 1, h3.frozen 2, h2, h4, h3.lt, h1⟩
theorem good_any (W : World) (p q : Nat) (B : List Int) (a : Nat) (e : Int) (b : Bool) (hC : Cur W p q B a e) (hb : (e == 0) = b) :
  Calls Tryz.prog 96 #[.pointer (some ⟨p, 0, none⟩)] W fun E w' => E = .returned (.bool b) ∧ W = w' := by
 obtain ⟨A, c, c0, c1, c2, f0, f1, f2, hle, hq, hlt, ha⟩ := hC.cells
 have HB := Lib.hid hb
 clear hb hC
 go_enter Tryz.func96, Tryz.ntmps96
 go_wp2
 go_ret
 exact ⟨by rw [← HB.out]; rfl, rfl⟩
theorem at_any (W : World) (p q : Nat) (B : List Int) (a : Nat) (e : Int) (hC : Cur W p q B a e) :
  Calls Tryz.prog 16 #[.pointer (some ⟨p, 0, none⟩)] W fun E w' => E = .returned (.int .i64 a) ∧ W = w' := by
 obtain ⟨A, c, c0, c1, c2, f0, f1, f2, hle, hq, hlt, ha⟩ := hC.cells
 clear hC
 go_enter Tryz.func16, Tryz.ntmps16
 go_wp2
 go_ret
 exact ⟨rfl, rfl⟩
theorem err_any (W : World) (p q : Nat) (B : List Int) (a : Nat) (e : Int) (hC : Cur W p q B a e) :
  Calls Tryz.prog 15 #[.pointer (some ⟨p, 0, none⟩)] W fun E w' => E = .returned (.int .i64 e) ∧ W = w' := by
 obtain ⟨A, c, c0, c1, c2, f0, f1, f2, hle, hq, hlt, ha⟩ := hC.cells
 clear hC
 go_enter Tryz.func15, Tryz.ntmps15
 go_wp2
 go_ret
 exact ⟨rfl, rfl⟩
theorem left_any (W : World) (p q : Nat) (B : List Int) (a : Nat) (e : Int) (hC : Cur W p q B a e) (hB : Byts B) :
  Calls Tryz.prog 40 #[.pointer (some ⟨p, 0, none⟩)] W fun E w' => E = .returned (.int .i64 ((B.length : Int) - a)) ∧ Goes W w' p q B a e := by
 have HC := Lib.hid hC
 obtain ⟨A, c, c0, c1, c2, f0, f1, f2, hle, hq, hlt, ha⟩ := hC.cells
 have hl := hB.1
 clear hC hB
 go_enter Tryz.func40, Tryz.ntmps40
 go_wp2
 go_quiet (fail)
 go_wp2
 go_ret
 exact ⟨rfl, Goes.drewN HC.out _⟩
set_option maxHeartbeats 400000 in
theorem fail_yes (W : World) (p q : Nat) (B : List Int) (a a' : Nat) (e' : Int) (hC : Cur W p q B a 0) (he : (e' == 0) = false) (ha' : a' ≤ B.length) :
  Calls Tryz.prog 64 #[.pointer (some ⟨p, 0, none⟩), .int .i64 e', .int .i64 a'] W fun E w' => E = .returned (.tuple #[]) ∧ Goes W w' p q B a' e' := by
 have HC := Lib.hid hC
 have he2 : (e' != 0) = true := by simp only [bne, he]; rfl
 obtain ⟨A, c, c0, c1, c2, f0, f1, f2, hle, hq, hlt, ha⟩ := hC.cells
 clear hC
 go_enter Tryz.func64, Tryz.ntmps64
 go_wp2_with (go_at_call 96; refine (good_any _ _ _ _ _ _ true HC.out rfl).mono ?_; rintro e w' ⟨rfl, rfl⟩)
 go_end0
 exact ⟨rfl, HC.out.set a' e' ha', (gset _ _ _ _).trans (gset _ _ _ _)⟩
theorem fail_no (W : World) (p q : Nat) (B : List Int) (a : Nat) (e e' a' : Int) (hC : Cur W p q B a e) (he : (e == 0) = false) :
  Calls Tryz.prog 64 #[.pointer (some ⟨p, 0, none⟩), .int .i64 e', .int .i64 a'] W fun E w' => E = .returned (.tuple #[]) ∧ W = w' := by
 have HC := Lib.hid hC
 have HE := Lib.hid he
 clear hC he
 go_enter Tryz.func64, Tryz.ntmps64
 go_wp2_with (go_at_call 96; refine (good_any _ _ _ _ _ _ false HC.out HE.out).mono ?_; rintro e w' ⟨rfl, rfl⟩)
 go_end0
 exact ⟨rfl, rfl⟩
def failE (e e' : Int) : Int := if e = 0 then e' else e
set_option maxRecDepth 100000 in
theorem Fail_any (W : World) (p q : Nat) (B : List Int) (a : Nat) (e e' : Int) (hC : Cur W p q B a e) (he : (e' == 0) = false) :
  Calls Tryz.prog 36 #[.pointer (some ⟨p, 0, none⟩), .int .i64 e'] W fun E w' => E = .returned (.tuple #[]) ∧ Goes W w' p q B a (failE e e') := by
 have HC := Lib.hid hC
 obtain ⟨A, c, c0, c1, c2, f0, f1, f2, hle, hq, hlt, ha⟩ := hC.cells
 have H := Lib.hid (show ∀ W', Cur W' p q B a e → Calls Tryz.prog 64 #[.pointer (some ⟨p, 0, none⟩), .int .i64 e', .int .i64 a] W' fun E w' => E = .returned (.tuple #[]) ∧ Goes W' w' p q B a (failE e e') from fun W' h => by
  by_cases h0 : e = 0
  ·subst h0
   rw [failE, if_pos rfl]
   exact fail_yes W' p q B a a e' h he ha
  ·rw [failE, if_neg h0]
   exact (fail_no W' p q B a e e' a h (beq_eq_false_iff_ne.2 h0)).mono (by rintro E w' ⟨rfl, rfl⟩; exact ⟨rfl, Goes.same h⟩))
 clear hC he
 go_enter Tryz.func36, Tryz.ntmps36
 go_wp2_with fail
 go_still_tail 9, (by kernel_rfl)
 change wpList _ _ _ _ _ W.drew
 have HD := Lib.hid (show Cur W.drew p q B a e from HC.out.below ⟨rfl, rfl, rfl, Nat.le_refl _, fun _ _ => rfl⟩)
 have HG := Lib.hid (show W.grownBy W.drew (some p) from ⟨rfl, rfl, rfl, Nat.le_refl _, fun _ _ _ => rfl⟩)
 generalize W.drew = W2 at *
 go_wp2_with (go_at_call 64; refine (H.out _ HD.out).mono ?_; rintro e w' ⟨rfl, hG⟩)
 go_end0
 exact ⟨rfl, hG.1, HG.out.trans hG.2⟩
theorem infoB : (Tryz.prog.info? 5).map (·.size) = some 1 := by kernel_rfl
set_option maxRecDepth 100000 in
theorem take_no (W : World) (p q : Nat) (B : List Int) (a n : Nat) (hC : Cur W p q B a 0) (hB : Byts B) (hn : B.length < a + n) (hn2 : n ≤ 4294967296) :
  Calls Tryz.prog 70 #[.pointer (some ⟨p, 0, none⟩), .int .i64 n] W fun E w' => E = .returned (.slice none 0 0) ∧ Goes W w' p q B a 100 := by
 have hl := hB.1
 go_enter Tryz.func70, Tryz.ntmps70
 go_wp2_with fail
 refine (left_any _ _ _ _ _ _ hC hB).mono ?_
 rintro E1 W1 ⟨rfl, hG1⟩
 obtain ⟨A, c, c0, c1, c2, f0, f1, f2, hle, hq, hlt, ha⟩ := hG1.1.cells
 have HG1 := Lib.hid hG1
 clear hq hC hB hG1
 go_wp2_with fail
 go_still_tail 8, (by kernel_rfl)
 change wpList _ _ _ _ _ W1.drew
 have HD := Lib.hid (Goes.trans HG1.out (Goes.drewN HG1.out.1 1))
 have HDC := Lib.hid (show Cur W1.drew p q B a 0 from HD.out.1)
 clear HG1
 have HG2 := Lib.hid (show W.grownBy W1.drew (some p) from HD.out.2)
 clear HD
 generalize W1.drew = W2 at *
 go_wp2_with (go_at_call 64; refine (fail_yes _ _ _ _ _ _ _ HDC.out rfl ha).mono ?_; rintro e w' ⟨rfl, hG⟩)
 go_ret
 exact ⟨rfl, hG.1, HG2.out.trans hG.2⟩
set_option maxRecDepth 100000 in
theorem take_yes (W : World) (p q : Nat) (B : List Int) (a n : Nat) (hC : Cur W p q B a 0) (hB : Byts B) (hn : a + n ≤ B.length) :
  Calls Tryz.prog 70 #[.pointer (some ⟨p, 0, none⟩), .int .i64 n] W fun E w' => (∃ A' c', E = .returned (.slice A' n c') ∧ ByQ w' q A' ((B.drop a).take n)) ∧ Goes W w' p q B (a + n) 0 := by
 have hl := hB.1
 go_enter Tryz.func70, Tryz.ntmps70
 go_wp2_with fail
 refine (left_any _ _ _ _ _ _ hC hB).mono ?_
 rintro E1 W1 ⟨rfl, hG1⟩
 obtain ⟨A, c, c0, c1, c2, f0, f1, f2, hle, hq, hlt, ha⟩ := hG1.1.cells
 have HQ := Lib.hid hq
 have HG1 := Lib.hid hG1
 clear hC hB hq hG1
 obtain ⟨A', hrun, hA'⟩ := cut_lh (P := Tryz.prog) 22 5 .i64 .i64 1 Tryz.underlying22 infoB A B.length c a (a + n) (by omega) (by omega)
 rw [Int.natCast_add] at hrun
 have HA := Lib.hid hA'
 clear hA'
 have hQ := Lib.hid (show ByQ W1 q A' ((B.drop a).take n) from fun hp => by
  have hn0 : 0 < n ∧ a < B.length := by rw [List.length_take, List.length_drop] at hp; omega
  obtain ⟨o, rfl, hc⟩ := HQ.out (by omega)
  refine ⟨o + a, by rw [HA.out (by omega)]; simp [Addr.add] <;> omega, fun j x hj => ?_⟩
  rw [List.getElem?_take] at hj
  split at hj
  ·rw [List.getElem?_drop] at hj
   rw [Nat.add_assoc]
   exact hc _ _ hj
  ·cases hj)
 clear HQ
 go_wp2_with fail
 have hw : IntKind.i64.wrap ((a : Int) + n - n) = a := by rw [IntKind.wrap_i64]; omega
 go_quiet (fail)
 go_wp2
 have h2 : Cur (W1.setCell ⟨p, 1, none⟩ (.int .i64 ((a : Int) + n))) p q B (a + n) 0 := by rw [← Int.natCast_add]; exact HG1.out.1.setAt (a + n) hn
 have h3 : Goes W ((W1.setCell ⟨p, 1, none⟩ (.int .i64 ((a : Int) + n))).drewN nq) p q B (a + n) 0 := (HG1.out.trans ⟨h2, gset _ _ _ _⟩).trans (Goes.drewN h2 nq)
 go_ret
 exact ⟨⟨A', c - a, rfl, (hQ.out.grown (gset W1 p 1 (.int .i64 ((a : Int) + n))) (fun e => h2.1 (by injection e with e; exact e.symm))).grown (row := none) ⟨rfl, rfl, rfl, Nat.le_refl _, fun _ _ _ => rfl⟩ (by simp)⟩, h3⟩
end Go.Proofs.YtofaiocffifhfaaGreat
end
section
namespace Go.Proofs.YtofaiocffifhfaaGreat
open Go.RowKit Go.Shelf YtofaiocffifhfaaGreatB Go.Proofs.YtofaiocffifhfaaGreatW.PrintWords
def rsV (v e' : Int) : Int := if e' = 0 then v else 0
def rsA (a a' : Nat) (e' : Int) : Nat := if e' = 0 then a' else a
def RsPost (f : Int → Value) (W : World) (p q : Nat) (B : List Int) (a : Nat) (e' : Int) (R : Int → Nat → Prop) (E : Ending) (w' : World) : Prop := ∃ v nx, R v nx ∧ E = .returned (f (rsV v e')) ∧ Goes W w' p q B (rsA a nx e') e'
set_option maxRecDepth 100000 in
theorem reads_bad_byte (W : World) (p q : Nat) (B : List Int) (a : Nat) (e : Int) (f : Value) (hC : Cur W p q B a e) (he : (e == 0) = false) :
  Calls Tryz.prog 68 #[.pointer (some ⟨p, 0, none⟩), f] W fun E w' => E = .returned (.int .u8 0) ∧ W = w' := by
 have HC := Lib.hid hC
 have HE := Lib.hid he
 clear hC he
 go_enter Tryz.func68, Tryz.ntmps68
 go_wp2_with (go_at_call 96; refine (good_any _ _ _ _ _ _ false HC.out HE.out).mono ?_; rintro e w' ⟨rfl, rfl⟩)
 go_ret
 exact ⟨rfl, rfl⟩
set_option maxRecDepth 100000 in
theorem reads_ex_byte (W : World) (p q : Nat) (B : List Int) (a : Nat) (g : FuncId) (hent : Enters Tryz.prog g) (lb : Array Value) (R : Int → Nat → Prop) (e' : Int) (hC : Cur W p q B a 0)
  (hg : Calls Tryz.prog g lb W fun E w' => ∃ v nx, E = .returned (.int .u8 v) ∧ R v nx ∧ Goes W w' p q B nx e') :
  Calls Tryz.prog 68 #[.pointer (some ⟨p, 0, none⟩), .func (.func g) #[] lb] W (RsPost (Value.int .u8) W p q B a e' R) := by
 have HC := Lib.hid hC
 have HG := Lib.hid hg
 obtain ⟨A, c, c0, c1, c2, f0, f1, f2, hle, hq, hlt, ha⟩ := hC.cells
 have hin : ∀ args w, Sem.run Tryz.prog (callFunc g args) w = .ok (.enter g args) w := hent
 clear hC hg hq hent
 go_enter Tryz.func68, Tryz.ntmps68
 go_wp2_with fail
 refine (good_any _ _ _ _ _ _ true HC.out rfl).mono ?_
 rintro E w' ⟨rfl, rfl⟩
 go_wp2_with fail
 refine HG.out.mono ?_
 rintro E W2 ⟨v, a', rfl, hR, hG2⟩
 have HR := Lib.hid hR
 clear hR
 by_cases he : e' = 0
 ·subst he
  have HG2 := Lib.hid hG2
  clear hG2 HG
  go_wp2_with fail
  refine (good_any _ _ _ _ _ _ true HG2.out.1 rfl).mono ?_
  rintro E w' ⟨rfl, rfl⟩
  go_wp2_with fail
  go_ret
  exact ⟨v, a', HR.out, rfl, HG2.out⟩
 ·have he2 : (e' == 0) = false := beq_eq_false_iff_ne.2 he
  have HE2 := Lib.hid he2
  obtain ⟨A', c', g0, g1, g2, k0, k1, k2, gle, gq, glt, ga⟩ := hG2.1.cells
  have HG2 := Lib.hid hG2
  have HE := Lib.hid he
  clear hG2 HG gq he2 he
  go_wp2_with fail
  refine (good_any _ _ _ _ _ _ false HG2.out.1 HE2.out).mono ?_
  rintro E w' ⟨rfl, rfl⟩
  go_wp2_with fail
  go_ret
  refine ⟨v, a', HR.out, ?_⟩
  rw [rsV, rsA, if_neg HE.out, if_neg HE.out]
  exact ⟨rfl, HG2.out.1.setAt a ha, HG2.out.2.trans (gset _ _ _ _)⟩
theorem reads_byte (W : World) (p q : Nat) (B : List Int) (a : Nat) (g : FuncId) (hent : Enters Tryz.prog g) (lb : Array Value) (v : Int) (a' : Nat) (e' : Int) (hC : Cur W p q B a 0)
  (hg : Calls Tryz.prog g lb W fun E w' => E = .returned (.int .u8 v) ∧ Goes W w' p q B a' e') :
  Calls Tryz.prog 68 #[.pointer (some ⟨p, 0, none⟩), .func (.func g) #[] lb] W fun E w' => E = .returned (.int .u8 (rsV v e')) ∧ Goes W w' p q B (rsA a a' e') e' :=
 (reads_ex_byte W p q B a g hent lb (fun x n => x = v ∧ n = a') e' hC (hg.mono fun E w' h => ⟨v, a', h.1, ⟨rfl, rfl⟩, h.2⟩)).mono fun E w' h => by
  obtain ⟨x, n, ⟨rfl, rfl⟩, h1, h2⟩ := h
  exact ⟨h1, h2⟩
set_option maxRecDepth 100000 in
theorem reads_bad_uint32 (W : World) (p q : Nat) (B : List Int) (a : Nat) (e : Int) (f : Value) (hC : Cur W p q B a e) (he : (e == 0) = false) :
  Calls Tryz.prog 59 #[.pointer (some ⟨p, 0, none⟩), f] W fun E w' => E = .returned (.int .u32 0) ∧ W = w' := by
 have HC := Lib.hid hC
 have HE := Lib.hid he
 clear hC he
 go_enter Tryz.func59, Tryz.ntmps59
 go_wp2_with (go_at_call 96; refine (good_any _ _ _ _ _ _ false HC.out HE.out).mono ?_; rintro e w' ⟨rfl, rfl⟩)
 go_ret
 exact ⟨rfl, rfl⟩
set_option maxRecDepth 100000 in
theorem reads_ex_uint32 (W : World) (p q : Nat) (B : List Int) (a : Nat) (g : FuncId) (hent : Enters Tryz.prog g) (lb : Array Value) (R : Int → Nat → Prop) (e' : Int) (hC : Cur W p q B a 0)
  (hg : Calls Tryz.prog g lb W fun E w' => ∃ v nx, E = .returned (.int .u32 v) ∧ R v nx ∧ Goes W w' p q B nx e') :
  Calls Tryz.prog 59 #[.pointer (some ⟨p, 0, none⟩), .func (.func g) #[] lb] W (RsPost (Value.int .u32) W p q B a e' R) := by
 have HC := Lib.hid hC
 have HG := Lib.hid hg
 obtain ⟨A, c, c0, c1, c2, f0, f1, f2, hle, hq, hlt, ha⟩ := hC.cells
 have hin : ∀ args w, Sem.run Tryz.prog (callFunc g args) w = .ok (.enter g args) w := hent
 clear hC hg hq hent
 go_enter Tryz.func59, Tryz.ntmps59
 go_wp2_with fail
 refine (good_any _ _ _ _ _ _ true HC.out rfl).mono ?_
 rintro E w' ⟨rfl, rfl⟩
 go_wp2_with fail
 refine HG.out.mono ?_
 rintro E W2 ⟨v, a', rfl, hR, hG2⟩
 have HR := Lib.hid hR
 clear hR
 by_cases he : e' = 0
 ·subst he
  have HG2 := Lib.hid hG2
  clear hG2 HG
  go_wp2_with fail
  refine (good_any _ _ _ _ _ _ true HG2.out.1 rfl).mono ?_
  rintro E w' ⟨rfl, rfl⟩
  go_wp2_with fail
  go_ret
  exact ⟨v, a', HR.out, rfl, HG2.out⟩
 ·have he2 : (e' == 0) = false := beq_eq_false_iff_ne.2 he
  have HE2 := Lib.hid he2
  obtain ⟨A', c', g0, g1, g2, k0, k1, k2, gle, gq, glt, ga⟩ := hG2.1.cells
  have HG2 := Lib.hid hG2
  have HE := Lib.hid he
  clear hG2 HG gq he2 he
  go_wp2_with fail
  refine (good_any _ _ _ _ _ _ false HG2.out.1 HE2.out).mono ?_
  rintro E w' ⟨rfl, rfl⟩
  go_wp2_with fail
  go_ret
  refine ⟨v, a', HR.out, ?_⟩
  rw [rsV, rsA, if_neg HE.out, if_neg HE.out]
  exact ⟨rfl, HG2.out.1.setAt a ha, HG2.out.2.trans (gset _ _ _ _)⟩
theorem reads_uint32 (W : World) (p q : Nat) (B : List Int) (a : Nat) (g : FuncId) (hent : Enters Tryz.prog g) (lb : Array Value) (v : Int) (a' : Nat) (e' : Int) (hC : Cur W p q B a 0)
  (hg : Calls Tryz.prog g lb W fun E w' => E = .returned (.int .u32 v) ∧ Goes W w' p q B a' e') :
  Calls Tryz.prog 59 #[.pointer (some ⟨p, 0, none⟩), .func (.func g) #[] lb] W fun E w' => E = .returned (.int .u32 (rsV v e')) ∧ Goes W w' p q B (rsA a a' e') e' :=
 (reads_ex_uint32 W p q B a g hent lb (fun x n => x = v ∧ n = a') e' hC (hg.mono fun E w' h => ⟨v, a', h.1, ⟨rfl, rfl⟩, h.2⟩)).mono fun E w' h => by
  obtain ⟨x, n, ⟨rfl, rfl⟩, h1, h2⟩ := h
  exact ⟨h1, h2⟩
set_option maxRecDepth 100000 in
theorem reads_bad_uint64 (W : World) (p q : Nat) (B : List Int) (a : Nat) (e : Int) (f : Value) (hC : Cur W p q B a e) (he : (e == 0) = false) :
  Calls Tryz.prog 162 #[.pointer (some ⟨p, 0, none⟩), f] W fun E w' => E = .returned (.int .u64 0) ∧ W = w' := by
 have HC := Lib.hid hC
 have HE := Lib.hid he
 clear hC he
 go_enter Tryz.func162, Tryz.ntmps162
 go_wp2_with (go_at_call 96; refine (good_any _ _ _ _ _ _ false HC.out HE.out).mono ?_; rintro e w' ⟨rfl, rfl⟩)
 go_ret
 exact ⟨rfl, rfl⟩
set_option maxRecDepth 100000 in
theorem reads_ex_uint64 (W : World) (p q : Nat) (B : List Int) (a : Nat) (g : FuncId) (hent : Enters Tryz.prog g) (lb : Array Value) (R : Int → Nat → Prop) (e' : Int) (hC : Cur W p q B a 0)
  (hg : Calls Tryz.prog g lb W fun E w' => ∃ v nx, E = .returned (.int .u64 v) ∧ R v nx ∧ Goes W w' p q B nx e') :
  Calls Tryz.prog 162 #[.pointer (some ⟨p, 0, none⟩), .func (.func g) #[] lb] W (RsPost (Value.int .u64) W p q B a e' R) := by
 have HC := Lib.hid hC
 have HG := Lib.hid hg
 obtain ⟨A, c, c0, c1, c2, f0, f1, f2, hle, hq, hlt, ha⟩ := hC.cells
 have hin : ∀ args w, Sem.run Tryz.prog (callFunc g args) w = .ok (.enter g args) w := hent
 clear hC hg hq hent
 go_enter Tryz.func162, Tryz.ntmps162
 go_wp2_with fail
 refine (good_any _ _ _ _ _ _ true HC.out rfl).mono ?_
 rintro E w' ⟨rfl, rfl⟩
 go_wp2_with fail
 refine HG.out.mono ?_
 rintro E W2 ⟨v, a', rfl, hR, hG2⟩
 have HR := Lib.hid hR
 clear hR
 by_cases he : e' = 0
 ·subst he
  have HG2 := Lib.hid hG2
  clear hG2 HG
  go_wp2_with fail
  refine (good_any _ _ _ _ _ _ true HG2.out.1 rfl).mono ?_
  rintro E w' ⟨rfl, rfl⟩
  go_wp2_with fail
  go_ret
  exact ⟨v, a', HR.out, rfl, HG2.out⟩
 ·have he2 : (e' == 0) = false := beq_eq_false_iff_ne.2 he
  have HE2 := Lib.hid he2
  obtain ⟨A', c', g0, g1, g2, k0, k1, k2, gle, gq, glt, ga⟩ := hG2.1.cells
  have HG2 := Lib.hid hG2
  have HE := Lib.hid he
  clear hG2 HG gq he2 he
  go_wp2_with fail
  refine (good_any _ _ _ _ _ _ false HG2.out.1 HE2.out).mono ?_
  rintro E w' ⟨rfl, rfl⟩
  go_wp2_with fail
  go_ret
  refine ⟨v, a', HR.out, ?_⟩
  rw [rsV, rsA, if_neg HE.out, if_neg HE.out]
  exact ⟨rfl, HG2.out.1.setAt a ha, HG2.out.2.trans (gset _ _ _ _)⟩
theorem reads_uint64 (W : World) (p q : Nat) (B : List Int) (a : Nat) (g : FuncId) (hent : Enters Tryz.prog g) (lb : Array Value) (v : Int) (a' : Nat) (e' : Int) (hC : Cur W p q B a 0)
  (hg : Calls Tryz.prog g lb W fun E w' => E = .returned (.int .u64 v) ∧ Goes W w' p q B a' e') :
  Calls Tryz.prog 162 #[.pointer (some ⟨p, 0, none⟩), .func (.func g) #[] lb] W fun E w' => E = .returned (.int .u64 (rsV v e')) ∧ Goes W w' p q B (rsA a a' e') e' :=
 (reads_ex_uint64 W p q B a g hent lb (fun x n => x = v ∧ n = a') e' hC (hg.mono fun E w' h => ⟨v, a', h.1, ⟨rfl, rfl⟩, h.2⟩)).mono fun E w' h => by
  obtain ⟨x, n, ⟨rfl, rfl⟩, h1, h2⟩ := h
  exact ⟨h1, h2⟩
set_option maxRecDepth 100000 in
theorem reads_bad_int (W : World) (p q : Nat) (B : List Int) (a : Nat) (e : Int) (f : Value) (hC : Cur W p q B a e) (he : (e == 0) = false) :
  Calls Tryz.prog 94 #[.pointer (some ⟨p, 0, none⟩), f] W fun E w' => E = .returned (.int .i64 0) ∧ W = w' := by
 have HC := Lib.hid hC
 have HE := Lib.hid he
 clear hC he
 go_enter Tryz.func94, Tryz.ntmps94
 go_wp2_with (go_at_call 96; refine (good_any _ _ _ _ _ _ false HC.out HE.out).mono ?_; rintro e w' ⟨rfl, rfl⟩)
 go_ret
 exact ⟨rfl, rfl⟩
set_option maxRecDepth 100000 in
theorem reads_ex_int (W : World) (p q : Nat) (B : List Int) (a : Nat) (g : FuncId) (hent : Enters Tryz.prog g) (lb : Array Value) (R : Int → Nat → Prop) (e' : Int) (hC : Cur W p q B a 0)
  (hg : Calls Tryz.prog g lb W fun E w' => ∃ v nx, E = .returned (.int .i64 v) ∧ R v nx ∧ Goes W w' p q B nx e') :
  Calls Tryz.prog 94 #[.pointer (some ⟨p, 0, none⟩), .func (.func g) #[] lb] W (RsPost (Value.int .i64) W p q B a e' R) := by
 have HC := Lib.hid hC
 have HG := Lib.hid hg
 obtain ⟨A, c, c0, c1, c2, f0, f1, f2, hle, hq, hlt, ha⟩ := hC.cells
 have hin : ∀ args w, Sem.run Tryz.prog (callFunc g args) w = .ok (.enter g args) w := hent
 clear hC hg hq hent
 go_enter Tryz.func94, Tryz.ntmps94
 go_wp2_with fail
 refine (good_any _ _ _ _ _ _ true HC.out rfl).mono ?_
 rintro E w' ⟨rfl, rfl⟩
 go_wp2_with fail
 refine HG.out.mono ?_
 rintro E W2 ⟨v, a', rfl, hR, hG2⟩
 have HR := Lib.hid hR
 clear hR
 by_cases he : e' = 0
 ·subst he
  have HG2 := Lib.hid hG2
  clear hG2 HG
  go_wp2_with fail
  refine (good_any _ _ _ _ _ _ true HG2.out.1 rfl).mono ?_
  rintro E w' ⟨rfl, rfl⟩
  go_wp2_with fail
  go_ret
  exact ⟨v, a', HR.out, rfl, HG2.out⟩
 ·have he2 : (e' == 0) = false := beq_eq_false_iff_ne.2 he
  have HE2 := Lib.hid he2
  obtain ⟨A', c', g0, g1, g2, k0, k1, k2, gle, gq, glt, ga⟩ := hG2.1.cells
  have HG2 := Lib.hid hG2
  have HE := Lib.hid he
  clear hG2 HG gq he2 he
  go_wp2_with fail
  refine (good_any _ _ _ _ _ _ false HG2.out.1 HE2.out).mono ?_
  rintro E w' ⟨rfl, rfl⟩
  go_wp2_with fail
  go_ret
  refine ⟨v, a', HR.out, ?_⟩
  rw [rsV, rsA, if_neg HE.out, if_neg HE.out]
  exact ⟨rfl, HG2.out.1.setAt a ha, HG2.out.2.trans (gset _ _ _ _)⟩
end Go.Proofs.YtofaiocffifhfaaGreat
end
section
namespace Go.Proofs.YtofaiocffifhfaaGreat
open Go.RowKit Go.Shelf YtofaiocffifhfaaGreatB Go.Proofs.YtofaiocffifhfaaGreatW.PrintWords
theorem Goes.of_alloc {W W' : World} {p q : Nat} {B : List Int} {a : Nat} {e : Int} {o : Obj} (h : Goes (W.alloc o) W' p q B a e) : Goes W W' p q B a e := ⟨h.1, (World.grownBy_alloc W o _).trans h.2⟩
theorem ent_Byte1 : Enters Tryz.prog 69 := enters_of Tryz.func69 (by kernel_rfl) rfl
theorem ent_U321 : Enters Tryz.prog 60 := enters_of Tryz.func60 (by kernel_rfl) rfl
theorem ent_S321 : Enters Tryz.prog 160 := enters_of Tryz.func160 (by kernel_rfl) rfl
theorem ent_S641 : Enters Tryz.prog 163 := enters_of Tryz.func163 (by kernel_rfl) rfl
theorem ent_Fixed1 : Enters Tryz.prog 164 := enters_of Tryz.func164 (by kernel_rfl) rfl
theorem ent_Count1 : Enters Tryz.prog 95 := enters_of Tryz.func95 (by kernel_rfl) rfl
theorem ent_among1 : Enters Tryz.prog 99 := enters_of Tryz.func99 (by kernel_rfl) rfl
theorem ent_lU1 : Enters Tryz.prog 98 := enters_of Tryz.func98 (by kernel_rfl) rfl
theorem ent_lS1 : Enters Tryz.prog 169 := enters_of Tryz.func169 (by kernel_rfl) rfl
theorem ent_lU : Enters Tryz.prog 62 := enters_of Tryz.func62 (by kernel_rfl) rfl
theorem ent_lS : Enters Tryz.prog 161 := enters_of Tryz.func161 (by kernel_rfl) rfl
def rdByte (B : List Int) (a : Nat) (e : Int) : Int × Nat × Int := if e = 0 then (match B[a]? with | some x => (x, a + 1, 0) | none => (0, a, 100)) else (0, a, e)
set_option maxRecDepth 100000 in
theorem Byte1_any (W : World) (p q r : Nat) (B : List Int) (a : Nat) (hC : Cur W p q B a 0) (hB : Byts B) (hr : W.cell? ⟨r, 0, none⟩ = some (.pointer (some ⟨p, 0, none⟩))) :
  Calls Tryz.prog 69 #[.pointer (some ⟨r, 0, none⟩)] W fun E w' => E = .returned (.int .u8 (rdByte B a 0).1) ∧ Goes W w' p q B (rdByte B a 0).2.1 (rdByte B a 0).2.2 := by
 have hl := hB.1
 have ha := hC.2.1
 rcases Nat.lt_or_ge a B.length with hlt | hge
 ·have hx : B[a]? = some B[a] := List.getElem?_eq_getElem hlt
  have HV := Lib.hid (show rdByte B a 0 = (B[a], a + 1, 0) from by simp [rdByte, hx])
  have HT := Lib.hid (take_yes W p q B a 1 hC hB (by omega))
  have hxx : ((B.drop a).take 1)[0]? = some B[a] := by rw [List.getElem?_take, if_pos (by omega), List.getElem?_drop]; exact hx
  have HX := Lib.hid hxx
  have hl1 : ((B.drop a).take 1).length = 1 := by rw [List.length_take, List.length_drop]; omega
  have HL := Lib.hid hl1
  clear hC hB hxx hl1 hx
  go_enter Tryz.func69, Tryz.ntmps69
  go_wp2_with fail
  refine HT.out.mono ?_
  rintro E W1 ⟨⟨A', c', rfl, hq⟩, hG⟩
  have HG := Lib.hid hG
  obtain ⟨o, rfl, hc⟩ := hq (by rw [HL.out]; omega)
  have x0 : W1.cell? ⟨q, o, none⟩ = some (.int .u8 B[a]) := hc 0 _ HX.out
  clear hG hq hc HT
  go_wp2_with fail
  go_ret
  rw [HV.out]
  exact ⟨rfl, HG.out⟩
 ·obtain rfl : a = B.length := by omega
  have HV := Lib.hid (show rdByte B B.length 0 = (0, B.length, 100) from by simp [rdByte])
  have HT := Lib.hid (take_no W p q B B.length 1 hC hB (by omega) (by omega))
  clear hC hB
  go_enter Tryz.func69, Tryz.ntmps69
  go_wp2_with fail
  refine HT.out.mono ?_
  rintro E W1 ⟨rfl, hG⟩
  have HG := Lib.hid hG
  clear hG HT
  go_wp2_with fail
  go_ret
  rw [HV.out]
  exact ⟨rfl, HG.out⟩
set_option maxRecDepth 100000 in
theorem Byte_any (W : World) (p q : Nat) (B : List Int) (a : Nat) (e : Int) (hC : Cur W p q B a e) (hB : Byts B) :
  Calls Tryz.prog 41 #[.pointer (some ⟨p, 0, none⟩)] W fun E w' => E = .returned (.int .u8 (rdByte B a e).1) ∧ Goes W w' p q B (rdByte B a e).2.1 (rdByte B a e).2.2 := by
 have hC2 := hC.alloc (.cells #[.pointer (some ⟨p, 0, none⟩)] 53)
 by_cases he : e = 0
 ·subst he
  have H := Lib.hid (reads_byte _ p q B a _ ent_Byte1 #[.pointer (some ⟨W.heap.size, 0, none⟩)] _ _ _ hC2 (Byte1_any _ p q W.heap.size B a hC2 hB (by rw [(Blk.new W #[.pointer (some ⟨p, 0, none⟩)] 53).cell 0]; rfl)))
  have HV := Lib.hid (show rsV (rdByte B a 0).1 (rdByte B a 0).2.2 = (rdByte B a 0).1 ∧ rsA a (rdByte B a 0).2.1 (rdByte B a 0).2.2 = (rdByte B a 0).2.1 from by
   unfold rdByte rsV rsA; cases B[a]? <;> simp)
  clear hC hC2 hB
  go_enter Tryz.func41, Tryz.ntmps41
  go_wp2_with fail
  refine H.out.mono ?_
  rintro E W1 ⟨rfl, hG⟩
  rw [HV.out.1]
  rw [HV.out.2] at hG
  have HG := Lib.hid hG
  clear hG H
  go_wp2_with fail
  go_ret
  exact ⟨rfl, HG.out.of_alloc⟩
 ·have H := Lib.hid (reads_bad_byte _ p q B a e (.func (.func 69) #[] #[.pointer (some ⟨W.heap.size, 0, none⟩)]) hC2 (beq_eq_false_iff_ne.2 he))
  have HV := Lib.hid (show rdByte B a e = (0, a, e) from by simp [rdByte, he])
  have HG := Lib.hid (Goes.of_alloc (Goes.same hC2))
  clear hC hC2 hB he
  go_enter Tryz.func41, Tryz.ntmps41
  go_wp2_with fail
  refine H.out.mono ?_
  rintro E W1 ⟨rfl, rfl⟩
  go_wp2_with fail
  go_ret
  rw [HV.out]
  exact ⟨rfl, HG.out⟩
end Go.Proofs.YtofaiocffifhfaaGreat
end
section
namespace Go.Proofs.YtofaiocffifhfaaGreatB
open Go.RowKit
theorem leb_or (n x h : Nat) (hx : x < 256) (hh : h ≤ 63) (hn : n < 2 ^ h) :
  bits .or .u64 (n : Int) (IntKind.u64.wrap (IntKind.u64.wrap (bits .and .u8 (x : Int) 127) * 2 ^ h)) = (((n + (x % 128) * 2 ^ h) % 18446744073709551616 : Nat) : Int) := by
 have h1 : bits .and .u8 (x : Int) 127 = ((x % 128 : Nat) : Int) := by
  have := u8_and_nat x 127 hx (by omega)
  rw [show ((127 : Nat) : Int) = 127 from rfl] at this
  rw [this, show x &&& 127 = x % 128 from Nat.and_two_pow_sub_one_eq_mod x 7]
 have h2 : IntKind.u64.wrap ((x % 128 : Nat) : Int) = ((x % 128 : Nat) : Int) := by rw [IntKind.wrap_u64]; omega
 rw [h1, h2]
 generalize hm : x % 128 = m
 have hm2 : m < 128 := by omega
 have hp : (18446744073709551616 : Nat) = 2 ^ (64 - h) * 2 ^ h := by rw [← Nat.pow_add, show 64 - h + h = 64 from by omega]
 have h3 : IntKind.u64.wrap ((m : Int) * 2 ^ h) = (((m * 2 ^ h) % 18446744073709551616 : Nat) : Int) := by
  rw [IntKind.wrap_u64, Int.natCast_emod, Int.natCast_mul, Int.natCast_pow]
  rfl
 rw [h3]
 have h63 : 2 ^ h ≤ 2 ^ 63 := Nat.pow_le_pow_right (by omega) hh
 have hy : (m * 2 ^ h) % 18446744073709551616 = (m % 2 ^ (64 - h)) * 2 ^ h := by rw [hp, Nat.mul_mod_mul_right]
 have hlt : m % 2 ^ (64 - h) + 1 ≤ 2 ^ (64 - h) := Nat.mod_lt _ (Nat.two_pow_pos _)
 have hlt2 : (m % 2 ^ (64 - h) + 1) * 2 ^ h ≤ 18446744073709551616 := by rw [hp]; exact Nat.mul_le_mul_right _ hlt
 have hlt3 : (m % 2 ^ (64 - h)) * 2 ^ h + 2 ^ h ≤ 18446744073709551616 := by rw [Nat.add_mul, Nat.one_mul] at hlt2; exact hlt2
 have hs : (n + m * 2 ^ h) % 18446744073709551616 = (n + (m % 2 ^ (64 - h)) * 2 ^ h) % 18446744073709551616 := by
  rw [← hy, Nat.add_mod_mod]
 have hmod : ((m % 2 ^ (64 - h)) * 2 ^ h) % 2 ^ h = 0 := Nat.mul_mod_left _ _
 rw [hs, u64_or_nat _ _ (by omega) (Nat.mod_lt _ (by omega)), hy]
 generalize (m % 2 ^ (64 - h)) * 2 ^ h = y at *
 have hny : n + y < 18446744073709551616 := by omega
 rw [Nat.or_comm, nat_join h _ n hmod hn, Nat.mod_eq_of_lt hny, Nat.add_comm]
def lebG (lst : Int → Int → Bool) : List Int → Nat → Except Int (Nat × Nat × Nat)
 | [], _ => .error 100
 | x :: r, l => if x < 128 then (if lst x l then .ok (x.toNat, 7, 1) else .error 101) else if l ≤ 7 then .error 101 else
   match lebG lst r (l - 7) with
   | .error e => .error e
   | .ok (m, h, c) => .ok ((x - 128).toNat + 128 * m, h + 7, c + 1)
def lebC (n0 k : Nat) : Except Int (Nat × Nat × Nat) → Except Int (Nat × Nat × Nat)
 | .error e => .error e
 | .ok (m, h, c) => .ok (n0 + 2 ^ (7 * k) * m, h + 7 * k, c + k)
theorem lebC_0 (r : Except Int (Nat × Nat × Nat)) : lebC 0 0 r = r := by
 cases r with
 | error e => rfl
 | ok x => obtain ⟨m, h, c⟩ := x; simp [lebC]
theorem lebC_step (lst : Int → Int → Bool) (n0 k l : Nat) (x : Int) (r : List Int) (hx : ¬ x < 128) (hl : ¬ l ≤ 7) (hx2 : x ≤ 255) :
  lebC n0 k (lebG lst (x :: r) l) = lebC (n0 + (x.toNat % 128) * 2 ^ (7 * k)) (k + 1) (lebG lst r (l - 7)) := by
 rw [lebG, if_neg hx, if_neg hl]
 cases lebG lst r (l - 7) with
 | error e => rfl
 | ok y =>
  obtain ⟨m, h, c⟩ := y
  have e1 : (x - 128).toNat = x.toNat % 128 := by omega
  simp only [lebC, e1, Except.ok.injEq, Prod.mk.injEq]
  refine ⟨?_, by omega, by omega⟩
  rw [show 7 * (k + 1) = 7 * k + 7 from by omega, Nat.pow_add, show (2 : Nat) ^ 7 = 128 from rfl, Nat.mul_add, Nat.mul_comm (x.toNat % 128), Nat.add_assoc, Nat.mul_assoc]
theorem lebG_drop {lst : Int → Int → Bool} {B : List Int} {a : Nat} {x : Int} (h : B[a]? = some x) (l : Nat) : lebG lst (B.drop a) l = lebG lst (x :: B.drop (a + 1)) l := by
 obtain ⟨hj, hxe⟩ := List.getElem?_eq_some_iff.1 h
 rw [List.drop_eq_getElem_cons hj, hxe]
theorem lebG_nil {lst : Int → Int → Bool} {B : List Int} (l : Nat) : lebG lst (B.drop B.length) l = .error 100 := by rw [List.drop_length]; rfl
theorem lebG_c {lst : Int → Int → Bool} : ∀ (R : List Int) (l : Nat) (m h c : Nat), lebG lst R l = .ok (m, h, c) → 1 ≤ c ∧ c ≤ R.length
 | [], l, m, h, c, e => by simp [lebG] at e
 | x :: r, l, m, h, c, e => by
  rw [lebG] at e
  split at e
  ·split at e
   ·simp at e; simp; omega
   ·cases e
  ·split at e
   ·cases e
   ·cases hr : lebG lst r (l - 7) with
    | error e' => rw [hr] at e; cases e
    | ok y =>
     obtain ⟨m', h', c'⟩ := y
     rw [hr] at e
     simp at e
     have := lebG_c r (l - 7) m' h' c' hr
     simp
     omega
theorem leb_bound (n x h : Nat) (hn : n < 2 ^ h) : n + x % 128 * 2 ^ h < 2 ^ (h + 7) := by
 have h1 : x % 128 + 1 ≤ 128 := Nat.mod_lt _ (by omega)
 have h2 := Nat.mul_le_mul_right (2 ^ h) h1
 rw [Nat.pow_add, show (2 : Nat) ^ 7 = 128 from rfl, Nat.mul_comm (2 ^ h)]
 rw [Nat.add_mul, Nat.one_mul] at h2
 omega
theorem leb_small (n h : Nat) (hn : n < 2 ^ h) (hh : h ≤ 64) : n % 18446744073709551616 = n := by
 refine Nat.mod_eq_of_lt (Nat.lt_of_lt_of_le hn ?_)
 exact Nat.pow_le_pow_right (n := 2) (by omega) hh
end Go.Proofs.YtofaiocffifhfaaGreatB
end
section
namespace Go.Proofs.YtofaiocffifhfaaGreat
open Go.RowKit Go.Shelf YtofaiocffifhfaaGreatB Go.Proofs.YtofaiocffifhfaaGreatW.PrintWords
def Ser (W : World) (p : Nat) (n h l : Int) : Prop := Blk W p #[.int .u64 n, .int .i64 h, .int .i64 l] 192
set_option maxRecDepth 100000 in
theorem take_leb (W : World) (p : Nat) (n h : Nat) (l x : Int) (hS : Ser W p n h l) (hx : 0 ≤ x ∧ x ≤ 255) (hh : h ≤ 63) (hl : 0 ≤ l ∧ l ≤ 64) (hn : n < 2 ^ h) :
  Calls Tryz.prog 119 #[.pointer (some ⟨p, 0, none⟩), .int .u8 x] W fun E w' => E = .returned (.tuple #[]) ∧ Ser w' p (((n + (x.toNat % 128) * 2 ^ h) % 18446744073709551616 : Nat) : Int) (h + 7) (l - 7) ∧ W.grownBy w' (some p) := by
 have HV := Lib.hid (leb_or n x.toNat h (by omega) hh hn)
 obtain ⟨y, rfl⟩ := Int.eq_ofNat_of_zero_le hx.1
 rw [Int.toNat_natCast] at HV
 obtain ⟨M, hM⟩ : ∃ M : Int, (((n + (y % 128) * 2 ^ h) % 18446744073709551616 : Nat) : Int) = M := ⟨_, rfl⟩
 rw [hM] at HV
 rw [Int.toNat_natCast, hM]
 obtain ⟨N, hN⟩ : ∃ N : Int, (n : Int) = N := ⟨_, rfl⟩
 rw [hN] at HV hS
 have hy2 : (y : Int) ≤ 255 := hx.2
 have hh2 : (h : Int) ≤ 63 := by omega
 clear hM hn hN hx
 have c0 : W.cell? ⟨p, 0, none⟩ = some (.int .u64 N) := by rw [hS.cell]; rfl
 have c1 : W.cell? ⟨p, 1, none⟩ = some (.int .i64 h) := by rw [hS.cell]; rfl
 have c2 : W.cell? ⟨p, 2, none⟩ = some (.int .i64 l) := by rw [hS.cell]; rfl
 have f0 := hS.frozen 0
 have f1 := hS.frozen 1
 have f2 := hS.frozen 2
 have hlt := hS.lt
 have HS := Lib.hid hS
 clear hS
 go_enter Tryz.func119, Tryz.ntmps119
 go_wp2_with fail
 go_still_tail 15, (by kernel_rfl)
 change wpList _ _ _ _ _ W.drew
 go_wp2
 go_end0
 rw [HV.out]
 have h1 := ((HS.out.set 0 (.int .u64 M)).set 1 (.int .i64 ((h : Int) + 7))).set 2 (.int .i64 (l - 7))
 refine ⟨rfl, ?_, ((gset W p 0 (.int .u64 M)).trans ((gset _ p 1 (.int .i64 ((h : Int) + 7))).trans (gset _ p 2 (.int .i64 (l - 7))))).trans ⟨rfl, rfl, rfl, Nat.le_refl _, fun _ _ _ => rfl⟩⟩
 have h2 := h1.drew
 simp at h2
 exact h2
def ScanPost (W : World) (a bits : Nat) (r : Except Int (Nat × Nat × Nat)) (E : Ending) (w' : World) : Prop :=
 Below W.heap.size W w' ∧ (match r with
 | .error e => E = .returned (.tuple #[.agg #[.int .u64 0, .int .i64 0, .int .i64 0], .int .i64 0, .int .i64 e])
 | .ok (m, h, c) => ∃ l' : Int, E = .returned (.tuple #[.agg #[.int .u64 ((m % 18446744073709551616 : Nat) : Int), .int .i64 h, .int .i64 l'], .int .i64 ((a + c : Nat) : Int), .int .i64 0]))
set_option maxRecDepth 100000 in
set_option maxHeartbeats 2000000 in
theorem scan_leb (lst : Int → Int → Bool) (g : FuncId) (hent : Enters Tryz.prog g)
  (hg : ∀ (x l : Int) (W : World), 0 ≤ x → x < 128 → 1 ≤ l → l ≤ 64 → Calls Tryz.prog g #[.int .u8 x, .int .i64 l] W fun E w' => E = .returned (.bool (lst x l)) ∧ W = w')
  (W : World) (q : Nat) (A : Option Addr) (c : Nat) (B : List Int) (a bits : Nat) (hB : Byts B) (hQ : ByQ W q A B) (hc : B.length ≤ c) (ha : a ≤ B.length) (hb : 1 ≤ bits ∧ bits ≤ 64) :
  Calls Tryz.prog 97 #[.slice A B.length c, .int .i64 a, .int .i64 bits, .func (.func g) #[] #[]] W (ScanPost W a bits (lebG lst (B.drop a) bits)) := by
 have hin : ∀ args w, Sem.run Tryz.prog (callFunc g args) w = .ok (.enter g args) w := hent
 have HG := Lib.hid hg
 have hl := hB.1
 have HB := Lib.hid hB
 have hb1 := hb.1
 have hb2 := hb.2
 obtain ⟨A', hrun, hA'⟩ := cut_lo (P := Tryz.prog) 22 5 .i64 1 Tryz.underlying22 infoB A B.length c a (by omega)
 have HQ := Lib.hid (show ∀ j x, (B.drop a)[j]? = some x → ∃ o, A' = some ⟨q, o, none⟩ ∧ W.cell? ⟨q, o + j, none⟩ = some (.int .u8 x) from fun j x hj => by
  have hj2 : a + j < B.length := by rw [List.getElem?_drop] at hj; exact (List.getElem?_eq_some_iff.1 hj).1
  obtain ⟨o, rfl, hcc⟩ := hQ (by omega)
  refine ⟨o + a, by rw [hA' (by omega)]; simp [Addr.add]; try omega, ?_⟩
  rw [List.getElem?_drop] at hj
  rw [Nat.add_assoc]
  exact hcc _ _ hj)
 have HR := Lib.hid (lebC_0 (lebG lst (B.drop a) bits))
 have z1 : decide ((bits : Int) < 1) = false := by simp; omega
 have z2 : decide ((64 : Int) < (bits : Int)) = false := by simp; omega
 have z3 : decide ((a : Int) < 0) = false := by simp
 have z4 : decide (B.length < a) = false := by simp; omega
 clear hent hg hB hQ hA' hb
 go_enter Tryz.func97, Tryz.ntmps97
 go_wp2_with fail
 have HN := Blk.new W #[.int .u64 0, .int .i64 0, .int .i64 bits] 192
 go_loopw [1, 36] (fun u k wr => ∃ j n0 : Nat, a + j ≤ B.length ∧ 7 * j < bits ∧ u = .int .i64 ((a : Int) + j) ∧ k = .int .i64 j ∧ Hid (n0 < 2 ^ (7 * j)) ∧ Ser wr W.heap.size n0 (7 * j : Nat) ((bits : Int) - (7 * j : Nat)) ∧ Hid (lebG lst (B.drop a) bits = lebC n0 j (lebG lst (B.drop (a + j)) (bits - 7 * j))) ∧ Below W.heap.size W wr ∧ W.heap.size < wr.heap.size) (fun _ k _ => B.length - a - (intOf k).toNat)
 case atStart =>
  refine ⟨0, 0, ha, by omega, by simp, rfl, by show _ < _; simp, ?_, by show _ = _; rw [Nat.mul_zero, Nat.add_zero, Nat.sub_zero]; exact HR.out.symm, (Below.refl _ _).alloc (Nat.le_refl _) _, by simp⟩
  simpa [Ser] using HN
 case round =>
  obtain ⟨j, n0, hj1, hj2, rfl, rfl, hn0, hS, HE, hBl, hsz⟩ := hrel
  clear HN
  by_cases hlt : a + j < B.length
  ·have hx : B[a + j]? = some B[a + j] := List.getElem?_eq_getElem hlt
   have hxb := HB.out.get hx
   have hxd : (B.drop a)[j]? = some B[a + j] := by rw [List.getElem?_drop]; exact hx
   obtain ⟨o, rfl, hcell⟩ := HQ.out j _ hxd
   have x0 := pw_cell_below hBl hcell
   have HX := Lib.hid hx
   clear hx hxd hcell
   generalize B[a + j] = x at *
   have hL : (((bits - 7 * j : Nat) : Nat) : Int) = (bits : Int) - (7 * j : Nat) := by omega
   obtain ⟨h, hh⟩ : ∃ h : Nat, h = 7 * j := ⟨_, rfl⟩
   rw [← hh] at hS hL hj2 hn0 HE
   obtain ⟨L, hLL⟩ : ∃ L : Int, L = (bits : Int) - h := ⟨_, rfl⟩
   rw [← hLL] at hS hL
   have hL1 : 1 ≤ L := by omega
   have hL2 : L ≤ 64 := by omega
   have c0 : wr.cell? ⟨W.heap.size, 0, none⟩ = some (.int .u64 (n0 : Int)) := by rw [hS.cell]; rfl
   have c1 : wr.cell? ⟨W.heap.size, 1, none⟩ = some (.int .i64 (h : Int)) := by rw [hS.cell]; rfl
   have c2 : wr.cell? ⟨W.heap.size, 2, none⟩ = some (.int .i64 L) := by rw [hS.cell]; rfl
   have f0 := hS.frozen 0
   have f1 := hS.frozen 1
   have f2 := hS.frozen 2
   have HS := Lib.hid hS
   have HL := Lib.hid hL
   have HH := Lib.hid hh
   have HLL := Lib.hid hLL
   have HBl := Lib.hid hBl
   have hbk : h ≤ 63 := by omega
   have hx0 := hxb.1
   have hx1 := hxb.2
   have HT := Lib.hid (fun W' (hS' : Ser W' W.heap.size (n0 : Int) (h : Int) L) => take_leb W' W.heap.size n0 h L x hS' hxb hbk ⟨by omega, hL2⟩ hn0.out)
   have HD := Lib.hid (lebG_drop (lst := lst) HX.out (bits - h))
   have HNB := Lib.hid (leb_bound n0 x.toNat h hn0.out)
   clear hS hL hh hLL hBl hxb HQ hn0 HX
   by_cases hx : x < 128
   ·cases hls : lst x L with
    | false =>
     have HLs := Lib.hid hls
     have HP := Lib.hid (show lebG lst (B.drop a) bits = .error 101 from by rw [HE.out, HD.out, lebG, if_pos hx, HL.out, hls]; rfl)
     clear HE HD hls HT
     go_wp2_with fail
     refine (HG.out x L _ hx0 hx hL1 hL2).mono ?_
     rintro E w' ⟨rfl, rfl⟩
     rw [HLs.out]
     go_wp2_with fail
     have r0 := ((HS.out.set 0 (.int .u64 0)).set 1 (.int .i64 0)).set 2 (.int .i64 0)
     have hBf := ((HBl.out.setCell (p := ⟨W.heap.size, 0, none⟩) (Nat.le_refl _) (.int .u64 0)).setCell (p := ⟨W.heap.size, 1, none⟩) (Nat.le_refl _) (.int .i64 0)).setCell (p := ⟨W.heap.size, 2, none⟩) (Nat.le_refl _) (.int .i64 0)
     generalize ((wr.setCell ⟨W.heap.size, 0, none⟩ (.int .u64 0)).setCell ⟨W.heap.size, 1, none⟩ (.int .i64 0)).setCell ⟨W.heap.size, 2, none⟩ (.int .i64 0) = Wf at *
     have q0 : Wf.cell? ⟨W.heap.size, 0, none⟩ = some (.int .u64 0) := by rw [r0.cell]; rfl
     have q1 : Wf.cell? ⟨W.heap.size, 1, none⟩ = some (.int .i64 0) := by rw [r0.cell]; rfl
     have q2 : Wf.cell? ⟨W.heap.size, 2, none⟩ = some (.int .i64 0) := by rw [r0.cell]; rfl
     exact bodyPost_ret (v := .tuple #[.agg #[.int .u64 0, .int .i64 0, .int .i64 0], .int .i64 0, .int .i64 101]) (by simp [results, Tryz.results97, go_sem, q0, q1, q2]) rfl ⟨hBf, by rw [HP.out]⟩
    | true =>
     have HLs := Lib.hid hls
     have HP := Lib.hid (show lebG lst (B.drop a) bits = .ok (n0 + 2 ^ (7 * j) * x.toNat, 7 + 7 * j, 1 + j) from by rw [HE.out, HD.out, lebG, if_pos hx, HL.out, hls]; rfl)
     have HV := Lib.hid (show n0 + x.toNat % 128 * 2 ^ h = n0 + 2 ^ (7 * j) * x.toNat from by rw [← HH.out, Nat.mod_eq_of_lt (by omega), Nat.mul_comm])
     clear HE HD hls
     go_wp2_with fail
     refine (HG.out x L _ hx0 hx hL1 hL2).mono ?_
     rintro E w' ⟨rfl, rfl⟩
     rw [HLs.out]
     go_wp2_with fail
     refine (HT.out _ HS.out).mono ?_
     rintro E W2 ⟨rfl, hS2, hg2⟩
     rw [HV.out] at hS2
     have hBf := HBl.out.grown hg2 (by omega) (fun k e => by cases e; exact Nat.le_refl _)
     have c0' : W2.cell? ⟨W.heap.size, 0, none⟩ = some (.int .u64 (((n0 + 2 ^ (7 * j) * x.toNat) % 18446744073709551616 : Nat) : Int)) := by rw [hS2.cell]; rfl
     have c1' : W2.cell? ⟨W.heap.size, 1, none⟩ = some (.int .i64 ((h : Int) + 7)) := by rw [hS2.cell]; rfl
     have c2' : W2.cell? ⟨W.heap.size, 2, none⟩ = some (.int .i64 (L - 7)) := by rw [hS2.cell]; rfl
     obtain ⟨V, hV⟩ : ∃ V : Int, (((n0 + 2 ^ (7 * j) * x.toNat) % 18446744073709551616 : Nat) : Int) = V := ⟨_, rfl⟩
     rw [hV] at c0' hS2
     have HV2 := Lib.hid hV
     have k0 := hS2.frozen 0
     have k1 := hS2.frozen 1
     have k2 := hS2.frozen 2
     have HS2 := Lib.hid hS2
     have HBf := Lib.hid hBf
     clear hS2 hV hBf hg2 HT
     go_wp2_with fail
     have r0 := ((HS2.out.set 0 (.int .u64 V)).set 1 (.int .i64 ((h : Int) + 7))).set 2 (.int .i64 (L - 7))
     have hBf := ((HBf.out.setCell (p := ⟨W.heap.size, 0, none⟩) (Nat.le_refl _) (.int .u64 V)).setCell (p := ⟨W.heap.size, 1, none⟩) (Nat.le_refl _) (.int .i64 ((h : Int) + 7))).setCell (p := ⟨W.heap.size, 2, none⟩) (Nat.le_refl _) (.int .i64 (L - 7))
     generalize ((W2.setCell ⟨W.heap.size, 0, none⟩ (.int .u64 V)).setCell ⟨W.heap.size, 1, none⟩ (.int .i64 ((h : Int) + 7))).setCell ⟨W.heap.size, 2, none⟩ (.int .i64 (L - 7)) = Wf at *
     have q0 : Wf.cell? ⟨W.heap.size, 0, none⟩ = some (.int .u64 V) := by rw [r0.cell]; rfl
     have q1 : Wf.cell? ⟨W.heap.size, 1, none⟩ = some (.int .i64 ((h : Int) + 7)) := by rw [r0.cell]; rfl
     have q2 : Wf.cell? ⟨W.heap.size, 2, none⟩ = some (.int .i64 (L - 7)) := by rw [r0.cell]; rfl
     refine bodyPost_ret (v := .tuple #[.agg #[.int .u64 V, .int .i64 ((h : Int) + 7), .int .i64 (L - 7)], .int .i64 ((a : Int) + j + 1), .int .i64 0]) (by simp [results, Tryz.results97, go_sem, q0, q1, q2]) rfl ⟨hBf, ?_⟩
     rw [HP.out]
     refine ⟨L - 7, ?_⟩
     rw [HV2.out, show ((7 + 7 * j : Nat) : Int) = (h : Int) + 7 from by rw [HH.out]; omega, show ((a + (1 + j) : Nat) : Int) = (a : Int) + j + 1 from by omega]
   ·by_cases hl7 : L ≤ 7
    ·have HP := Lib.hid (show lebG lst (B.drop a) bits = .error 101 from by rw [HE.out, HD.out, lebG, if_neg hx, if_pos (by have := HL.out; omega)]; rfl)
     clear HE HD HT
     go_wp2_with fail
     have r0 := ((HS.out.set 0 (.int .u64 0)).set 1 (.int .i64 0)).set 2 (.int .i64 0)
     have hBf := ((HBl.out.setCell (p := ⟨W.heap.size, 0, none⟩) (Nat.le_refl _) (.int .u64 0)).setCell (p := ⟨W.heap.size, 1, none⟩) (Nat.le_refl _) (.int .i64 0)).setCell (p := ⟨W.heap.size, 2, none⟩) (Nat.le_refl _) (.int .i64 0)
     generalize ((wr.setCell ⟨W.heap.size, 0, none⟩ (.int .u64 0)).setCell ⟨W.heap.size, 1, none⟩ (.int .i64 0)).setCell ⟨W.heap.size, 2, none⟩ (.int .i64 0) = Wf at *
     have q0 : Wf.cell? ⟨W.heap.size, 0, none⟩ = some (.int .u64 0) := by rw [r0.cell]; rfl
     have q1 : Wf.cell? ⟨W.heap.size, 1, none⟩ = some (.int .i64 0) := by rw [r0.cell]; rfl
     have q2 : Wf.cell? ⟨W.heap.size, 2, none⟩ = some (.int .i64 0) := by rw [r0.cell]; rfl
     exact bodyPost_ret (v := .tuple #[.agg #[.int .u64 0, .int .i64 0, .int .i64 0], .int .i64 0, .int .i64 101]) (by simp [results, Tryz.results97, go_sem, q0, q1, q2]) rfl ⟨hBf, by rw [HP.out]⟩
    ·have HP := Lib.hid (show lebG lst (B.drop a) bits = lebC (n0 + x.toNat % 128 * 2 ^ h) (j + 1) (lebG lst (B.drop (a + (j + 1))) (bits - (h + 7))) from by
      have hc := lebC_step lst n0 j (bits - h) x (B.drop (a + j + 1)) hx (by have := HL.out; omega) hx1
      rw [HE.out, HD.out, hc, HH.out]; rfl)
     clear HE HD
     go_wp2_with fail
     refine (HT.out _ HS.out).mono ?_
     rintro E W2 ⟨rfl, hS2, hg2⟩
     have hBf := Lib.hid (HBl.out.grown hg2 (by omega) (fun k e => by cases e; exact Nat.le_refl _))
     have hsz2 := hg2.size
     have HS2 := Lib.hid hS2
     clear hS2 hg2 HT
     go_wp2_with fail
     go_roundw
     case rel =>
      have hjj : 7 * (j + 1) = h + 7 := by have := HH.out; omega
      have hlt2 : h + 7 < bits := by have := HLL.out; omega
      refine ⟨j + 1, n0 + x.toNat % 128 * 2 ^ h, by omega, by omega, (by first | go_num | (congr 1; done) | (congr 1; omega)), by go_num, ?_, ?_, ?_, hBf.out, by omega⟩
      ·show _ < _
       rw [hjj]; exact HNB.out
      ·have h3 := HS2.out
       rw [leb_small _ (h + 7) HNB.out (by omega)] at h3
       rw [hjj, show (bits : Int) - ((h + 7 : Nat) : Int) = L - 7 from by have := HLL.out; omega]
       exact h3
      ·show _ = _
       rw [hjj]; exact HP.out
     case measure => simp [intOf]; omega
  ·obtain rfl : j = B.length - a := by omega
   have HP := Lib.hid (show lebG lst (B.drop a) bits = .error 100 from by rw [HE.out, show a + (B.length - a) = B.length from by omega, lebG_nil]; rfl)
   have HS := Lib.hid hS
   have HBl := Lib.hid hBl
   have f0 := hS.frozen 0
   have f1 := hS.frozen 1
   have f2 := hS.frozen 2
   have hsc0 : (wr.cell? ⟨W.heap.size, 0, none⟩).isSome = true := by rw [hS.cell]; rfl
   have hsc1 : (wr.cell? ⟨W.heap.size, 1, none⟩).isSome = true := by rw [hS.cell]; rfl
   have hsc2 : (wr.cell? ⟨W.heap.size, 2, none⟩).isSome = true := by rw [hS.cell]; rfl
   have c0 : wr.cell? ⟨W.heap.size, 0, none⟩ = some (.int .u64 (n0 : Int)) := by rw [hS.cell]; rfl
   obtain ⟨h, hh⟩ : ∃ h : Int, h = ((7 * (B.length - a) : Nat) : Int) := ⟨_, rfl⟩
   rw [← hh] at HS hS
   have c1 : wr.cell? ⟨W.heap.size, 1, none⟩ = some (.int .i64 h) := by rw [hS.cell]; rfl
   have c2 : wr.cell? ⟨W.heap.size, 2, none⟩ = some (.int .i64 (bits - h)) := by rw [hS.cell]; rfl
   clear hS HE hBl hn0 hh hsc0 hsc1 hsc2 HQ
   go_wp2_with fail
   have r0 := ((HS.out.set 0 (.int .u64 0)).set 1 (.int .i64 0)).set 2 (.int .i64 0)
   have hBf := ((HBl.out.setCell (p := ⟨W.heap.size, 0, none⟩) (Nat.le_refl _) (.int .u64 0)).setCell (p := ⟨W.heap.size, 1, none⟩) (Nat.le_refl _) (.int .i64 0)).setCell (p := ⟨W.heap.size, 2, none⟩) (Nat.le_refl _) (.int .i64 0)
   generalize ((wr.setCell ⟨W.heap.size, 0, none⟩ (.int .u64 0)).setCell ⟨W.heap.size, 1, none⟩ (.int .i64 0)).setCell ⟨W.heap.size, 2, none⟩ (.int .i64 0) = Wf at *
   have q0 : Wf.cell? ⟨W.heap.size, 0, none⟩ = some (.int .u64 0) := by rw [r0.cell]; rfl
   have q1 : Wf.cell? ⟨W.heap.size, 1, none⟩ = some (.int .i64 0) := by rw [r0.cell]; rfl
   have q2 : Wf.cell? ⟨W.heap.size, 2, none⟩ = some (.int .i64 0) := by rw [r0.cell]; rfl
   exact bodyPost_ret (v := .tuple #[.agg #[.int .u64 0, .int .i64 0, .int .i64 0], .int .i64 0, .int .i64 100]) (by simp [results, Tryz.results97, go_sem, q0, q1, q2]) rfl ⟨hBf, by rw [HP.out]⟩

end Go.Proofs.YtofaiocffifhfaaGreat
end
