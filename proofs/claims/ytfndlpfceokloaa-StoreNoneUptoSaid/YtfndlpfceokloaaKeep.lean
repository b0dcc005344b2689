/- Lemmas towards this claim's statement: what the functions named here come to, each under the conditions that it states itself. -/
import Derived.RangeFuncNested
import Derived.RangeFuncBound
import Derived.RangeFuncCalls
import Derived.RangeFuncLeaves
import Derived.Shelf.Abstract
import Derived.Shelf.RegionOpen
import Derived.OwnWalkIn
import Derived.TacticsInMore
import Derived.LoopNIn
import Derived.LoopIn
import Derived.Test.YtfndlpfceokloaaBase
namespace Go.Proofs.YtfndlpfceokloaaB
open Go.RowKit Go.Shelf Go.Proofs.YtfndlpfceokloaaW.PrintWords
/-- What a round keeps: what lay below n0, and the rows of cells from n1 on. -/
def KeepC (n0 n1 : Nat) (W W' : World) : Prop := Below n0 W W' ∧ ∀ k cs t fr, n1 ≤ k → W.heap[k]? = some (.cells cs t fr) → W'.heap[k]? = some (.cells cs t fr)
theorem KeepC.refl (n0 n1 : Nat) (W : World) : KeepC n0 n1 W W := ⟨Below.refl _ _, fun _ _ _ _ _ h => h⟩
theorem KeepC.trans {n0 n1 : Nat} {A B C : World} (h : KeepC n0 n1 A B) (h' : KeepC n0 n1 B C) : KeepC n0 n1 A C := ⟨h.1.trans h'.1, fun k cs t fr hk hc => h'.2 k cs t fr hk (h.2 k cs t fr hk hc)⟩
theorem KeepC.alloc {n0 n1 : Nat} {A B : World} (h : KeepC n0 n1 A B) (o : Obj) (hn : n0 ≤ B.heap.size) : KeepC n0 n1 A (B.alloc o) :=
  h.trans ⟨(Below.refl _ _).alloc hn _, fun k cs t fr _ hc => (Below.heap_alloc B o k (Array.getElem?_eq_some_iff.1 hc).1).trans hc⟩
theorem KeepC.of_below {n0 n1 : Nat} {A B : World} (h : Below A.heap.size A B) (hn : n0 ≤ A.heap.size) : KeepC n0 n1 A B :=
  ⟨h.mono hn, fun k cs t fr _ hc => (h.block k (Array.getElem?_eq_some_iff.1 hc).1).trans hc⟩
theorem KeepC.blk {n0 n1 : Nat} {A B : World} (h : KeepC n0 n1 A B) {g : Nat} {cs : Array Value} {t : TypeId} (hg : n1 ≤ g) (hb : Blk A g cs t) : Blk B g cs t := h.2 g cs t _ hg hb
theorem keepC_t {n0 n1 : Nat} {A B C : World} (h : KeepC n0 n1 A B) (h' : KeepC n0 n1 B C) : KeepC n0 n1 A C := h.trans h'
theorem keepC_b {n0 n1 n : Nat} (h0 : n0 ≤ n) (W : World) (l : Nat) (o o' : Obj) (hl : n ≤ l) (ho : W.heap[l]? = some o) (hc : o.isCells = false) (_ : o.isWalk = false) : KeepC n0 n1 W (W.putObj l o') := by
  have hg := grownBy_putObj' W l o'
  refine ⟨(Below.refl _ W).grown hg (by have := (Array.getElem?_eq_some_iff.1 ho).1; omega) (fun k e => by cases e; omega), fun k cs t fr _ hk => ?_⟩
  have hkl := (Array.getElem?_eq_some_iff.1 hk).1
  rw [hg.block k hkl (fun e => by cases e; rw [ho] at hk; cases hk; simp [Obj.isCells] at hc), hk]
theorem anyDepth {F : Fence} (hd : F.depth = none) {m : Nat} (m' : Nat) {P : Program} {l : Nat} {args : Array Value} {W : World} {R : Ending → World → Prop} (h : YieldAt F m P l args W R) : YieldAt F m' P l args W R := by
  obtain ⟨fn, tmps, assign, body, hy, hR⟩ := h
  exact ⟨fn, tmps, assign, body, hy, ⟨hR.1, fun c cs _ => hR.2 c cs (fun d h => by rw [hd] at h; cases h)⟩⟩
theorem bl_drewN {w : World} (m : Nat) : Below w.heap.size w (w.drewN m) := ⟨rfl, rfl, rfl, Nat.le_refl _, fun _ _ => rfl⟩
theorem below_from {W0 W W' : World} (h : Below W0.heap.size W0 W) (h' : Below W.heap.size W W') : Below W0.heap.size W0 W' := h.trans (h'.mono h.size)
theorem boxed_below {W W' : World} {B : Nat} {t : TypeId} {v : Value} (h : Boxed W B t v) (hb : Below W.heap.size W W') : Boxed W' B t v := h.kept (grown_below hb none) (by simp)
theorem keepsFrom_below {W W' : World} (n : Nat) (hb : Below W.heap.size W W') : KeepsFrom n W W' := (KeepsOthers.of_grownBy (grown_below hb none) (fun j o h _ => by cases h)).from n
end Go.Proofs.YtfndlpfceokloaaB
