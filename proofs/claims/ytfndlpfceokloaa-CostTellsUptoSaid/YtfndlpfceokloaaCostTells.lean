/- Lemmas towards this claim's statement: what the functions named here come to, each under the conditions that it states itself. -/
import Derived.Test.YtfndlpfceokloaaMost
namespace Go.Proofs.YtfndlpfceokloaaB
open Go.RowKit Go.Shelf Go.Proofs.YtfndlpfceokloaaW.PrintWords
theorem flat_at {sz : Nat} : ∀ (css : List (List Value)), (∀ c ∈ css, c.length = sz) → ∀ (i j : Nat) (cs : List Value), css[i]? = some cs → j < sz → css.flatten[i * sz + j]? = cs[j]?
  | [], _, i, j, cs, h, _ => by simp at h
  | c :: r, hl, 0, j, cs, h, hj => by
    have hc := hl c (by simp)
    obtain rfl : c = cs := by simpa using h
    rw [List.flatten_cons, Nat.zero_mul, Nat.zero_add, List.getElem?_append_left (by omega)]
  | c :: r, hl, i + 1, j, cs, h, hj => by
    have hc := hl c (by simp)
    have ih := flat_at r (fun c hc => hl c (by simp [hc])) i j cs (by simpa using h) hj
    rw [List.flatten_cons, Nat.add_mul, Nat.one_mul, List.getElem?_append_right (by omega), show i * sz + sz + j - c.length = i * sz + j from by omega]
    exact ih
/-- A row whose elements' cells are known, read out of a block. -/
theorem C_lit {α : Type} {d : Kd α} {W : World} {g : Nat} {t : TypeId} (css : List (List Value)) (xs : List α) (hb : Blk W g css.flatten.toArray t) (hm : xs.length ≤ maxLen) (hl : css.length = xs.length)
    (hk : ∀ (i : Nat) (x : α) (cs : List Value), xs[i]? = some x → css[i]? = some cs → d.K W x cs) : d.C W (some ⟨g, 0, none⟩) xs.length xs := by
  have hcl : ∀ c ∈ css, c.length = d.sz := fun c hc => by
    obtain ⟨i, hi, rfl⟩ := List.getElem_of_mem hc
    exact d.K_len (hk i _ _ (List.getElem?_eq_getElem (by omega)) (List.getElem?_eq_getElem hi))
  refine ⟨rfl, hm, fun hp => ⟨_, rfl, fun j p hj => ?_⟩⟩
  have hjl : j < xs.length := (List.getElem?_eq_some_iff.1 hj).1
  have hjc : css[j]? = some css[j] := List.getElem?_eq_getElem (by omega)
  refine ⟨css[j], hcl _ (List.getElem_mem _), hk j p _ hj hjc, fun i u hu => ?_⟩
  have hi : i < d.sz := by rw [← hcl _ (List.getElem_mem (n := j) _)]; exact (List.getElem?_eq_some_iff.1 hu).1
  rw [show (⟨g, 0, none⟩ : Addr).add (j * d.sz + i) = ⟨g, j * d.sz + i, none⟩ from by unfold Addr.add; split <;> simp_all, hb.cell]
  rw [List.getElem?_toArray, flat_at css hcl j i _ hjc hi]
  exact hu
/-- An instruction without others in it, K. -/
theorem ins_leaf {tU tE : Nat} (w : World) (op : Int) (h : (Lit.int .i64 op).wf = true) : (kIns tU tE).K w (.mk op 0 0 0 0 [] [] [] false) [.int .i64 op, .int .u8 0, .int .u32 0, .int .u32 0, .int .u64 0, .slice none 0 0, .slice none 0 0, .slice none 0 0, .bool false] :=
  (ins_mkF (ok := fun _ => True) (x := .mk op 0 0 0 0 [] [] [] false) (w := w) h rfl rfl rfl rfl FC.nil FC.nil FC.nil (Nat.le_refl _) (Nat.le_refl _) (Nat.le_refl _)).now
end Go.Proofs.YtfndlpfceokloaaB
namespace Go.Proofs.Ytfndlpfceokloaa
open Go.RowKit Go.Shelf YtfndlpfceokloaaB Go.Proofs.YtfndlpfceokloaaW.PrintWords
theorem Most_any (ls : List Ins) (hbk : bkL ls ≤ 1048576) (A : Option Addr) (c : Nat) (w : World) (hC : kI.C w A ls.length ls) :
    Calls Try.prog 31 #[.slice A ls.length c] w fun e W' => e = .returned (.int .i64 (moL ls : Int)) ∧ Below w.heap.size w W' :=
  (callsIn_wide (n := 6)).1 (Most_in Fence.wide rfl 6 trivial trivial trivial trivial rfl (by omega) ls hbk A c w hC)
def nopI : Ins := .mk 1 0 0 0 0 [] [] [] false
def ifI : Ins := .mk 4 0 0 0 0 [] [nopI] [nopI] true
def leafC (op : Int) : List Value := [.int .i64 op, .int .u8 0, .int .u32 0, .int .u32 0, .int .u64 0, .slice none 0 0, .slice none 0 0, .slice none 0 0, .bool false]
def ifC (g : Nat) : List Value := [.int .i64 4, .int .u8 0, .int .u32 0, .int .u32 0, .int .u64 0, .slice none 0 0, .slice (some ⟨g, 0, none⟩) 1 1, .slice (some ⟨g, 0, none⟩) 1 1, .bool true]
theorem of_lit (l : List Ins) (n : Int) (b : Bool) (hbk : bkL l ≤ 1048576) (hb : knL l = b) (hn : n = if b then (coL l : Int) else 0) (w : World) (A : Option Addr) (m c : Nat) (hm : m = l.length) (hC : kI.C w A l.length l) :
    Calls Try.prog 29 #[.slice A m c] w fun e w' => e = .returned (.tuple #[.int .u64 n, .bool b]) ∧ Below w.heap.size w w' := by
  subst hm
  exact (Of_any l hbk w A c hC).mono (by rintro e w' ⟨n', rfl, hn', hB⟩; rw [hb] at hn' ⊢; rw [hn, ← hn'.out]; exact ⟨rfl, hB⟩)
def AwPost (w : World) (e : Ending) (w' : World) : Prop := e = .returned (.bool true) ∧ Below w.heap.size w w'
set_option maxRecDepth 100000 in
theorem C_one (w : World) (op : Int) (h : (Lit.int .i64 op).wf = true) : kI.C (w.alloc (.cells (leafC op).toArray 160)) (some ⟨w.heap.size, 0, none⟩) 1 [Ins.mk op 0 0 0 0 [] [] [] false] :=
  C_lit [leafC op] [Ins.mk op 0 0 0 0 [] [] [] false] (by simpa using Blk.new w (leafC op).toArray 160) (by simp [maxLen]) rfl (fun i x cs hx hc => by
    match i with
    | 0 => cases hx; cases hc; exact ins_leaf _ op h
    | i + 1 => simp at hx)
set_option maxRecDepth 100000 in
theorem C_three (w : World) : kI.C ((w.alloc (.cells (leafC 1).toArray 160)).alloc (.cells (leafC 65 ++ (ifC w.heap.size ++ leafC 1)).toArray 160)) (some ⟨w.heap.size + 1, 0, none⟩) 3 [Ins.mk 65 0 0 0 0 [] [] [] false, ifI, nopI] := by
  have h1 := C_one w 1 rfl
  have h2 := FC.of_old (Kd.C_below h1 ((Below.refl _ (w.alloc (.cells (leafC 1).toArray 160))).alloc (Nat.le_refl _) (.cells (leafC 65 ++ (ifC w.heap.size ++ leafC 1)).toArray 160)))
  have hb := Blk.new (w.alloc (.cells (leafC 1).toArray 160)) (leafC 65 ++ (ifC w.heap.size ++ leafC 1)).toArray 160
  rw [World.size_alloc] at hb
  refine C_lit [leafC 65, ifC w.heap.size, leafC 1] [Ins.mk 65 0 0 0 0 [] [] [] false, ifI, nopI] (by simpa using hb) (by simp [maxLen]) rfl (fun i x cs hx hc => ?_)
  match i with
  | 0 => cases hx; cases hc; exact ins_leaf _ 65 rfl
  | 1 => cases hx; cases hc; exact (ins_mkF (x := ifI) rfl rfl rfl rfl rfl FC.nil h2 h2 (Nat.le_refl _) (Nat.le_refl _) (Nat.le_refl _)).now
  | 2 => cases hx; cases hc; exact ins_leaf _ 1 rfl
  | i + 3 => simp at hx
set_option maxRecDepth 100000 in
set_option maxHeartbeats 1000000 in
theorem awake38_any (w : World) : Calls Try.prog 26 #[] w (AwPost w) := by
  have H1 := Lib.hid (C_three w)
  have H3 := Lib.hid (show ∀ W, kI.C (W.alloc (.cells (leafC 3).toArray 160)) (some ⟨W.heap.size, 0, none⟩) 1 [Ins.mk 3 0 0 0 0 [] [] [] false] from fun W => C_one W 3 rfl)
  go_enter Try.func26, Try.ntmps26
  go_wp2_with fail
  refine (of_lit [Ins.mk 65 0 0 0 0 [] [] [] false, ifI, nopI] 4 true (by simp [bkL, bkI, ifI, nopI]) (by simp [knL, knI, ifI, nopI, stops, Ins.op]) (by simp [coL, coI, ifI, nopI, stops, Ins.op]) _ _ 3 3 rfl H1.out).mono ?_
  rintro e1 W1 ⟨rfl, hB1⟩
  clear H1
  have hB := (((Below.refl _ w).alloc (Nat.le_refl _) _).alloc (by simp) _).trans (hB1.mono (by simp; omega))
  clear hB1
  go_wp2_with fail
  refine (of_lit [Ins.mk 3 0 0 0 0 [] [] [] false] 0 false (by simp [bkL, bkI]) (by simp [knL, knI]) (by simp) _ _ 1 1 rfl (H3.out W1)).mono ?_
  rintro e2 W2 ⟨rfl, hB2⟩
  have hB2' := (hB.alloc hB.size _).trans (hB2.mono (by have := hB.size; simp; omega))
  go_wp2_with fail
  go_ret
  exact ⟨rfl, hB2'⟩
end Go.Proofs.Ytfndlpfceokloaa
