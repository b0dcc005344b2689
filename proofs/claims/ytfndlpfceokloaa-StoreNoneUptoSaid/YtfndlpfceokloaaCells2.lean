/- Lemmas towards this claim's statement: what the functions named here come to, each under the conditions that it states itself. -/
import Derived.Test.YtfndlpfceokloaaCells
namespace Go.Proofs.Ytfndlpfceokloaa
open Go.RowKit YtfndlpfceokloaaB Go.Proofs.YtfndlpfceokloaaW.PrintWords
def newErr (mn mx : Int) (has : Bool) : Int := if has = true ∧ mx < mn then 212 else if mn > 1024 then 3 else 0
def NewPost (w : World) (mn mx : Int) (has : Bool) (e : Ending) (w' : World) : Prop :=
  Below w.heap.size w w' ∧ ((newErr mn mx has ≠ 0 ∧ e = .returned (.tuple #[.pointer none, .int .i64 (newErr mn mx has)])) ∨
    (newErr mn mx has = 0 ∧ ∃ g p, e = .returned (.tuple #[.pointer (some ⟨g, 0, none⟩), .int .i64 0]) ∧ w.heap.size ≤ g ∧ w.heap.size ≤ p ∧ IsTab w' g p mn mx has (List.replicate mn.toNat (false, 0))))
theorem plCells_zero (n : Nat) : (madeCells #[Value.bool false, Value.int IntKind.i64 0] (n * 2)) = (plCells (List.replicate n (false, 0))).toArray := by
  apply Array.ext'
  apply List.ext_getElem?
  intro j
  by_cases hj : j < n * 2
  · have h1 : (madeCells #[Value.bool false, Value.int IntKind.i64 0] (n * 2)).toList[j]? = some (#[Value.bool false, Value.int IntKind.i64 0][j % 2]!) := by
      simp [madeCells, hj]
    rw [h1]
    have hm := Nat.div_add_mod j 2
    have hr : (List.replicate n (false, (0:Int))).length = n := List.length_replicate
    rcases Nat.mod_two_eq_zero_or_one j with h | h
    · have := plCells_at0 (List.replicate n (false, (0:Int))) (j / 2) (by rw [hr]; omega)
      rw [show j / 2 * 2 = j from by omega] at this
      rw [List.toList_toArray, this, h]; simp
    · have := plCells_at1 (List.replicate n (false, (0:Int))) (j / 2) (by rw [hr]; omega)
      rw [show j / 2 * 2 + 1 = j from by omega] at this
      rw [List.toList_toArray, this, h]; simp
  · rw [List.getElem?_eq_none (by simp [madeCells]; omega), List.getElem?_eq_none (by rw [List.toList_toArray, plCells_length, List.length_replicate]; omega)]
theorem tab_new (w : World) (o : Obj) (n : Nat) (mx : Int) (has : Bool) (h : n ≤ 1024) : IsTab ((((w.alloc o).alloc (.cells (madeCells #[Value.bool false, Value.int IntKind.i64 0] (n * 2)) 167)).alloc (.cells #[.int .u32 n, .int .u32 mx, .bool has, .slice (some ⟨w.heap.size + 1, 0, none⟩) n n, .bool true] 64)).drew) (w.heap.size + 1 + 1) (w.heap.size + 1) n mx has (List.replicate n (false, 0)) := by
  have e1 : (w.alloc o).heap.size = w.heap.size + 1 := by simp
  have e2 : ((w.alloc o).alloc (.cells (madeCells #[Value.bool false, Value.int IntKind.i64 0] (n * 2)) 167)).heap.size = w.heap.size + 1 + 1 := by simp
  refine ⟨?_, ?_, by simpa using h⟩
  · have := Blk.new ((w.alloc o).alloc (.cells (madeCells #[Value.bool false, Value.int IntKind.i64 0] (n * 2)) 167)) #[.int .u32 n, .int .u32 mx, .bool has, .slice (some ⟨w.heap.size + 1, 0, none⟩) n n, .bool true] 64
    rw [e2] at this
    rw [List.length_replicate]
    exact this
  · have := (Blk.new (w.alloc o) (madeCells #[Value.bool false, Value.int IntKind.i64 0] (n * 2)) 167).alloc (.cells #[.int .u32 n, .int .u32 mx, .bool has, .slice (some ⟨w.heap.size + 1, 0, none⟩) n n, .bool true] 64)
    rw [e1, plCells_zero] at this
    rw [plCells_zero]
    exact this
set_option maxHeartbeats 1000000 in
theorem newTable_any (mn mx : Int) (has : Bool) (h0 : 0 ≤ mn) (w : World) :
    Calls Try.prog 15 #[.agg #[.int .u32 mn, .int .u32 mx, .bool has]] w (NewPost w mn mx has) := by
  obtain ⟨n, rfl⟩ := Int.eq_ofNat_of_zero_le h0
  by_cases h1 : has = true ∧ mx < n
  · obtain ⟨rfl, h1⟩ := h1
    have HP := Lib.hid (show ∀ w', Below w.heap.size w w' → NewPost w n mx true (.returned (.tuple #[.pointer none, .int .i64 212])) w' from fun w' h => ⟨h, .inl (by simp [newErr, h1])⟩)
    go_enter Try.func15, Try.ntmps15
    go_wp2
    go_ret2
    exact HP.out _ ((Below.refl _ _).alloc (Nat.le_refl _) _)
  · by_cases h2 : 1024 < n
    · have HP := Lib.hid (show ∀ w', Below w.heap.size w w' → NewPost w n mx has (.returned (.tuple #[.pointer none, .int .i64 3])) w' from fun w' h => ⟨h, .inl (by
        have : newErr n mx has = 3 := by unfold newErr; rw [if_neg h1, if_pos (by omega)]
        rw [this]; exact ⟨by decide, rfl⟩)⟩)
      cases has
      all_goals
        simp at h1
        go_enter Try.func15, Try.ntmps15
        go_wp2
        go_ret2
        exact HP.out _ ((Below.refl _ _).alloc (Nat.le_refl _) _)
    · have HP := Lib.hid (show ∀ (w' : World) (g p : Nat), Below w.heap.size w w' → w.heap.size ≤ g → w.heap.size ≤ p → IsTab w' g p n mx has (List.replicate n (false, 0)) → NewPost w n mx has (.returned (.tuple #[.pointer (some ⟨g, 0, none⟩), .int .i64 0])) w' from fun w' g p a b c d => ⟨a, .inr ⟨by
        unfold newErr; rw [if_neg h1, if_neg (by omega)], g, p, rfl, b, c, d⟩⟩)
      have hmk := run_mkn (P := Try.prog) 62 167 (.agg #[.bool false, .int .i64 0]) 2 16 Try.underlying62 infoPlace .u32 n (by omega) (by omega)
      cases has
      all_goals
        simp at h1
        go_enter Try.func15, Try.ntmps15
        go_wp2
        go_region
        go_wp2
        go_ret2
        refine HP.out _ (w.heap.size + 1 + 1) (w.heap.size + 1) ((((Below.refl _ _).alloc (Nat.le_refl _) _).alloc (by simp) _).alloc (by simp; omega) _).drew (by omega) (by omega) ?_
        exact tab_new w _ n mx _ (by omega)

/-! ### globals -/
def glArr (t : Int) (m : Bool) (v : Int) : Array Value := #[.int .u8 t, .bool m, .int .u64 v]
def isTy (t : Int) : Bool := decide (t = 127 ∨ t = 125 ∨ t = 126 ∨ t = 124)
def cutV (t v : Int) : Int := if t = 127 ∨ t = 125 then bits BinOp.and .u64 v 4294967295 else if t = 126 ∨ t = 124 then v else 0
set_option maxHeartbeats 400000 in
theorem cut_any (t v : Int) (w : World) :
    Calls Try.prog 70 #[.int .u8 t, .int .u64 v] w fun e w' => e = .returned (.tuple #[.int .u64 (cutV t v), .bool (isTy t)]) ∧ w = w' := by
  by_cases h1 : t = 127
  · subst h1; go_enter Try.func70, Try.ntmps70; go_wp2; go_ret2; exact ⟨rfl, rfl⟩
  by_cases h2 : t = 125
  · subst h2; go_enter Try.func70, Try.ntmps70; go_wp2; go_ret2; exact ⟨rfl, rfl⟩
  by_cases h3 : t = 126
  · subst h3; go_enter Try.func70, Try.ntmps70; go_wp2; go_ret2; exact ⟨rfl, rfl⟩
  by_cases h4 : t = 124
  · subst h4; go_enter Try.func70, Try.ntmps70; go_wp2; go_ret2; exact ⟨rfl, rfl⟩
  have e1 : cutV t v = 0 := by unfold cutV; rw [if_neg (by omega), if_neg (by omega)]
  have e2 : isTy t = false := by unfold isTy; simp; omega
  rw [e1, e2]
  clear e1 e2
  go_enter Try.func70, Try.ntmps70
  go_wp2
  go_ret2
  exact ⟨rfl, rfl⟩
def NewGPost (w : World) (t : Int) (m : Bool) (v : Int) (e : Ending) (w' : World) : Prop :=
  Below w.heap.size w w' ∧ ((isTy t = false ∧ e = .returned (.tuple #[.pointer none, .int .i64 106])) ∨
    (isTy t = true ∧ ∃ g, e = .returned (.tuple #[.pointer (some ⟨g, 0, none⟩), .int .i64 0]) ∧ w.heap.size ≤ g ∧ Blk w' g (glArr t m (cutV t v)) 70))
set_option maxHeartbeats 400000 in
theorem newGlobal_any (t : Int) (m : Bool) (v : Int) (w : World) :
    Calls Try.prog 37 #[.agg #[.int .u8 t, .bool m], .int .u64 v] w (NewGPost w t m v) := by
  cases hty : isTy t
  · have HP := Lib.hid (show ∀ w', Below w.heap.size w w' → NewGPost w t m v (.returned (.tuple #[.pointer none, .int .i64 106])) w' from fun w' h => ⟨h, .inl ⟨hty, rfl⟩⟩)
    go_enter Try.func37, Try.ntmps37
    go_wp2_with (go_at_call 70; refine (cut_any _ _ _).mono ?_; rintro e w' ⟨rfl, rfl⟩)
    go_ret2
    exact HP.out _ ((Below.refl _ _).alloc (Nat.le_refl _) _)
  · have HP := Lib.hid (show ∀ w' g, Below w.heap.size w w' → w.heap.size ≤ g → Blk w' g (glArr t m (cutV t v)) 70 → NewGPost w t m v (.returned (.tuple #[.pointer (some ⟨g, 0, none⟩), .int .i64 0])) w' from fun w' g h a b => ⟨h, .inr ⟨hty, g, rfl, a, b⟩⟩)
    go_enter Try.func37, Try.ntmps37
    go_wp2_with (go_at_call 70; refine (cut_any _ _ _).mono ?_; rintro e w' ⟨rfl, rfl⟩)
    go_ret2
    refine HP.out _ (w.heap.size + 1) (((Below.refl _ _).alloc (Nat.le_refl _) _).alloc (by simp) _) (by omega) ?_
    have := Blk.new (w.alloc (.cells #[.int .u8 t, .bool m] 68)) (glArr t m (cutV t v)) 70
    rw [show (w.alloc (.cells #[.int .u8 t, .bool m] 68)).heap.size = w.heap.size + 1 from by simp] at this
    exact this
theorem gget_any (g : Nat) (t : Int) (m : Bool) (v : Int) (w : World) (hg : Blk w g (glArr t m v) 70) :
    Calls Try.prog 35 #[.pointer (some ⟨g, 0, none⟩)] w fun e w' => e = .returned (.int .u64 v) ∧ w = w' := by
  have c2 : w.cell? ⟨g, 2, none⟩ = some (.int .u64 v) := by rw [hg.cell]; rfl
  go_enter Try.func35, Try.ntmps35
  go_wp2
  go_ret
  exact ⟨rfl, rfl⟩
theorem gtype_any (g : Nat) (t : Int) (m : Bool) (v : Int) (w : World) (hg : Blk w g (glArr t m v) 70) :
    Calls Try.prog 36 #[.pointer (some ⟨g, 0, none⟩)] w fun e w' => e = .returned (.agg #[.int .u8 t, .bool m]) ∧ Below w.heap.size w w' := by
  have c0 : w.cell? ⟨g, 0, none⟩ = some (.int .u8 t) := by rw [hg.cell]; rfl
  have c1 : w.cell? ⟨g, 1, none⟩ = some (.bool m) := by rw [hg.cell]; rfl
  have hlt : g < w.heap.size := hg.lt
  go_enter Try.func36, Try.ntmps36
  go_wp2
  exact bodyPost_ret (v := .agg #[.int .u8 t, .bool m]) (by simp [results, Try.results36, go_sem]) rfl ⟨rfl, (Below.refl _ _).alloc (Nat.le_refl _) _⟩
def SetGPost (w : World) (g : Nat) (t : Int) (m : Bool) (v x : Int) (e : Ending) (w' : World) : Prop :=
  e = .returned (.bool m) ∧ w.grownBy w' (some g) ∧ Blk w' g (glArr t m (if m = true then cutV t x else v)) 70
set_option maxHeartbeats 400000 in
theorem gset_any (g : Nat) (t : Int) (m : Bool) (v x : Int) (w : World) (hty : isTy t = true) (hg : Blk w g (glArr t m v) 70) :
    Calls Try.prog 34 #[.pointer (some ⟨g, 0, none⟩), .int .u64 x] w (SetGPost w g t m v x) := by
  have c0 : w.cell? ⟨g, 0, none⟩ = some (.int .u8 t) := by rw [hg.cell]; rfl
  have c1 : w.cell? ⟨g, 1, none⟩ = some (.bool m) := by rw [hg.cell]; rfl
  have c2 : w.cell? ⟨g, 2, none⟩ = some (.int .u64 v) := by rw [hg.cell]; rfl
  have f2 : w.frozen? ⟨g, 2, none⟩ = false := hg.frozen 2
  cases m
  · have HP := Lib.hid (show SetGPost w g t false v x (.returned (.bool false)) w from ⟨rfl, ⟨rfl, rfl, rfl, Nat.le_refl _, fun _ _ _ => rfl⟩, hg⟩)
    go_enter Try.func34, Try.ntmps34
    go_wp2
    go_ret
    exact HP.out
  · have HP := Lib.hid (show SetGPost w g t true v x (.returned (.bool true)) (w.setCell ⟨g, 2, none⟩ (.int .u64 (cutV t x))) from
      ⟨rfl, ⟨rfl, rfl, rfl, by simp [World.setCell], fun k hk hne => Below.heap_setCell _ _ _ _ (by rintro rfl; exact hne rfl)⟩, hg.set 2 _⟩)
    go_enter Try.func34, Try.ntmps34
    go_wp2_with (go_at_call 70; refine (cut_any _ _ _).mono ?_; rintro e w' ⟨rfl, rfl⟩)
    go_ret
    exact HP.out
/-! ### the reference's globals -/
def widthV (t : Int) : Int := if t = 127 ∨ t = 125 then 32 else if t = 126 ∨ t = 124 then 64 else 0
theorem width_any (t : Int) (w : World) :
    Calls Try.prog 38 #[.int .u8 t] w fun e w' => e = .returned (.int .i64 (widthV t)) ∧ w = w' := by
  by_cases h1 : t = 127
  · subst h1; go_enter Try.func38, Try.ntmps38; go_wp2; go_ret; exact ⟨rfl, rfl⟩
  by_cases h2 : t = 125
  · subst h2; go_enter Try.func38, Try.ntmps38; go_wp2; go_ret; exact ⟨rfl, rfl⟩
  by_cases h3 : t = 126
  · subst h3; go_enter Try.func38, Try.ntmps38; go_wp2; go_ret; exact ⟨rfl, rfl⟩
  by_cases h4 : t = 124
  · subst h4; go_enter Try.func38, Try.ntmps38; go_wp2; go_ret; exact ⟨rfl, rfl⟩
  have e1 : widthV t = 0 := by unfold widthV; rw [if_neg (by omega), if_neg (by omega)]
  rw [e1]
  clear e1
  have b1 : (t == 127) = false := by simpa using h1
  have b2 : (t == 125) = false := by simpa using h2
  have b3 : (t == 126) = false := by simpa using h3
  have b4 : (t == 124) = false := by simpa using h4
  go_enter Try.func38, Try.ntmps38
  go_wp2
  go_ret
  exact ⟨rfl, rfl⟩
def cutR (n v : Int) : Int := if n = 32 then v % 4294967296 else v
theorem rcut_any (n v : Int) (h0 : 0 ≤ v) (h1 : v < 18446744073709551616) (w : World) :
    Calls Try.prog 39 #[.int .i64 n, .int .u64 v] w fun e w' => e = .returned (.int .u64 (cutR n v)) ∧ w = w' := by
  by_cases h : n = 32
  · subst h
    go_enter Try.func39, Try.ntmps39
    go_wp2
    go_ret
    exact ⟨rfl, rfl⟩
  · have e1 : cutR n v = v := if_neg h
    rw [e1]
    clear e1
    go_enter Try.func39, Try.ntmps39
    go_wp2
    go_ret
    exact ⟨rfl, rfl⟩
set_option maxHeartbeats 400000 in
theorem rgset_any (g : Nat) (t : Int) (m : Bool) (v x : Int) (h0 : 0 ≤ x) (h1 : x < 18446744073709551616) (w : World) (hg : Blk w g (glArr t m v) 83) :
    Calls Try.prog 40 #[.pointer (some ⟨g, 0, none⟩), .int .u64 x] w fun e w' => e = .returned (.bool m) ∧ w.grownBy w' (some g) ∧ Blk w' g (glArr t m (if m = true then cutR (widthV t) x else v)) 83 := by
  have c0 : w.cell? ⟨g, 0, none⟩ = some (.int .u8 t) := by rw [hg.cell]; rfl
  have c1 : w.cell? ⟨g, 1, none⟩ = some (.bool m) := by rw [hg.cell]; rfl
  have c2 : w.cell? ⟨g, 2, none⟩ = some (.int .u64 v) := by rw [hg.cell]; rfl
  have f2 : w.frozen? ⟨g, 2, none⟩ = false := hg.frozen 2
  cases m
  · have HP := Lib.hid (show w.grownBy w (some g) ∧ Blk w g (glArr t false (if false = true then cutR (widthV t) x else v)) 83 from ⟨⟨rfl, rfl, rfl, Nat.le_refl _, fun _ _ _ => rfl⟩, hg⟩)
    go_enter Try.func40, Try.ntmps40
    go_wp2
    go_ret
    exact ⟨rfl, HP.out⟩
  · have HP := Lib.hid (show w.grownBy (w.setCell ⟨g, 2, none⟩ (.int .u64 (cutR (widthV t) x))) (some g) ∧ Blk (w.setCell ⟨g, 2, none⟩ (.int .u64 (cutR (widthV t) x))) g (glArr t true (if true = true then cutR (widthV t) x else v)) 83 from
      ⟨⟨rfl, rfl, rfl, by simp [World.setCell], fun k hk hne => Below.heap_setCell _ _ _ _ (by rintro rfl; exact hne rfl)⟩, hg.set 2 _⟩)
    go_enter Try.func40, Try.ntmps40
    go_wp2_with (first | (go_at_call 38; refine (width_any _ _).mono ?_; rintro e w' ⟨rfl, rfl⟩) | (go_at_call 39; refine (rcut_any _ _ h0 h1 _).mono ?_; rintro e w' ⟨rfl, rfl⟩))
    go_ret
    exact ⟨rfl, HP.out⟩
end Go.Proofs.Ytfndlpfceokloaa
