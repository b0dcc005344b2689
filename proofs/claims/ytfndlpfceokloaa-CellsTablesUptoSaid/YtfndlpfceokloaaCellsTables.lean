/- Lemmas towards this claim's statement: what the functions named here come to, each under the conditions that it states itself. -/
import Derived.Test.YtfndlpfceokloaaCells4
import Derived.Test.YtfndlpfceokloaaCellsL
import Derived.StillTailTactics
import Derived.Deep.RegionLaw
namespace Go.Proofs.Ytfndlpfceokloaa
open Go.RowKit YtfndlpfceokloaaB Go.Proofs.YtfndlpfceokloaaW.PrintWords
/-! ### the reference's tables -/
def rtabArr (mn mx : Int) (has : Bool) (p n : Nat) : Array Value := #[.int .u32 mn, .int .u32 mx, .bool has, .slice (some ⟨p, 0, none⟩) n n]
structure IsRTab (w : World) (g p : Nat) (mn mx : Int) (has : Bool) (l : List (Bool × Int)) : Prop where
  hg : w.heap[g]? = some (.cells (rtabArr mn mx has p l.length) 170 (0, 0))
  hp : w.heap[p]? = some (.cells (plCells l).toArray 172 (0, 0))
  hn : l.length ≤ 1024
theorem IsRTab.below {w w1 : World} {g p : Nat} {mn mx : Int} {has : Bool} {l : List (Bool × Int)} (h : IsRTab w g p mn mx has l) (hb : Below w.heap.size w w1) : IsRTab w1 g p mn mx has l :=
  ⟨Blk.below (w := w) h.hg hb (Blk.lt h.hg), Blk.below (w := w) h.hp hb (Blk.lt h.hp), h.hn⟩
theorem IsRTab.grown {w w1 : World} {g p : Nat} {mn mx : Int} {has : Bool} {l : List (Bool × Int)} (h : IsRTab w g p mn mx has l) {row : Option Nat} (hb : w.grownBy w1 row) (h1 : some g ≠ row) (h2 : some p ≠ row) : IsRTab w1 g p mn mx has l :=
  ⟨Blk.grown (w := w) h.hg hb h1, Blk.grown (w := w) h.hp hb h2, h.hn⟩
theorem infoEntry : (Try.prog.info? 172).map (fun i => (i.zero, i.size, i.bytes)) = some (some (.agg #[.bool false, .int .i64 0]), 2, 16) := by kernel_rfl
def NewRPost (w : World) (mn mx : Int) (has : Bool) (e : Ending) (w' : World) : Prop :=
  Below w.heap.size w w' ∧ ((newErr mn mx has ≠ 0 ∧ e = .returned (.tuple #[.pointer none, .int .i64 (newErr mn mx has)])) ∨
    (newErr mn mx has = 0 ∧ ∃ g p, e = .returned (.tuple #[.pointer (some ⟨g, 0, none⟩), .int .i64 0]) ∧ w.heap.size ≤ g ∧ w.heap.size ≤ p ∧ IsRTab w' g p mn mx has (List.replicate mn.toNat (false, 0))))
theorem rtab_new (w : World) (o : Obj) (n : Nat) (mx : Int) (has : Bool) (h : n ≤ 1024) : IsRTab ((((w.alloc o).alloc (.cells (madeCells #[Value.bool false, Value.int IntKind.i64 0] (n * 2)) 172)).alloc (.cells #[.int .u32 n, .int .u32 mx, .bool has, .slice (some ⟨w.heap.size + 1, 0, none⟩) n n] 170)).drew) (w.heap.size + 1 + 1) (w.heap.size + 1) n mx has (List.replicate n (false, 0)) := by
  have e1 : (w.alloc o).heap.size = w.heap.size + 1 := by simp
  have e2 : ((w.alloc o).alloc (.cells (madeCells #[Value.bool false, Value.int IntKind.i64 0] (n * 2)) 172)).heap.size = w.heap.size + 1 + 1 := by simp
  refine ⟨?_, ?_, by simpa using h⟩
  · have := Blk.new ((w.alloc o).alloc (.cells (madeCells #[Value.bool false, Value.int IntKind.i64 0] (n * 2)) 172)) #[.int .u32 n, .int .u32 mx, .bool has, .slice (some ⟨w.heap.size + 1, 0, none⟩) n n] 170
    rw [e2] at this
    rw [List.length_replicate]
    exact this
  · have := (Blk.new (w.alloc o) (madeCells #[Value.bool false, Value.int IntKind.i64 0] (n * 2)) 172).alloc (.cells #[.int .u32 n, .int .u32 mx, .bool has, .slice (some ⟨w.heap.size + 1, 0, none⟩) n n] 170)
    rw [e1, plCells_zero] at this
    rw [plCells_zero]
    exact this
set_option maxHeartbeats 1000000 in
theorem newRTable_any (mn mx : Int) (has : Bool) (h0 : 0 ≤ mn) (w : World) :
    Calls Try.prog 19 #[.agg #[.int .u32 mn, .int .u32 mx, .bool has]] w (NewRPost w mn mx has) := by
  obtain ⟨n, rfl⟩ := Int.eq_ofNat_of_zero_le h0
  by_cases h1 : has = true ∧ mx < n
  · obtain ⟨rfl, h1⟩ := h1
    have HP := Lib.hid (show ∀ w', Below w.heap.size w w' → NewRPost w n mx true (.returned (.tuple #[.pointer none, .int .i64 212])) w' from fun w' h => ⟨h, .inl (by simp [newErr, h1])⟩)
    go_enter Try.func19, Try.ntmps19
    go_wp2
    go_ret2
    exact HP.out _ ((Below.refl _ _).alloc (Nat.le_refl _) _)
  · by_cases h2 : 1024 < n
    · have HP := Lib.hid (show ∀ w', Below w.heap.size w w' → NewRPost w n mx has (.returned (.tuple #[.pointer none, .int .i64 3])) w' from fun w' h => ⟨h, .inl (by
        have : newErr n mx has = 3 := by unfold newErr; rw [if_neg h1, if_pos (by omega)]
        rw [this]; exact ⟨by decide, rfl⟩)⟩)
      cases has
      all_goals
        simp at h1
        go_enter Try.func19, Try.ntmps19
        go_wp2
        go_ret2
        exact HP.out _ ((Below.refl _ _).alloc (Nat.le_refl _) _)
    · have HP := Lib.hid (show ∀ (w' : World) (g p : Nat), Below w.heap.size w w' → w.heap.size ≤ g → w.heap.size ≤ p → IsRTab w' g p n mx has (List.replicate n (false, 0)) → NewRPost w n mx has (.returned (.tuple #[.pointer (some ⟨g, 0, none⟩), .int .i64 0])) w' from fun w' g p a b c d => ⟨a, .inr ⟨by
        unfold newErr; rw [if_neg h1, if_neg (by omega)], g, p, rfl, b, c, d⟩⟩)
      have hmk := run_mkn (P := Try.prog) 168 172 (.agg #[.bool false, .int .i64 0]) 2 16 Try.underlying168 infoEntry .u32 n (by omega) (by omega)
      cases has
      all_goals
        simp at h1
        go_enter Try.func19, Try.ntmps19
        go_wp2
        go_region
        go_wp2
        go_ret2
        refine HP.out _ (w.heap.size + 1 + 1) (w.heap.size + 1) ((((Below.refl _ _).alloc (Nat.le_refl _) _).alloc (by simp) _).alloc (by simp; omega) _).drew (by omega) (by omega) ?_
        exact rtab_new w _ n mx _ (by omega)
set_option maxRecDepth 100000 in
theorem rget_any (g p : Nat) (mn mx : Int) (has : Bool) (l : List (Bool × Int)) (i : Int) (h0 : 0 ≤ i) (hi : i < 4294967296) (w : World) (ht : IsRTab w g p mn mx has l) :
    Calls Try.prog 20 #[.pointer (some ⟨g, 0, none⟩), .int .u32 i] w fun e w' => e = .returned (.tuple #[.int .i64 (getF l i).1, .int .i64 (getF l i).2]) ∧ w = w' := by
  obtain ⟨hg, hp, hn⟩ := ht
  have c3 : w.cell? ⟨g, 3, none⟩ = some (.slice (some ⟨p, 0, none⟩) l.length l.length) := by simp [World.cell?, hg, rtabArr]
  by_cases hlt : i < l.length
  · obtain ⟨n, hin⟩ : ∃ n, n = i.toNat := ⟨_, rfl⟩
    have hn' : n < l.length := by omega
    have d0 : w.cell? ⟨p, i.toNat * 2, none⟩ = some (.bool l[n].1) := by rw [← hin]; simp [World.cell?, hp, plCells_at0 l n hn']
    have d1 : w.cell? ⟨p, i.toNat * 2 + 1, none⟩ = some (.int .i64 l[n].2) := by rw [← hin]; simp [World.cell?, hp, plCells_at1 l n hn']
    have hgl : getF l i = if l[n].1 then (l[n].2, 0) else (0, 7) := by
      unfold getF
      rw [if_pos (by omega), ← hin, List.getElem?_eq_getElem hn']
      rcases l[n] with ⟨b, f⟩
      cases b <;> rfl
    rw [hgl]
    clear hgl hin
    generalize l[n] = x at *
    clear hn'
    rcases x with ⟨b, f⟩
    simp only at d0 d1
    cases b
    all_goals
      go_enter Try.func20, Try.ntmps20
      go_wp2
      go_ret2
      exact ⟨rfl, rfl⟩
  · have hgl : getF l i = (0, 6) := by
      unfold getF
      rw [if_neg (by omega)]
    rw [hgl]
    clear hgl
    go_enter Try.func20, Try.ntmps20
    go_wp2
    go_ret2
    exact ⟨rfl, rfl⟩
theorem rholds_any (g p : Nat) (mn mx : Int) (has : Bool) (l : List (Bool × Int)) (at_ m : Int) (h0 : 0 ≤ at_) (h1 : at_ < 18446744073709551616) (h2 : m < 9223372036854775808) (h3 : -9223372036854775808 ≤ m) (w : World) (ht : IsRTab w g p mn mx has l) :
    Calls Try.prog 23 #[.pointer (some ⟨g, 0, none⟩), .int .u64 at_, .int .i64 m] w fun e w' => e = .returned (.bool (holdsF l.length at_ m)) ∧ w = w' := by
  obtain ⟨hg, hp, hn⟩ := ht
  have c3 : w.cell? ⟨g, 3, none⟩ = some (.slice (some ⟨p, 0, none⟩) l.length l.length) := by simp [World.cell?, hg, rtabArr]
  by_cases a1 : 0 ≤ m
  · by_cases a2 : at_ ≤ l.length
    · have e : holdsF l.length at_ m = decide (m ≤ l.length - at_) := by
        unfold holdsF; rw [decide_eq_decide]; omega
      rw [e]
      clear e
      go_enter Try.func23, Try.ntmps23
      go_wp2
      go_ret
      exact ⟨rfl, rfl⟩
    · have e : holdsF l.length at_ m = false := by
        unfold holdsF; simp; omega
      rw [e]
      clear e
      go_enter Try.func23, Try.ntmps23
      go_wp2
      go_ret
      exact ⟨rfl, rfl⟩
  · have e : holdsF l.length at_ m = false := by
      unfold holdsF; simp; omega
    rw [e]
    clear e
    go_enter Try.func23, Try.ntmps23
    go_wp2
    go_ret
    exact ⟨rfl, rfl⟩
def RSetPost (w : World) (g p : Nat) (mn mx : Int) (has : Bool) (l : List (Bool × Int)) (i : Int) (xs : List Int) (e : Ending) (w' : World) : Prop :=
  e = .returned (.bool (setOk l.length i xs)) ∧ w.grownBy w' (some p) ∧ IsRTab w' g p mn mx has (if setOk l.length i xs then setL l i.toNat xs else l)
theorem rsetPost_no {w w0 : World} {g p : Nat} {mn mx : Int} {has : Bool} {l : List (Bool × Int)} {i : Int} {xs : List Int} (ht : IsRTab w g p mn mx has l) (h : setOk l.length i xs = false) (hg : w0.grownBy w (some p)) : RSetPost w0 g p mn mx has l i xs (.returned (.bool false)) w :=
  ⟨by rw [h], hg, by rw [h]; exact ht⟩
theorem setL_zero (l : List (Bool × Int)) (i : Nat) : setL l i [] = l := by simp [setL]
theorem plCells_set (l : List (Bool × Int)) (i : Nat) (xs : List Int) (h : i + xs.length ≤ l.length) (j : Nat) (x : Int) (hx : xs[j]? = some x) :
    (((plCells (setL l i (xs.take j))).set ((i + j) * 2) (.bool true)).set ((i + j) * 2 + 1) (.int .i64 x)) = plCells (setL l i (xs.take (j + 1))) := by
  have hj : j < xs.length := (List.getElem?_eq_some_iff.1 hx).1
  have hn : (setL l i (xs.take j)).length = l.length := setL_length _ _ _ (by simp; omega)
  have hn2 : (setL l i (xs.take (j + 1))).length = l.length := setL_length _ _ _ (by simp; omega)
  apply List.ext_getElem?
  intro k
  rw [List.getElem?_set, List.getElem?_set]
  have hl2 : (plCells (setL l i (xs.take j))).length = l.length * 2 := by rw [plCells_length, hn]
  simp only [List.length_set, hl2]
  have gets : ∀ m, m < l.length → ∀ (L : List (Bool × Int)), L.length = l.length → (plCells L)[m * 2]? = (L[m]?).map (fun y => Value.bool y.1) ∧ (plCells L)[m * 2 + 1]? = (L[m]?).map (fun y => Value.int .i64 y.2) := by
    intro m hm L hL
    have hm' : m < L.length := by omega
    exact ⟨by rw [plCells_at0 L m hm', List.getElem?_eq_getElem hm']; rfl, by rw [plCells_at1 L m hm', List.getElem?_eq_getElem hm']; rfl⟩
  by_cases hk : k < l.length * 2
  · have hm : k / 2 < l.length := by omega
    obtain ⟨a0, a1⟩ := gets (k / 2) hm _ hn
    obtain ⟨b0, b1⟩ := gets (k / 2) hm _ hn2
    have e1 := setL_get l i (xs.take j) (by simp; omega) (k / 2)
    have e2 := setL_get l i (xs.take (j + 1)) (by simp; omega) (k / 2)
    have hlt : (xs.take j).length = j := by simp; omega
    have hlt2 : (xs.take (j + 1)).length = j + 1 := by simp; omega
    rw [hlt] at e1
    rw [hlt2] at e2
    by_cases hc : k / 2 = i + j
    · have hs : (setL l i (xs.take (j + 1)))[k / 2]? = some (true, x) := by
        rw [e2, if_pos ⟨by omega, by omega⟩, List.getElem?_take, if_pos (by omega), show k / 2 - i = j from by omega, hx]
        rfl
      rcases Nat.mod_two_eq_zero_or_one k with h2 | h2
      · rw [if_neg (by omega), if_pos (by omega), if_pos (by omega), show k = k / 2 * 2 from by omega, b0, hs]
        rfl
      · rw [if_pos (by omega), if_pos (by omega), show k = k / 2 * 2 + 1 from by omega, b1, hs]
        rfl
    · have hs : (setL l i (xs.take (j + 1)))[k / 2]? = (setL l i (xs.take j))[k / 2]? := by
        rw [e1, e2]
        by_cases hr : i ≤ k / 2 ∧ k / 2 - i < j
        · rw [if_pos hr, if_pos ⟨hr.1, by omega⟩, List.getElem?_take, List.getElem?_take, if_pos hr.2, if_pos (by omega)]
        · rw [if_neg hr, if_neg (by omega)]
      rw [if_neg (by omega), if_neg (by omega)]
      rcases Nat.mod_two_eq_zero_or_one k with h2 | h2
      · rw [show k = k / 2 * 2 from by omega, a0, b0, hs]
      · rw [show k = k / 2 * 2 + 1 from by omega, a1, b1, hs]
  · have f1 : (plCells (setL l i (xs.take j)))[k]? = none := List.getElem?_eq_none (by rw [plCells_length, hn]; omega)
    have f2 : (plCells (setL l i (xs.take (j + 1))))[k]? = none := List.getElem?_eq_none (by rw [plCells_length, hn2]; omega)
    rw [f1, f2]
    split
    · rw [if_neg (by omega)]
    · split
      · rw [if_neg (by omega)]
      · rfl
set_option maxRecDepth 100000 in
set_option maxHeartbeats 1000000 in
theorem rset_any (g p : Nat) (mn mx : Int) (has : Bool) (l : List (Bool × Int)) (i : Int) (h0 : 0 ≤ i) (hi2 : i < 4294967296) (A : Option Addr) (c : Nat) (xs : List Int) (w : World) (ht : IsRTab w g p mn mx has l) (hr : RdI w .i64 A xs) (hsep : 0 < xs.length → ∀ b o, A = some ⟨b, o, none⟩ → b ≠ p) :
    Calls Try.prog 21 #[.pointer (some ⟨g, 0, none⟩), .int .u32 i, .slice A xs.length c] w (RSetPost w g p mn mx has l i xs) := by
  have hlen : xs.length ≤ 9223372036854775807 := by have := hr.1; omega
  have HSEP := Lib.hid hsep
  clear hsep
  by_cases hh : holdsF l.length i xs.length = false
  · have HP := Lib.hid (rsetPost_no ht (by unfold setOk; rw [hh]; rfl) (World.grownBy.refl w _) : RSetPost w g p mn mx has l i xs (.returned (.bool false)) w)
    go_enter Try.func21, Try.ntmps21
    go_wp2_with (go_at_call 23; refine (rholds_any g p mn mx has l _ _ (by omega) (by omega) (by omega) (by omega) _ ht).mono ?_; rintro e w' ⟨rfl, rfl⟩)
    go_ret
    exact HP.out
  · replace hh : holdsF l.length i xs.length = true := by simpa using hh
    have hT := Lib.hid ht
    obtain ⟨hg, hp, hn⟩ := ht
    have hb : i.toNat + xs.length ≤ l.length := by unfold holdsF at hh; simp at hh; omega
    have hb2 : i + xs.length ≤ l.length := by omega
    have hlt : g < w.heap.size := Blk.lt hg
    go_enter Try.func21, Try.ntmps21
    go_wp2_with (go_at_call 23; refine (rholds_any g p mn mx has l _ _ (by omega) (by omega) (by omega) (by omega) _ hT.out).mono ?_; rintro e w' ⟨rfl, rfl⟩)
    go_loop [7] (fun k => ∃ j : Nat, j ≤ xs.length ∧ k = .int .i64 j ∧ Hid (∀ x ∈ xs.take j, 0 ≤ x)) (fun k => xs.length - (intOf k).toNat)
    case atStart => exact ⟨0, Nat.zero_le _, rfl, by intro x hx; simp at hx⟩
    case round =>
      obtain ⟨j, hj, rfl, hpos⟩ := hrel
      by_cases hlt2 : j < xs.length
      · obtain ⟨b, o, x, rfl, hc, hx⟩ := hr.get j hlt2
        by_cases hneg : x < 0
        · have HP := Lib.hid (rsetPost_no hT.out (by
            unfold setOk; rw [Bool.and_eq_false_iff]; right
            rw [Bool.eq_false_iff]; intro hal
            have := List.all_eq_true.1 hal x (List.mem_of_getElem? hx.out)
            simp at this; omega) (World.grownBy.refl w _) : RSetPost w g p mn mx has l i xs (.returned (.bool false)) w)
          go_wp2
          go_ret
          exact HP.out
        · have hpos2 : Hid (∀ x ∈ xs.take (j + 1), 0 ≤ x) := take_all_succ hpos.out hx.out (by omega)
          go_wp2
          go_round
          case rel => exact ⟨j + 1, by omega, by go_num, hpos2⟩
          case measure => simp [intOf]; omega
      · obtain rfl : j = xs.length := by omega
        have hok : setOk l.length i xs = true := by
          unfold setOk
          rw [hh, Bool.true_and, List.all_eq_true]
          intro x hx
          have := hpos.out x (by rw [List.take_of_length_le (Nat.le_refl _)]; exact hx)
          simpa using this
        have HOK := Lib.hid hok
        clear hok hpos hj hlt2
        go_wp2_with fail
        go_loopw [8] (fun k wr => ∃ j : Nat, j ≤ xs.length ∧ k = .int .i64 j ∧ Blk wr p (plCells (setL l i.toNat (xs.take j))).toArray 172 ∧ w.grownBy wr (some p)) (fun k _ => xs.length - (intOf k).toNat)
        case atStart => exact ⟨0, Nat.zero_le _, rfl, by rw [List.take_zero, setL_zero]; exact hp, World.grownBy.refl w _⟩
        case round =>
          obtain ⟨j, hj, rfl, hbp, hgr⟩ := hrel
          have hgp : some g ≠ some p := by
            intro h
            injection h with h
            subst h
            rw [hg] at hp
            simp at hp
          have c3 : wr.cell? ⟨g, 3, none⟩ = some (.slice (some ⟨p, 0, none⟩) l.length l.length) := by rw [(Blk.grown hg hgr hgp).cell]; rfl
          by_cases hlt3 : j < xs.length
          · obtain ⟨b, o, x, rfl, hc, hx⟩ := hr.get j hlt3
            have hc2 : wr.cell? ⟨b, o + j, none⟩ = some (.int .i64 x) := hgr.cell hc (by simpa using HSEP.out (by omega) b o rfl)
            go_wp2_with fail
            have hn2 : (setL l i.toNat (xs.take j)).length = l.length := setL_length _ _ _ (by simp; omega)
            have hsz : (plCells (setL l i.toNat (xs.take j))).toArray.size = l.length * 2 := by rw [List.size_toArray, plCells_length, hn2]
            have z0 : (wr.cell? ⟨p, (i + (j : Int)).toNat * 2, none⟩).isSome = true := by rw [hbp.cell]; simp; rw [plCells_length, hn2]; omega
            have z1 : (wr.cell? ⟨p, (i + (j : Int)).toNat * 2 + 1, none⟩).isSome = true := by rw [hbp.cell]; simp; rw [plCells_length, hn2]; omega
            have z2 : wr.frozen? ⟨p, (i + (j : Int)).toNat * 2, none⟩ = false := hbp.frozen _
            have z3 : wr.frozen? ⟨p, (i + (j : Int)).toNat * 2 + 1, none⟩ = false := hbp.frozen _
            obtain ⟨v0, z0⟩ := Option.isSome_iff_exists.1 z0
            obtain ⟨v1, z1⟩ := Option.isSome_iff_exists.1 z1
            have q0 : 0 ≤ i + (j : Int) := by omega
            have q1 : i + (j : Int) < (l.length : Int) := by omega
            have hwi : IntKind.i64.wrap i = i := by rw [IntKind.wrap_i64]; omega
            have hsum : IntKind.i64.wrap (i + (j : Int)) = i + (j : Int) := by rw [IntKind.wrap_i64]; omega
            have hbne := HSEP.out (by omega) b o rfl
            have hgne : g ≠ p := by simpa using hgp
            clear hn2 hsz
            go_still_tail 14, (by kernel_rfl)
            change wpList _ _ _ _ _ wr.drew
            go_wp2
            go_roundw
            case rel =>
              refine ⟨j + 1, by omega, by go_num, ?_, ?_⟩
              · have h2 := ((hbp.set ((i + (j : Int)).toNat * 2) (.bool true)).set ((i + (j : Int)).toNat * 2 + 1) (.int .i64 x)).drew
                have h3 := plCells_set l i.toNat xs hb j x hx.out
                rw [show (i + (j : Int)).toNat = i.toNat + j from by omega] at h2 ⊢
                simp only [List.setIfInBounds_toArray, h3] at h2
                exact h2
              · exact hgr.trans ⟨rfl, rfl, rfl, by simp [World.setCell, World.drew], fun k hk hne => by
                  have h1 : k ≠ p := fun e => hne (by rw [e])
                  show ((wr.setCell _ _).setCell _ _).heap[k]? = _
                  rw [Below.heap_setCell _ _ _ _ h1, Below.heap_setCell _ _ _ _ h1]⟩
            case measure => simp [intOf]; omega
          · obtain rfl : j = xs.length := by omega
            rw [List.take_of_length_le (Nat.le_refl _)] at hbp
            have HF := Lib.hid (show RSetPost w g p mn mx has l i xs (.returned (.bool true)) wr from by
              refine ⟨by rw [HOK.out], hgr, ?_⟩
              rw [HOK.out, if_pos rfl]
              have e := setL_length l i.toNat xs hb
              exact ⟨by rw [e]; exact Blk.grown hg hgr hgp, hbp, by rw [e]; exact hn⟩)
            go_wp2_with fail
            go_ret
            exact HF.out
end Go.Proofs.Ytfndlpfceokloaa
