/- Lemmas towards this claim's statement: what the functions named here come to, each under the conditions that it states itself. -/
import Derived.Test.YtfndlpfceokloaaStA
namespace Go.Proofs.Ytfndlpfceokloaa
open Go.RowKit Go.Shelf YtfndlpfceokloaaB Go.Proofs.YtfndlpfceokloaaW.PrintWords
theorem tat_yes (W : World) (g i : Nat) (v : Value) (ps : List Nat) (ok : Nat → Prop) (base : Nat) (hc : W.cell? ⟨g, 2, none⟩ = some v) (hO : YtfndlpfceokloaaB.Own kP 28 W base ok v ps) (t : Nat) (hi : ps[i]? = some t) (hl : ps.length ≤ 100) :
    Calls Try.prog 113 #[.pointer (some ⟨g, 2, none⟩), .int .i64 i] W fun E w' => E = .returned (.tuple #[.pointer (some ⟨t, 0, none⟩), .bool true]) ∧ W = w' := by
  obtain ⟨A, c, rfl, hle, hF⟩ := YtfndlpfceokloaaB.Own.reads hO
  have hlt : i < ps.length := (List.getElem?_eq_some_iff.1 hi).1
  obtain ⟨b, o, x, cs, rfl, hx, hk, hcc⟩ := FC.at_ hF Nat.one_pos i hlt
  obtain rfl : x = t := by have := hx.out.symm.trans hi; injection this
  have hks : cs = [.pointer (some ⟨x, 0, none⟩)] := hk.now
  subst hks
  have h0 := hcc 0 _ rfl
  have hz : kP.sz = 1 := rfl
  simp only [hz, Nat.mul_one, Nat.add_zero] at h0
  have hlt2 : (i : Int) < (ps.length : Int) := by omega
  clear hx hk hcc hF hO hi
  go_enter Try.func113, Try.ntmps113
  go_wp2_with fail
  go_ret2
  exact ⟨rfl, rfl⟩
theorem tat_no (W : World) (g : Nat) (i : Int) (v : Value) (ps : List Nat) (ok : Nat → Prop) (base : Nat) (hc : W.cell? ⟨g, 2, none⟩ = some v) (hO : YtfndlpfceokloaaB.Own kP 28 W base ok v ps) (hi : (ps.length : Int) ≤ i) (hl : ps.length ≤ 100) :
    Calls Try.prog 113 #[.pointer (some ⟨g, 2, none⟩), .int .i64 i] W fun E w' => E = .returned (.tuple #[.pointer none, .bool false]) ∧ W = w' := by
  obtain ⟨A, c, rfl, hle, hF⟩ := YtfndlpfceokloaaB.Own.reads hO
  have h0 : ¬ i < 0 := by omega
  have h1 : ¬ i < (ps.length : Int) := by omega
  clear hF hO
  go_enter Try.func113, Try.ntmps113
  go_wp2_with fail
  go_ret2
  exact ⟨rfl, rfl⟩
theorem table_made (W : World) (g : Nat) (i : Int) (v : Value) (R : Value) (b : Bool) (h : MadeS W g v)
    (hat : Calls Try.prog 113 #[.pointer (some ⟨g, 2, none⟩), .int .i64 i] W fun E w' => E = .returned (.tuple #[R, .bool b]) ∧ W = w') :
    Calls Try.prog 89 #[.pointer (some ⟨g, 0, none⟩), .int .i64 i] W fun E w' => E = .returned R ∧ W = w' := by
  have H1 := Lib.hid (is_made _ g v h)
  have H2 := Lib.hid hat
  have hlt := h.lt
  clear h hat
  go_enter Try.func89, Try.ntmps89
  go_wp2_with (first
    | (go_at_call 72; refine H1.out.mono ?_; rintro E w' ⟨rfl, rfl⟩)
    | (go_at_call 113; refine H2.out.mono ?_; rintro E w' ⟨rfl, rfl⟩))
  go_ret
  exact ⟨rfl, rfl⟩
theorem isTab_drew {w : World} {g p : Nat} {mn mx : Int} {has : Bool} {l : List (Bool × Int)} (h : IsTab w g p mn mx has l) : IsTab w.drew g p mn mx has l := ⟨h.hg, h.hp, h.hn⟩
theorem extern_tab_no (W : World) (g : Nat) (i : Int) (hT : ∀ X, Below W.heap.size W X → Calls Try.prog 89 #[.pointer (some ⟨g, 0, none⟩), .int .i64 i] X fun E w' => E = .returned (.pointer none) ∧ X = w') :
    Calls Try.prog 71 #[.pointer (some ⟨g, 0, none⟩), .agg #[.int .i64 1, .int .i64 i]] W fun E w' => E = .returned (.tuple #[zExt, .bool false]) ∧ Below W.heap.size W w' := by
  have HB := Lib.hid (((Below.refl W.heap.size W).alloc (Nat.le_refl _) (.cells #[.int .i64 1, .int .i64 i] 184)).alloc (by simp) (.cells #[.int .i64 0, .slice none 0 0, .slice none 0 0, .int .u32 0, .int .u32 0, .bool false, .int .u8 0, .bool false] 180))
  have HT := Lib.hid (hT _ HB.out)
  clear hT
  go_enter Try.func71, Try.ntmps71
  go_wp2_with (go_at_call 89; refine HT.out.mono ?_; rintro E W1 ⟨rfl, rfl⟩)
  exact bodyPost_ret (v := .tuple #[zExt, .bool false]) (by simp [results, Try.results71, go_sem, zExt]) rfl ⟨rfl, HB.out⟩
theorem extern_tab_yes (W : World) (g t p n : Nat) (i : Int) (hn : n ≤ 100) (hT : ∀ X, Below W.heap.size W X → Calls Try.prog 89 #[.pointer (some ⟨g, 0, none⟩), .int .i64 i] X fun E w' => E = .returned (.pointer (some ⟨t, 0, none⟩)) ∧ X = w') (hI : IsTab W t p n 0 false (List.replicate n (false, 0))) :
    Calls Try.prog 71 #[.pointer (some ⟨g, 0, none⟩), .agg #[.int .i64 1, .int .i64 i]] W fun E w' => E = .returned (.tuple #[.agg #[.int .i64 1, .slice none 0 0, .slice none 0 0, .int .u32 n, .int .u32 0, .bool false, .int .u8 0, .bool false], .bool true]) ∧ Below W.heap.size W w' := by
  obtain ⟨X, hX⟩ : ∃ X, (W.alloc (.cells #[.int .i64 1, .int .i64 i] 184)).alloc (.cells #[.int .i64 0, .slice none 0 0, .slice none 0 0, .int .u32 0, .int .u32 0, .bool false, .int .u8 0, .bool false] 180) = X := ⟨_, rfl⟩
  have hB : Below W.heap.size W X := hX ▸ ((Below.refl W.heap.size W).alloc (Nat.le_refl _) (.cells #[.int .i64 1, .int .i64 i] 184)).alloc (by simp) (.cells #[.int .i64 0, .slice none 0 0, .slice none 0 0, .int .u32 0, .int .u32 0, .bool false, .int .u8 0, .bool false] 180)
  have hb3 : Blk X W.heap.size #[.int .i64 1, .int .i64 i] 184 := hX ▸ (Blk.new W _ _).alloc _
  have hb4 : Blk X (W.heap.size + 1) #[.int .i64 0, .slice none 0 0, .slice none 0 0, .int .u32 0, .int .u32 0, .bool false, .int .u8 0, .bool false] 180 := by have := Blk.new (W.alloc (.cells #[.int .i64 1, .int .i64 i] 184)) #[.int .i64 0, .slice none 0 0, .slice none 0 0, .int .u32 0, .int .u32 0, .bool false, .int .u8 0, .bool false] 180; rw [World.size_alloc, hX] at this; exact this
  have hsX : X.heap.size = W.heap.size + 2 := by rw [← hX]; simp
  have HT := Lib.hid (hT X hB)
  have HI := Lib.hid (hI.below hB)
  have HX := Lib.hid hX
  have HB := Lib.hid hB
  have HB3 := Lib.hid hb3
  have HB4 := Lib.hid hb4
  have c0 : X.cell? ⟨W.heap.size, 0, none⟩ = some (.int .i64 1) := hb3.cell 0
  have hle := Lib.hid (show W.heap.size + 2 ≤ X.heap.size from by omega)
  clear hT hI hX hB hb3 hb4 hsX
  go_enter Try.func71, Try.ntmps71
  go_wp2_with fail
  rw [HX.out]
  refine HT.out.mono ?_
  rintro E w' ⟨rfl, rfl⟩
  go_wp2_with fail
  go_region_law (first
      | (go_simp; go_at_call 25; refine (tlimits_any t p _ _ _ _ _ (isTab_drew HI.out)).mono ?_; rintro e wl ⟨rfl, hBl⟩; have hq : Below X.heap.size X wl := (((Below.refl X.heap.size X).drew).trans (hBl.mono (Nat.le_refl _))); have hb4 := HB4.out.below hq HB4.out.lt; have hsl1 : W.heap.size + 1 < wl.heap.size := (by have := hq.size; have := hle.out; omega); have q0 : wl.cell? ⟨W.heap.size + 1, 0, none⟩ = some (.int .i64 0) := hb4.cell 0; have f0 : wl.frozen? ⟨W.heap.size + 1, 0, none⟩ = false := hb4.frozen 0; have q1 : wl.cell? ⟨W.heap.size + 1, 1, none⟩ = some (.slice none 0 0) := hb4.cell 1; have f1 : wl.frozen? ⟨W.heap.size + 1, 1, none⟩ = false := hb4.frozen 1; have q2 : wl.cell? ⟨W.heap.size + 1, 2, none⟩ = some (.slice none 0 0) := hb4.cell 2; have f2 : wl.frozen? ⟨W.heap.size + 1, 2, none⟩ = false := hb4.frozen 2; have q3 : wl.cell? ⟨W.heap.size + 1, 3, none⟩ = some (.int .u32 0) := hb4.cell 3; have f3 : wl.frozen? ⟨W.heap.size + 1, 3, none⟩ = false := hb4.frozen 3; have q4 : wl.cell? ⟨W.heap.size + 1, 4, none⟩ = some (.int .u32 0) := hb4.cell 4; have f4 : wl.frozen? ⟨W.heap.size + 1, 4, none⟩ = false := hb4.frozen 4; have q5 : wl.cell? ⟨W.heap.size + 1, 5, none⟩ = some (.bool false) := hb4.cell 5; have f5 : wl.frozen? ⟨W.heap.size + 1, 5, none⟩ = false := hb4.frozen 5; have q6 : wl.cell? ⟨W.heap.size + 1, 6, none⟩ = some (.int .u8 0) := hb4.cell 6; have f6 : wl.frozen? ⟨W.heap.size + 1, 6, none⟩ = false := hb4.frozen 6; have q7 : wl.cell? ⟨W.heap.size + 1, 7, none⟩ = some (.bool false) := hb4.cell 7; have f7 : wl.frozen? ⟨W.heap.size + 1, 7, none⟩ = false := hb4.frozen 7; have c0l := pw_cell_below hq c0; clear hb4))
  all_goals
    go_wp2_with fail
    refine bodyPost_ret (v := .tuple #[.agg #[.int .i64 1, .slice none 0 0, .slice none 0 0, .int .u32 n, .int .u32 0, .bool false, .int .u8 0, .bool false], .bool true]) (by simp [results, Try.results71, go_sem, hsl1, q0, q1, q2, q3, q4, q5, q6, q7]) rfl ⟨rfl, ?_⟩
    exact (((((((((HB.out.trans (hq.mono HB.out.size)).setCell (p := ⟨W.heap.size + 1, 0, none⟩) (by simp) _).setCell (p := ⟨W.heap.size + 1, 1, none⟩) (by simp) _).setCell (p := ⟨W.heap.size + 1, 2, none⟩) (by simp) _).setCell (p := ⟨W.heap.size + 1, 3, none⟩) (by simp) _).setCell (p := ⟨W.heap.size + 1, 4, none⟩) (by simp) _).setCell (p := ⟨W.heap.size + 1, 5, none⟩) (by simp) _).setCell (p := ⟨W.heap.size + 1, 6, none⟩) (by simp) _).setCell (p := ⟨W.heap.size + 1, 7, none⟩) (by simp) _)
end Go.Proofs.Ytfndlpfceokloaa
