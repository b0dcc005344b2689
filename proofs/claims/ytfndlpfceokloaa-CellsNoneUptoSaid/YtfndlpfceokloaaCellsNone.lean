/- Lemmas towards this claim's statement: what the functions named here come to, each under the conditions that it states itself. -/
import Derived.Test.YtfndlpfceokloaaCells6
namespace Go.Proofs.Ytfndlpfceokloaa
open Go.RowKit YtfndlpfceokloaaB Go.Proofs.YtfndlpfceokloaaW.PrintWords
/-- A table that is none. -/
def NoTab (w : World) (a : Option Addr) : Prop := a = none ∨ ∃ g, a = some ⟨g, 0, none⟩ ∧ w.cell? ⟨g, 4, none⟩ = some (.bool false)
theorem nis_any (a : Option Addr) (w : World) (h : NoTab w a) :
    Calls Try.prog 68 #[.pointer a] w fun e w' => e = .returned (.bool false) ∧ w = w' := by
  rcases h with rfl | ⟨g, rfl, h⟩
  all_goals
    go_enter Try.func68, Try.ntmps68
    go_wp2
    go_ret
    exact ⟨rfl, rfl⟩
theorem nlen_any (a : Option Addr) (w : World) (h : NoTab w a) :
    Calls Try.prog 24 #[.pointer a] w fun e w' => e = .returned (.int .u32 0) ∧ w = w' := by
  go_enter Try.func24, Try.ntmps24
  go_wp2_with (go_at_call 68; refine (nis_any _ _ h).mono ?_; rintro e w' ⟨rfl, rfl⟩)
  go_ret
  exact ⟨rfl, rfl⟩
theorem nget_any (a : Option Addr) (i : Int) (w : World) (h : NoTab w a) :
    Calls Try.prog 17 #[.pointer a, .int .u32 i] w fun e w' => e = .returned (.tuple #[.int .i64 0, .int .i64 6]) ∧ w = w' := by
  go_enter Try.func17, Try.ntmps17
  go_wp2_with (go_at_call 68; refine (nis_any _ _ h).mono ?_; rintro e w' ⟨rfl, rfl⟩)
  go_ret2
  exact ⟨rfl, rfl⟩
theorem nholds_any (a : Option Addr) (i n : Int) (w : World) (h : NoTab w a) :
    Calls Try.prog 22 #[.pointer a, .int .u64 i, .int .i64 n] w fun e w' => e = .returned (.bool false) ∧ w = w' := by
  go_enter Try.func22, Try.ntmps22
  go_wp2_with (first | (go_at_call 68; refine (nis_any _ _ h).mono ?_; rintro e w' ⟨rfl, rfl⟩) | (go_at_call 24; refine (nlen_any _ _ h).mono ?_; rintro e w' ⟨rfl, rfl⟩))
  go_ret
  exact ⟨rfl, rfl⟩
theorem nset_any (a : Option Addr) (i : Int) (h0 : 0 ≤ i) (h1 : i < 4294967296) (A : Option Addr) (n c : Nat) (w : World) (h : NoTab w a) :
    Calls Try.prog 16 #[.pointer a, .int .u32 i, .slice A n c] w fun e w' => e = .returned (.bool false) ∧ w = w' := by
  go_enter Try.func16, Try.ntmps16
  go_wp2_with (go_at_call 22; refine (nholds_any _ _ _ _ h).mono ?_; rintro e w' ⟨rfl, rfl⟩)
  go_ret
  exact ⟨rfl, rfl⟩
theorem nlimits_any (a : Option Addr) (w : World) (h : NoTab w a) :
    Calls Try.prog 25 #[.pointer a] w fun e w' => e = .returned (.agg #[.int .u32 0, .int .u32 0, .bool false]) ∧ Below w.heap.size w w' := by
  have h2 : ∀ o : Obj, NoTab (w.alloc o) a := by
    intro o
    rcases h with rfl | ⟨g, rfl, h⟩
    · exact .inl rfl
    · exact .inr ⟨g, rfl, pw_cell_below ((Below.refl _ _).alloc (Nat.le_refl _) _) h⟩
  have H2 := Lib.hid h2
  clear h2
  go_enter Try.func25, Try.ntmps25
  go_wp2_with (go_at_call 68; refine (nis_any _ _ (H2.out _)).mono ?_; rintro e w' ⟨rfl, rfl⟩)
  exact bodyPost_ret (v := .agg #[.int .u32 0, .int .u32 0, .bool false]) (by simp [results, Try.results25, go_sem]) rfl ⟨rfl, (Below.refl _ _).alloc (Nat.le_refl _) _⟩
/-- A global that is none. -/
def NoGl (w : World) (a : Option Addr) : Prop := a = none ∨ ∃ g, a = some ⟨g, 0, none⟩ ∧ Blk w g (glArr 0 false 0) 70
theorem ngset_any (a : Option Addr) (x : Int) (w : World) (h : NoGl w a) :
    Calls Try.prog 34 #[.pointer a, .int .u64 x] w fun e w' => e = .returned (.bool false) ∧ w = w' := by
  rcases h with rfl | ⟨g, rfl, h⟩
  · go_enter Try.func34, Try.ntmps34
    go_wp2
    go_ret
    exact ⟨rfl, rfl⟩
  · have c1 : w.cell? ⟨g, 1, none⟩ = some (.bool false) := by rw [h.cell]; rfl
    go_enter Try.func34, Try.ntmps34
    go_wp2
    go_ret
    exact ⟨rfl, rfl⟩
theorem ngget_any (a : Option Addr) (w : World) (h : NoGl w a) :
    Calls Try.prog 35 #[.pointer a] w fun e w' => e = .returned (.int .u64 0) ∧ w = w' := by
  rcases h with rfl | ⟨g, rfl, h⟩
  · go_enter Try.func35, Try.ntmps35
    go_wp2
    go_ret
    exact ⟨rfl, rfl⟩
  · exact gget_any g 0 false 0 w h
theorem ngtype_any (a : Option Addr) (w : World) (h : NoGl w a) :
    Calls Try.prog 36 #[.pointer a] w fun e w' => e = .returned (.agg #[.int .u8 0, .bool false]) ∧ Below w.heap.size w w' := by
  rcases h with rfl | ⟨g, rfl, h⟩
  · go_enter Try.func36, Try.ntmps36
    go_wp2
    exact bodyPost_ret (v := .agg #[.int .u8 0, .bool false]) (by simp [results, Try.results36, go_sem]) rfl ⟨rfl, (Below.refl _ _).alloc (Nat.le_refl _) _⟩
  · exact gtype_any g 0 false 0 w h
theorem NoTab.below {w w1 : World} {a : Option Addr} (h : NoTab w a) (hb : Below w.heap.size w w1) : NoTab w1 a := by
  rcases h with rfl | ⟨g, rfl, h⟩
  · exact .inl rfl
  · exact .inr ⟨g, rfl, pw_cell_below hb h⟩
theorem NoGl.below {w w1 : World} {a : Option Addr} (h : NoGl w a) (hb : Below w.heap.size w w1) : NoGl w1 a := by
  rcases h with rfl | ⟨g, rfl, h⟩
  · exact .inl rfl
  · exact .inr ⟨g, rfl, h.below hb h.lt⟩
theorem C_one {α : Type} {d : Kd α} {w : World} {g : Nat} {x : α} {cs : List Value} {t : TypeId} (hk : d.K w x cs) (hb : Blk w g cs.toArray t) : d.C w (some ⟨g, 0, none⟩) 1 [x] :=
  ⟨rfl, by decide, fun _ => ⟨_, rfl, fun j p hj => by
    have hj0 : j = 0 := by
      have := (List.getElem?_eq_some_iff.1 hj).1
      simp at this
      omega
    subst hj0
    simp at hj
    subst hj
    refine ⟨cs, d.K_len hk, hk, fun i u hu => ?_⟩
    rw [show 0 * d.sz + i = i from by omega, add_plain, hb.cell]
    simpa using hu⟩⟩
set_option maxRecDepth 100000 in
set_option maxHeartbeats 2000000 in
theorem cellsNone_any (x : COp) (cs : Array Value) (v : Int) (w : World) (hk : kCOp.K w x cs.toList) (hl : x.2.2.2.2.1.length ≤ 1048576) :
    Calls Try.prog 6 #[.agg cs, .int .u64 v] w fun e w' => e = .returned (.bool true) ∧ Below w.heap.size w w' := by
  obtain ⟨A, c, hcs, ⟨b1, b2⟩, ⟨b3, b4⟩, ⟨b5, b6⟩, hC⟩ := COp_open hk
  obtain rfl : cs = #[.int .i64 x.1, .int .i64 x.2.1, .int .u32 x.2.2.1, .int .u64 x.2.2.2.1, .slice A x.2.2.2.2.1.length c] := by rw [← Array.toArray_toList (xs := cs), hcs]
  have HK := Lib.hid hk
  clear hk hcs
  go_enter Try.func6, Try.ntmps6
  go_wp2_with fail
  refine (awake26_any _).mono ?_
  rintro e w1 ⟨rfl, hB1⟩
  simp at hB1
  have hBw1 : Below w.heap.size w w1 := ((Below.refl _ _).alloc (Nat.le_refl _) _).trans (hB1.mono (by simp))
  have hbx : Blk w1 w.heap.size #[.int .i64 x.1, .int .i64 x.2.1, .int .u32 x.2.2.1, .int .u64 x.2.2.2.1, .slice A x.2.2.2.2.1.length c] 26 := Blk.below (Blk.new w _ _) hB1 (by simp)
  have c0 : w1.cell? ⟨w.heap.size, 0, none⟩ = some (.int .i64 x.1) := by rw [hbx.cell]; rfl
  have c1 : w1.cell? ⟨w.heap.size, 1, none⟩ = some (.int .i64 x.2.1) := by rw [hbx.cell]; rfl
  have c2 : w1.cell? ⟨w.heap.size, 2, none⟩ = some (.int .u32 x.2.2.1) := by rw [hbx.cell]; rfl
  have c3 : w1.cell? ⟨w.heap.size, 3, none⟩ = some (.int .u64 x.2.2.2.1) := by rw [hbx.cell]; rfl
  have c4 : w1.cell? ⟨w.heap.size, 4, none⟩ = some (.slice A x.2.2.2.2.1.length c) := by rw [hbx.cell]; rfl
  have hsz1 := hB1.size
  simp at hsz1
  go_wp2_with fail
  refine (few26_any _ _ [x] 1 _ (C_one (kCOp.K_below (hBw1.alloc hBw1.size _) HK.out) (Blk.new _ _ _)) (by simp)).mono ?_
  rintro e w2 ⟨rfl, hB2⟩
  simp at hB2
  have hBw2 : Below w.heap.size w w2 := (hBw1.alloc hBw1.size _).trans (hB2.mono (by omega))
  have hbx2 := (hbx.alloc (.cells #[.int .i64 x.1, .int .i64 x.2.1, .int .u32 x.2.2.1, .int .u64 x.2.2.2.1, .slice A x.2.2.2.2.1.length c] 26)).below hB2 (by omega)
  have hsz2 := hB2.size
  simp at hsz2
  clear c0 c1 c2 c3 c4 hB1 hB2 hBw1 hbx
  cases hf : fewC [x] 1
  · go_wp2_with fail
    go_ret
    exact ⟨rfl, hBw2⟩
  · clear hf
    go_wp2_with fail
    have t1 : Blk ((w2.alloc (.cells #[.int .u32 0, .int .u32 0, .bool false, .slice none 0 0, .bool false] 64)).alloc (.cells #[.pointer none, .pointer (some ⟨w2.heap.size, 0, none⟩)] 28)) w2.heap.size #[.int .u32 0, .int .u32 0, .bool false, .slice none 0 0, .bool false] 64 := (Blk.new _ _ _).alloc _
    have t2 : Blk ((w2.alloc (.cells #[.int .u32 0, .int .u32 0, .bool false, .slice none 0 0, .bool false] 64)).alloc (.cells #[.pointer none, .pointer (some ⟨w2.heap.size, 0, none⟩)] 28)) (w2.heap.size + 1) #[.pointer none, .pointer (some ⟨w2.heap.size, 0, none⟩)] 28 := by
      have := Blk.new (w2.alloc (.cells #[.int .u32 0, .int .u32 0, .bool false, .slice none 0 0, .bool false] 64)) #[.pointer none, .pointer (some ⟨w2.heap.size, 0, none⟩)] 28
      simpa using this
    have hbx3 := (hbx2.alloc (.cells #[.int .u32 0, .int .u32 0, .bool false, .slice none 0 0, .bool false] 64)).alloc (.cells #[.pointer none, .pointer (some ⟨w2.heap.size, 0, none⟩)] 28)
    have hBw3 : Below w.heap.size w ((w2.alloc (.cells #[.int .u32 0, .int .u32 0, .bool false, .slice none 0 0, .bool false] 64)).alloc (.cells #[.pointer none, .pointer (some ⟨w2.heap.size, 0, none⟩)] 28)) := (hBw2.alloc hBw2.size _).alloc (by simp; omega) _
    generalize hG : w2.heap.size = G at *
    generalize hw3 : ((w2.alloc (.cells #[.int .u32 0, .int .u32 0, .bool false, .slice none 0 0, .bool false] 64)).alloc (.cells #[.pointer none, .pointer (some ⟨G, 0, none⟩)] 28)) = w3 at *
    clear hG hw3 hbx2 hBw2
    have hx2 := t2.lt
    have hx3 := t1.lt
    have hx4 := hbx3.lt
    have hx5 := hBw3.size
    go_loopw [24] (fun k wr => ∃ j : Nat, j ≤ 2 ∧ k = .int .i64 j ∧ Below w3.heap.size w3 wr) (fun k _ => 2 - (intOf k).toNat)
    case atStart => exact ⟨0, by decide, rfl, Below.refl _ _⟩
    case round =>
      obtain ⟨j, hj, rfl, hB⟩ := hrel
      have hsz := hB.size
      have hbx4 := hbx3.below hB hbx3.lt
      have c0 : wr.cell? ⟨w.heap.size, 0, none⟩ = some (.int .i64 x.1) := by rw [hbx4.cell]; rfl
      have c1 : wr.cell? ⟨w.heap.size, 1, none⟩ = some (.int .i64 x.2.1) := by rw [hbx4.cell]; rfl
      have c2 : wr.cell? ⟨w.heap.size, 2, none⟩ = some (.int .u32 x.2.2.1) := by rw [hbx4.cell]; rfl
      have c3 : wr.cell? ⟨w.heap.size, 3, none⟩ = some (.int .u64 x.2.2.2.1) := by rw [hbx4.cell]; rfl
      have c4 : wr.cell? ⟨w.heap.size, 4, none⟩ = some (.slice A x.2.2.2.2.1.length c) := by rw [hbx4.cell]; rfl
      by_cases hlt : j < 2
      · have hnt : ∃ a, wr.cell? ⟨G + 1, j, none⟩ = some (.pointer a) ∧ NoTab wr a := by
          have hb2 := t2.below hB t2.lt
          rcases (show j = 0 ∨ j = 1 by omega) with rfl | rfl
          · exact ⟨none, by rw [hb2.cell]; rfl, .inl rfl⟩
          · exact ⟨some ⟨G, 0, none⟩, by rw [hb2.cell]; rfl, .inr ⟨G, rfl, by rw [(t1.below hB t1.lt).cell]; rfl⟩⟩
        obtain ⟨a, hca, hna⟩ := hnt
        go_wp2_with (first
          | (go_at_call 17; refine (nget_any _ _ _ hna).mono ?_; rintro e w' ⟨rfl, rfl⟩)
          | (go_at_call 16; refine (nset_any _ _ b3 (by omega) _ _ _ _ hna).mono ?_; rintro e w' ⟨rfl, rfl⟩)
          | (go_at_call 22; refine (nholds_any _ _ _ _ hna).mono ?_; rintro e w' ⟨rfl, rfl⟩)
          | (go_at_call 24; refine (nlen_any _ _ hna).mono ?_; rintro e w' ⟨rfl, rfl⟩)
          | (go_at_call 25; refine (nlimits_any _ _ hna).mono ?_; rintro e w' ⟨rfl, hBl⟩))
        go_roundw
        case rel => exact ⟨j + 1, by omega, by go_num, hB.trans (hBl.mono (by omega))⟩
        case measure => simp [intOf]; omega
      · have hd : decide ((j : Int) < 2) = false := by simp; omega
        have hBwr : Below w.heap.size w wr := hBw3.trans (hB.mono (by omega))
        clear c0 c1 c2 c3 c4 hbx4 hbx3 t1 t2 hBw3 hB
        obtain ⟨wo, rfl⟩ : ∃ wo : World, wo = wr := ⟨_, rfl⟩
        go_wp2_with fail
        have t1 : Blk ((wo.alloc (.cells #[.int .u8 0, .bool false, .int .u64 0] 70)).alloc (.cells #[.pointer none, .pointer (some ⟨wo.heap.size, 0, none⟩)] 66)) wo.heap.size #[.int .u8 0, .bool false, .int .u64 0] 70 := (Blk.new _ _ _).alloc _
        have t2 : Blk ((wo.alloc (.cells #[.int .u8 0, .bool false, .int .u64 0] 70)).alloc (.cells #[.pointer none, .pointer (some ⟨wo.heap.size, 0, none⟩)] 66)) (wo.heap.size + 1) #[.pointer none, .pointer (some ⟨wo.heap.size, 0, none⟩)] 66 := by
          have := Blk.new (wo.alloc (.cells #[.int .u8 0, .bool false, .int .u64 0] 70)) #[.pointer none, .pointer (some ⟨wo.heap.size, 0, none⟩)] 66
          simpa using this
        have hBw4 : Below w.heap.size w ((wo.alloc (.cells #[.int .u8 0, .bool false, .int .u64 0] 70)).alloc (.cells #[.pointer none, .pointer (some ⟨wo.heap.size, 0, none⟩)] 66)) := (hBwr.alloc hBwr.size _).alloc (by simp; omega) _
        generalize hG2 : wo.heap.size = G2 at *
        generalize hw4 : ((wo.alloc (.cells #[.int .u8 0, .bool false, .int .u64 0] 70)).alloc (.cells #[.pointer none, .pointer (some ⟨G2, 0, none⟩)] 66)) = w4 at *
        clear hG2 hw4 hBwr
        have hy2 := t2.lt
        have hy3 := t1.lt
        have hy5 := hBw4.size
        go_loopw [74] (fun k wr => ∃ j : Nat, j ≤ 2 ∧ k = .int .i64 j ∧ Below w4.heap.size w4 wr) (fun k _ => 2 - (intOf k).toNat)
        case atStart => exact ⟨0, by decide, rfl, Below.refl _ _⟩
        case round =>
          obtain ⟨j, hj, rfl, hB⟩ := hrel
          have hsz := hB.size
          by_cases hlt : j < 2
          · have hnt : ∃ a, wr.cell? ⟨G2 + 1, j, none⟩ = some (.pointer a) ∧ NoGl wr a := by
              have hb2 := t2.below hB t2.lt
              rcases (show j = 0 ∨ j = 1 by omega) with rfl | rfl
              · exact ⟨none, by rw [hb2.cell]; rfl, .inl rfl⟩
              · exact ⟨some ⟨G2, 0, none⟩, by rw [hb2.cell]; rfl, .inr ⟨G2, rfl, t1.below hB t1.lt⟩⟩
            obtain ⟨a, hca, hna⟩ := hnt
            go_wp2_with (first
              | (go_at_call 35; refine (ngget_any _ _ hna).mono ?_; rintro e w' ⟨rfl, rfl⟩)
              | (go_at_call 34; refine (ngset_any _ _ _ hna).mono ?_; rintro e w' ⟨rfl, rfl⟩)
              | (go_at_call 36; refine (ngtype_any _ _ hna).mono ?_; rintro e w' ⟨rfl, hBl⟩))
            go_roundw
            case rel => exact ⟨j + 1, by omega, by go_num, hB.trans (hBl.mono (by omega))⟩
            case measure => simp [intOf]; omega
          · obtain rfl : j = 2 := by omega
            go_wp2_with fail
            go_ret
            exact ⟨rfl, hBw4.trans (hB.mono (by omega))⟩
theorem cellsNone_walk (W : World) (a0 : COp) (a1 : Int) {c0 : Array Value} {n1 : Int} (h0 : kCOp.K W a0 (Value.agg c0).cells.toList) (h1 : (rng .u64).K W a1 (Value.int .u64 n1).cells.toList) (hb : bCOp a0 ≤ 1048576) :
    Calls Try.prog 6 #[.agg c0, .int .u64 n1] W fun e W' => e = .returned (.bool true) ∧ Below W.heap.size W W' :=
  cellsNone_any a0 c0 n1 W h0 hb
end Go.Proofs.Ytfndlpfceokloaa
