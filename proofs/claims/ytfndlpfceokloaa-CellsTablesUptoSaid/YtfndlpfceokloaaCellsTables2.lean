/- Lemmas towards this claim's statement: what the functions named here come to, each under the conditions that it states itself. -/
import Derived.Test.YtfndlpfceokloaaCellsTables
import Derived.Deep.RegionLaw
namespace Go.Proofs.Ytfndlpfceokloaa
open Go.RowKit YtfndlpfceokloaaB Go.Proofs.YtfndlpfceokloaaW.PrintWords
theorem IsTab.drew {w : World} {g p : Nat} {mn mx : Int} {has : Bool} {l : List (Bool × Int)} (h : IsTab w g p mn mx has l) : IsTab w.drew g p mn mx has l := ⟨h.hg, h.hp, h.hn⟩
theorem IsRTab.drew {w : World} {g p : Nat} {mn mx : Int} {has : Bool} {l : List (Bool × Int)} (h : IsRTab w g p mn mx has l) : IsRTab w.drew g p mn mx has l := ⟨h.hg, h.hp, h.hn⟩
theorem setL_len' (L : List (Bool × Int)) (i : Int) (xs : List Int) {mn : Int} (h : (L.length : Int) = mn) : ((if setOk (↑L.length) i xs = true then setL L i.toNat xs else L).length : Int) = mn := by
  split
  · rename_i hk
    unfold setOk holdsF at hk
    simp at hk
    rw [← h]
    unfold setL
    simp
    omega
  · exact h
set_option maxRecDepth 100000 in
set_option maxHeartbeats 4000000 in
theorem cellsTables_any (mn mx : Int) (has : Bool) (h0 : 0 ≤ mn) (A : Option Addr) (c : Nat) (xs : List COp) (w : World) (hr : kCOp.C w A xs.length xs) (hl : xs.length ≤ 1048576) (hbk : Hid (∀ x ∈ xs, bCOp x ≤ 1048576)) :
    Calls Try.prog 4 #[.agg #[.int .u32 mn, .int .u32 mx, .bool has], .slice A xs.length c] w fun e w' => e = .returned (.bool true) ∧ Below w.heap.size w w' := by
  go_enter Try.func4, Try.ntmps4
  go_wp2_with fail
  refine (awake26_any _).mono ?_
  rintro e w1 ⟨rfl, hB1⟩
  simp at hB1
  have hBw1 : Below w.heap.size w w1 := ((Below.refl _ _).alloc (Nat.le_refl _) _).trans (hB1.mono (by simp))
  have hbx1 : Blk w1 w.heap.size #[.int .u32 mn, .int .u32 mx, .bool has] 33 := Blk.below (Blk.new w _ _) hB1 (by simp)
  have hsz1 := hB1.size
  simp at hsz1
  go_wp2_with fail
  refine (few26_any _ c xs 60 _ (Kd.C_below hr hBw1) hl).mono ?_
  rintro e w2 ⟨rfl, hB2⟩
  have hsz2 := hB2.size
  have hBw2 : Below w.heap.size w w2 := hBw1.trans (hB2.mono (by omega))
  have hbx2 := hbx1.below hB2 (by omega)
  clear hB1 hB2 hBw1 hbx1
  cases hf : fewC xs 60
  · go_wp2_with fail
    go_ret
    exact ⟨rfl, hBw2⟩
  clear hf
  have c0 : w2.cell? ⟨w.heap.size, 0, none⟩ = some (.int .u32 mn) := by rw [hbx2.cell]; rfl
  have c1 : w2.cell? ⟨w.heap.size, 1, none⟩ = some (.int .u32 mx) := by rw [hbx2.cell]; rfl
  have c2 : w2.cell? ⟨w.heap.size, 2, none⟩ = some (.bool has) := by rw [hbx2.cell]; rfl
  go_wp2_with fail
  refine (newTable_any mn mx has h0 _).mono ?_
  rintro e w3 ⟨hB3, hc3⟩
  have hsz3 := hB3.size
  have hBw3 : Below w.heap.size w w3 := hBw2.trans (hB3.mono (by omega))
  have hbx3 := hbx2.below hB3 (by omega)
  clear c0 c1 c2 hbx2 hBw2
  have c0 : w3.cell? ⟨w.heap.size, 0, none⟩ = some (.int .u32 mn) := by rw [hbx3.cell]; rfl
  have c1 : w3.cell? ⟨w.heap.size, 1, none⟩ = some (.int .u32 mx) := by rw [hbx3.cell]; rfl
  have c2 : w3.cell? ⟨w.heap.size, 2, none⟩ = some (.bool has) := by rw [hbx3.cell]; rfl
  rcases hc3 with ⟨hne, rfl⟩ | ⟨he0, g, p, rfl, hg3, hp3, ht⟩
  · go_wp2_with fail
    refine (newRTable_any mn mx has h0 _).mono ?_
    rintro e w4 ⟨hB4, ⟨_, rfl⟩ | ⟨he0, _⟩⟩
    · have hne' : (newErr mn mx has == 0) = false := by simpa using hne
      have hne2 : (newErr mn mx has != 0) = true := by simpa using hne
      have HN := Lib.hid hne
      clear hne
      go_wp2_with fail
      go_ret
      exact ⟨rfl, hBw3.trans (hB4.mono (by omega))⟩
    · exact absurd he0 hne
  · have hszw : mn ≤ 1024 := by
      have := ht.hn
      simp at this
      omega
    go_wp2_with fail
    refine (newRTable_any mn mx has h0 _).mono ?_
    rintro e w4 ⟨hB4, ⟨hne, _⟩ | ⟨_, g2, p2, rfl, hg4, hp4, ht2⟩⟩
    · exact absurd he0 hne
    have hBw4 : Below w.heap.size w w4 := hBw3.trans (hB4.mono (by omega))
    have hbx4 := hbx3.below hB4 (by omega)
    have ht4 := ht.below hB4
    have hsz4 := hB4.size
    have hlg := Blk.lt (w := w3) ht.hg
    have hlp := Blk.lt (w := w3) ht.hp
    clear c0 c1 c2 hbx3 hBw3 hB3 hB4 ht he0
    go_wp2_with fail
    go_loopw [44] (fun k wr => ∃ (j : Nat) (L : List (Bool × Int)), j ≤ xs.length ∧ k = .int .i64 j ∧ IsTab wr g p mn mx has L ∧ IsRTab wr g2 p2 mn mx has L ∧ Hid ((L.length : Int) = mn) ∧ Blk wr w.heap.size #[.int .u32 mn, .int .u32 mx, .bool has] 33 ∧ Below w.heap.size w wr) (fun k _ => xs.length - (intOf k).toNat)
    case atStart => exact ⟨0, _, Nat.zero_le _, rfl, ht4, ht2, by show _ = _; rw [List.length_replicate]; omega, hbx4, hBw4⟩
    case round =>
      obtain ⟨j, L, hj, rfl, hT, hR, HL, hbx, hBwr⟩ := hrel
      have hsz := hBwr.size
      by_cases hlt : j < xs.length
      · obtain ⟨b, o, x, cs, rfl, hx, hk, hc⟩ := C_at hr (by decide) j hlt
        have hbk2 := Lib.hid (hbk.out x (List.mem_of_getElem? hx.out))
        obtain ⟨A2, cc, rfl, ⟨b1, b2⟩, ⟨b3, b4⟩, ⟨b5, b6⟩, hC⟩ := COp_open hk
        have d0 := pw_cell_below hBwr (hc 0 _ rfl)
        have d1 := pw_cell_below hBwr (hc 1 _ rfl)
        have d2 := pw_cell_below hBwr (hc 2 _ rfl)
        have d3 := pw_cell_below hBwr (hc 3 _ rfl)
        have d4 := pw_cell_below hBwr (hc 4 _ rfl)
        have hz : kCOp.sz = 5 := rfl
        simp only [hz, Nat.add_zero] at d0 d1 d2 d3 d4
        have hblt : b < wr.heap.size := World.block_lt_of_cell? _ _ d0
        have hlistw := C_rdI hC (by have : bCOp x = x.2.2.2.2.1.length := rfl; have := hbk2.out; omega)
        have hlist := hlistw.below hBwr
        clear hc hk hz hr hC
        obtain ⟨x1, x2, x3, x4, ys, _⟩ := x
        simp only at d0 d1 d2 d3 d4 b1 b2 b3 b4 b5 b6 hlist hlistw
        -- the box of this round
        have hW := Blk.new wr #[.int .i64 x1, .int .i64 x2, .int .u32 x3, .int .u64 x4, .slice A2 ys.length cc] 26
        have hB2 : Below wr.heap.size wr (wr.alloc (.cells #[.int .i64 x1, .int .i64 x2, .int .u32 x3, .int .u64 x4, .slice A2 ys.length cc] 26)) := (Below.refl _ _).alloc (Nat.le_refl _) _
        have hT2 := hT.below hB2
        have hR2 := hR.below hB2
        have hl2 := hlist.below hB2
        have hBw2 : Below w.heap.size w (wr.alloc (.cells #[.int .i64 x1, .int .i64 x2, .int .u32 x3, .int .u64 x4, .slice A2 ys.length cc] 26)) := hBwr.trans (hB2.mono hsz)
        have hbl2 := hbx.alloc (.cells #[.int .i64 x1, .int .i64 x2, .int .u32 x3, .int .u64 x4, .slice A2 ys.length cc] 26)
        have hwlt : w.heap.size < wr.heap.size := hbx.lt
        have hglt := Blk.lt (w := wr) hT.hg
        have hglt2 := Blk.lt (w := wr) hR.hg
        have hplt := Blk.lt (w := wr) hT.hp
        have hplt2 := Blk.lt (w := wr) hR.hp
        by_cases k1 : x1 = 1
        · subst k1
          go_wp2_with (first | (go_at_call 17; refine (get_any g p mn mx has L x3 b3 _ hT2).mono ?_; rintro e wl ⟨rfl, rfl⟩) | (go_at_call 20; refine (rget_any g2 p2 mn mx has L x3 b3 (by omega) _ hR2).mono ?_; rintro e wl ⟨rfl, rfl⟩))
          generalize hWW : wr.alloc (.cells #[.int .i64 1, .int .i64 x2, .int .u32 x3, .int .u64 x4, .slice A2 ys.length cc] 26) = W at *
          clear hWW hW hB2 d0 d1 d2 d3 d4 hT hR
          obtain ⟨hTW, hRW, hbW, hBW, HLW⟩ : IsTab W g p mn mx has L ∧ IsRTab W g2 p2 mn mx has L ∧ Blk W w.heap.size #[.int .u32 mn, .int .u32 mx, .bool has] 33 ∧ Below w.heap.size w W ∧ Hid ((L.length : Int) = mn) := ⟨hT2, hR2, hbl2, hBw2, HL⟩
          clear hT2 hR2 hbl2 hBw2 HL hl2
          have e0 : W.cell? ⟨w.heap.size, 0, none⟩ = some (.int .u32 mn) := by rw [hbW.cell]; rfl
          have e1 : W.cell? ⟨w.heap.size, 1, none⟩ = some (.int .u32 mx) := by rw [hbW.cell]; rfl
          have e2 : W.cell? ⟨w.heap.size, 2, none⟩ = some (.bool has) := by rw [hbW.cell]; rfl
          go_wp2_with fail
          go_region_held3 (fun w' => w'.cell? ⟨w.heap.size, 0, none⟩ = some (.int .u32 mn) ∧ w'.cell? ⟨w.heap.size, 1, none⟩ = some (.int .u32 mx) ∧ w'.cell? ⟨w.heap.size, 2, none⟩ = some (.bool has) ∧ Below W.heap.size W w')
            (first | exact ⟨e0, e1, e2, (Below.refl _ _).drew⟩ | exact ⟨pw_cell_below (w := W.drew) hBl e0, pw_cell_below (w := W.drew) hBl e1, pw_cell_below (w := W.drew) hBl e2, ((Below.refl _ _).drew).trans hBl⟩)
            (first
              | (go_at_call 24; refine (len_any g p _ mn mx has _ hTW.hn ?_).mono ?_; (exact hTW.hg); rw [HLW.out]; rintro e wl ⟨rfl, rfl⟩)
              | (go_at_call 25; refine (tlimits_any g p mn mx has _ _ hTW.drew).mono ?_; rintro e wl ⟨rfl, hBl⟩))
          rename_i hS
          obtain ⟨_, _, _, hBS⟩ := hS
          go_wp2_with fail
          go_roundw
          case rel => exact ⟨j + 1, _, by omega, by go_num, hTW.below hBS, hRW.below hBS, HLW, hbW.below hBS hbW.lt, hBW.trans (hBS.mono hBW.size)⟩
          case measure => simp [intOf]; omega
        by_cases k2 : x1 = 2
        · subst k2
          go_wp2_with fail
          have f2 : (wr.alloc (.cells #[.int .i64 2, .int .i64 x2, .int .u32 x3, .int .u64 x4, .slice A2 ys.length cc] 26)).cell? ⟨wr.heap.size, 2, none⟩ = some (.int .u32 x3) := by rw [hW.cell]; rfl
          have f4 : (wr.alloc (.cells #[.int .i64 2, .int .i64 x2, .int .u32 x3, .int .u64 x4, .slice A2 ys.length cc] 26)).cell? ⟨wr.heap.size, 4, none⟩ = some (.slice A2 ys.length cc) := by rw [hW.cell]; rfl
          generalize hWW : wr.alloc (.cells #[.int .i64 2, .int .i64 x2, .int .u32 x3, .int .u64 x4, .slice A2 ys.length cc] 26) = W at *
          have n1 : some wr.heap.size ≠ some p := by simp; omega
          have n2 : some wr.heap.size ≠ some p2 := by simp; omega
          have n3 : some g2 ≠ some p := by simp; omega
          have n4 : some p2 ≠ some p := by simp; omega
          have n5 : some g ≠ some p2 := by simp; omega
          have n6 : some p ≠ some p2 := by simp; omega
          have n7 : some w.heap.size ≠ some p := by simp; omega
          have n8 : some w.heap.size ≠ some p2 := by simp; omega
          have hsep : Hid (0 < ys.length → ∀ b o, A2 = some ⟨b, o, none⟩ → b ≠ p2) := by
            intro h1 b' o' h2
            obtain ⟨b'', o'', y'', e, hcy, _⟩ := (hlistw).get 0 h1
            rw [h2] at e
            injection e with e
            injection e with e1 e2
            have := World.block_lt_of_cell? _ _ hcy
            simp only at this
            omega
          have hBW0 : Below w.heap.size w W := hBw2
          have hszW := hBW0.size
          clear hWW hB2 d0 d1 d2 d3 d4 hT hR
          go_region_held3 (fun w' => w'.cell? ⟨wr.heap.size, 2, none⟩ = some (.int .u32 x3) ∧ w'.cell? ⟨wr.heap.size, 4, none⟩ = some (.slice A2 ys.length cc))
            (first | exact ⟨f2, f4⟩ | exact ⟨ka, kb⟩)
            (first
              | (go_at_call 16; refine (set_any g p mn mx has L x3 b3 (by omega) _ cc ys _ ?_ ?_).mono ?_; (first | exact hT2.drew | exact htb); (first | exact hlistw.below hBW0.drew | exact hlistw.below hBb); rintro e wa ⟨rfl, hga, hta⟩; have hBa : Below w.heap.size w wa := (by first | exact hBW0.drew.grown hga hszW (by intro k hk; injection hk with hk; omega) | exact hBb.grown hga hBb.size (by intro k hk; injection hk with hk; omega)); have ka : wa.cell? ⟨wr.heap.size, 2, none⟩ = some (.int .u32 x3) := World.grownBy.cell hga (by first | exact f2 | assumption) n1; have kb : wa.cell? ⟨wr.heap.size, 4, none⟩ = some (.slice A2 ys.length cc) := World.grownBy.cell hga (by first | exact f4 | assumption) n1; have hra := IsRTab.grown (by first | exact hR2.drew | assumption) hga n3 n4)
              | (go_at_call 21; refine (rset_any g2 p2 mn mx has L x3 b3 (by omega) _ cc ys _ ?_ ?_ hsep.out).mono ?_; (first | exact hR2.drew | exact hra); (first | exact hlistw.below hBW0.drew | exact hlistw.below hBa); rintro e wb ⟨rfl, hgb, hrb⟩; have hBb : Below w.heap.size w wb := (by first | exact hBW0.drew.grown hgb hszW (by intro k hk; injection hk with hk; omega) | exact hBa.grown hgb hBa.size (by intro k hk; injection hk with hk; omega)); have ka : wb.cell? ⟨wr.heap.size, 2, none⟩ = some (.int .u32 x3) := World.grownBy.cell hgb (by first | exact f2 | assumption) n2; have kb : wb.cell? ⟨wr.heap.size, 4, none⟩ = some (.slice A2 ys.length cc) := World.grownBy.cell hgb (by first | exact f4 | assumption) n2; have htb := IsTab.grown (by first | exact hT2.drew | assumption) hgb n5 n6))
          · have hlen' := setL_len' L x3 ys HL.out
            obtain ⟨hTW, hRW, hbW, hBW, HLW⟩ : IsTab wb g p mn mx has (if setOk (↑L.length) x3 ys = true then setL L x3.toNat ys else L) ∧ IsRTab wb g2 p2 mn mx has (if setOk (↑L.length) x3 ys = true then setL L x3.toNat ys else L) ∧ Blk wb w.heap.size #[.int .u32 mn, .int .u32 mx, .bool has] 33 ∧ Below w.heap.size w wb ∧ Hid (((if setOk (↑L.length) x3 ys = true then setL L x3.toNat ys else L).length : Int) = mn) := ⟨htb, hrb, Blk.grown (Blk.grown hbl2.drew hga n7) hgb n8, hBb, hlen'⟩
            generalize (if setOk (↑L.length) x3 ys = true then setL L x3.toNat ys else L) = L2 at *
            obtain ⟨W3, rfl⟩ : ∃ W3, W3 = wb := ⟨_, rfl⟩
            have e0 : W3.cell? ⟨w.heap.size, 0, none⟩ = some (.int .u32 mn) := by rw [hbW.cell]; rfl
            have e1 : W3.cell? ⟨w.heap.size, 1, none⟩ = some (.int .u32 mx) := by rw [hbW.cell]; rfl
            have e2 : W3.cell? ⟨w.heap.size, 2, none⟩ = some (.bool has) := by rw [hbW.cell]; rfl
            go_wp2_with fail
            go_region_held3 (fun w' => w'.cell? ⟨w.heap.size, 0, none⟩ = some (.int .u32 mn) ∧ w'.cell? ⟨w.heap.size, 1, none⟩ = some (.int .u32 mx) ∧ w'.cell? ⟨w.heap.size, 2, none⟩ = some (.bool has) ∧ Below W3.heap.size W3 w')
              (first | exact ⟨e0, e1, e2, (Below.refl _ _).drew⟩ | exact ⟨pw_cell_below (w := W3.drew) hBl e0, pw_cell_below (w := W3.drew) hBl e1, pw_cell_below (w := W3.drew) hBl e2, ((Below.refl _ _).drew).trans hBl⟩)
              (first
                | (go_at_call 24; refine (len_any g p _ mn mx has _ hTW.hn ?_).mono ?_; (exact hTW.hg); rw [HLW.out]; rintro e wl ⟨rfl, rfl⟩)
                | (go_at_call 25; refine (tlimits_any g p mn mx has _ _ hTW.drew).mono ?_; rintro e wl ⟨rfl, hBl⟩))
            rename_i hS
            obtain ⟨_, _, _, hBS⟩ := hS
            go_wp2_with fail
            go_roundw
            case rel => exact ⟨j + 1, _, by omega, by go_num, hTW.below hBS, hRW.below hBS, HLW, hbW.below hBS hbW.lt, hBW.trans (hBS.mono hBW.size)⟩
            case measure => simp [intOf]; omega
        by_cases k3 : x1 = 3
        · subst k3
          go_wp2_with fail
          have f1 : (wr.alloc (.cells #[.int .i64 3, .int .i64 x2, .int .u32 x3, .int .u64 x4, .slice A2 ys.length cc] 26)).cell? ⟨wr.heap.size, 1, none⟩ = some (.int .i64 x2) := by rw [hW.cell]; rfl
          have f2 : (wr.alloc (.cells #[.int .i64 3, .int .i64 x2, .int .u32 x3, .int .u64 x4, .slice A2 ys.length cc] 26)).cell? ⟨wr.heap.size, 2, none⟩ = some (.int .u32 x3) := by rw [hW.cell]; rfl
          have f3 : (wr.alloc (.cells #[.int .i64 3, .int .i64 x2, .int .u32 x3, .int .u64 x4, .slice A2 ys.length cc] 26)).cell? ⟨wr.heap.size, 3, none⟩ = some (.int .u64 x4) := by rw [hW.cell]; rfl
          have f4 : (wr.alloc (.cells #[.int .i64 3, .int .i64 x2, .int .u32 x3, .int .u64 x4, .slice A2 ys.length cc] 26)).cell? ⟨wr.heap.size, 4, none⟩ = some (.slice A2 ys.length cc) := by rw [hW.cell]; rfl
          generalize hWW : wr.alloc (.cells #[.int .i64 3, .int .i64 x2, .int .u32 x3, .int .u64 x4, .slice A2 ys.length cc] 26) = W at *
          clear hWW hB2 d0 d1 d2 d3 d4 hT hR
          go_region_held3 (fun w' => w'.cell? ⟨wr.heap.size, 1, none⟩ = some (.int .i64 x2) ∧ w'.cell? ⟨wr.heap.size, 3, none⟩ = some (.int .u64 x4))
            (first | exact ⟨f1, f3⟩)
            (first
              | (go_at_call 22; refine (holds_any g p mn mx has L _ _ b5 (by omega) (by omega) b1 _ hT2.drew).mono ?_; rintro e wl ⟨rfl, rfl⟩)
              | (go_at_call 23; refine (rholds_any g2 p2 mn mx has L _ _ b5 (by omega) (by omega) b1 _ hR2.drew).mono ?_; rintro e wl ⟨rfl, rfl⟩))
          obtain ⟨W2, hW2⟩ : ∃ W2, W2 = W.drew := ⟨_, rfl⟩
          go_wp2_with fail
          rw [← hW2]
          obtain ⟨hTW, hRW, hbW, hBW, HLW⟩ : IsTab W2 g p mn mx has L ∧ IsRTab W2 g2 p2 mn mx has L ∧ Blk W2 w.heap.size #[.int .u32 mn, .int .u32 mx, .bool has] 33 ∧ Below w.heap.size w W2 ∧ Hid ((L.length : Int) = mn) := by rw [hW2]; exact ⟨hT2.drew, hR2.drew, hbl2.drew, hBw2.drew, HL⟩
          clear hT2 hR2 hbl2 hBw2 HL hl2 f1 f2 f3 f4 hW hW2
          obtain ⟨W, rfl⟩ : ∃ W, W = W2 := ⟨_, rfl⟩
          have e0 : W.cell? ⟨w.heap.size, 0, none⟩ = some (.int .u32 mn) := by rw [hbW.cell]; rfl
          have e1 : W.cell? ⟨w.heap.size, 1, none⟩ = some (.int .u32 mx) := by rw [hbW.cell]; rfl
          have e2 : W.cell? ⟨w.heap.size, 2, none⟩ = some (.bool has) := by rw [hbW.cell]; rfl
          go_wp2_with fail
          go_region_held3 (fun w' => w'.cell? ⟨w.heap.size, 0, none⟩ = some (.int .u32 mn) ∧ w'.cell? ⟨w.heap.size, 1, none⟩ = some (.int .u32 mx) ∧ w'.cell? ⟨w.heap.size, 2, none⟩ = some (.bool has) ∧ Below W.heap.size W w')
            (first | exact ⟨e0, e1, e2, (Below.refl _ _).drew⟩ | exact ⟨pw_cell_below (w := W.drew) hBl e0, pw_cell_below (w := W.drew) hBl e1, pw_cell_below (w := W.drew) hBl e2, ((Below.refl _ _).drew).trans hBl⟩)
            (first
              | (go_at_call 24; refine (len_any g p _ mn mx has _ hTW.hn ?_).mono ?_; (exact hTW.hg); rw [HLW.out]; rintro e wl ⟨rfl, rfl⟩)
              | (go_at_call 25; refine (tlimits_any g p mn mx has _ _ hTW.drew).mono ?_; rintro e wl ⟨rfl, hBl⟩))
          rename_i hS
          obtain ⟨_, _, _, hBS⟩ := hS
          go_wp2_with fail
          go_roundw
          case rel => exact ⟨j + 1, _, by omega, by go_num, hTW.below hBS, hRW.below hBS, HLW, hbW.below hBS hbW.lt, hBW.trans (hBS.mono hBW.size)⟩
          case measure => simp [intOf]; omega
        · have k1' : (x1 == 1) = false := by simpa using k1
          have k2' : (x1 == 2) = false := by simpa using k2
          have k3' : (x1 == 3) = false := by simpa using k3
          go_wp2_with fail
          generalize hWW : wr.alloc (.cells #[.int .i64 x1, .int .i64 x2, .int .u32 x3, .int .u64 x4, .slice A2 ys.length cc] 26) = W at *
          clear hWW hW hB2 d0 d1 d2 d3 d4 hT hR
          obtain ⟨hTW, hRW, hbW, hBW, HLW⟩ : IsTab W g p mn mx has L ∧ IsRTab W g2 p2 mn mx has L ∧ Blk W w.heap.size #[.int .u32 mn, .int .u32 mx, .bool has] 33 ∧ Below w.heap.size w W ∧ Hid ((L.length : Int) = mn) := ⟨hT2, hR2, hbl2, hBw2, HL⟩
          clear hT2 hR2 hbl2 hBw2 HL hl2
          have e0 : W.cell? ⟨w.heap.size, 0, none⟩ = some (.int .u32 mn) := by rw [hbW.cell]; rfl
          have e1 : W.cell? ⟨w.heap.size, 1, none⟩ = some (.int .u32 mx) := by rw [hbW.cell]; rfl
          have e2 : W.cell? ⟨w.heap.size, 2, none⟩ = some (.bool has) := by rw [hbW.cell]; rfl
          go_wp2_with fail
          go_region_held3 (fun w' => w'.cell? ⟨w.heap.size, 0, none⟩ = some (.int .u32 mn) ∧ w'.cell? ⟨w.heap.size, 1, none⟩ = some (.int .u32 mx) ∧ w'.cell? ⟨w.heap.size, 2, none⟩ = some (.bool has) ∧ Below W.heap.size W w')
            (first | exact ⟨e0, e1, e2, (Below.refl _ _).drew⟩ | exact ⟨pw_cell_below (w := W.drew) hBl e0, pw_cell_below (w := W.drew) hBl e1, pw_cell_below (w := W.drew) hBl e2, ((Below.refl _ _).drew).trans hBl⟩)
            (first
              | (go_at_call 24; refine (len_any g p _ mn mx has _ hTW.hn ?_).mono ?_; (exact hTW.hg); rw [HLW.out]; rintro e wl ⟨rfl, rfl⟩)
              | (go_at_call 25; refine (tlimits_any g p mn mx has _ _ hTW.drew).mono ?_; rintro e wl ⟨rfl, hBl⟩))
          rename_i hS
          obtain ⟨_, _, _, hBS⟩ := hS
          go_wp2_with fail
          go_roundw
          case rel => exact ⟨j + 1, _, by omega, by go_num, hTW.below hBS, hRW.below hBS, HLW, hbW.below hBS hbW.lt, hBW.trans (hBS.mono hBW.size)⟩
          case measure => simp [intOf]; omega
      · obtain rfl : j = xs.length := by omega
        go_wp2_with fail
        go_ret
        exact ⟨rfl, hBwr⟩
abbrev CLim := Int × Int × Bool × Unit
def kCLim : Kd CLim := Kd.pair (rng .u32) (Kd.pair (rng .u32) (Kd.pair Kd.bool knil))
theorem opens_Limits (n : Nat) : OpensAt Try.prog 33 kCLim (fun _ => 1) (n + 1) :=
  opens_bk (opens_struct (fs := _) Try.underlying33 (by kernel_rfl) (opens_cons rfl (opens_int .u32 Try.underlying22 (by kernel_rfl) _) (opens_cons rfl (opens_int .u32 Try.underlying22 (by kernel_rfl) _) (opens_cons rfl (opens_bool Try.underlying4 (by kernel_rfl) _) (opens_nil _ _))))) (fun a => by simp)
def bCOps (xs : List COp) : Nat := (xs.map (fun x => bCOp x + 1)).sum
theorem opens_COp1 (n : Nat) : OpensAt Try.prog 26 kCOp (fun x => bCOp x + 1) (n + 2) := by
  refine opens_bk (opens_struct (fs := _) Try.underlying26 (by kernel_rfl) (opens_cons rfl (opens_int .i64 Try.underlying3 (by kernel_rfl) _) (opens_cons rfl (opens_int .i64 Try.underlying3 (by kernel_rfl) _)
    (opens_cons rfl (opens_int .u32 Try.underlying22 (by kernel_rfl) _) (opens_cons rfl (opens_int .u64 Try.underlying24 (by kernel_rfl) _)
    (opens_cons rfl (opens_slice (n := n) Try.underlying23 (by kernel_rfl) (opens_int .i64 Try.underlying3 (by kernel_rfl) _)) (opens_nil _ _))))))) ?_
  intro a
  show a.2.2.2.2.1.length + 1 ≤ _
  have := sum_ones a.2.2.2.2.1
  simp only [this]
  omega
theorem opens_COps (n : Nat) : OpensAt Try.prog 39 (Kd.slice 26 kCOp) bCOps (n + 3) :=
  opens_bk (opens_slice Try.underlying39 (by kernel_rfl) (opens_COp1 n)) (fun a => by show (a.map (fun x => bCOp x + 1)).sum ≤ _; omega)
theorem cellsTables_walk (W : World) (a0 : CLim) (a1 : List COp) {c0 : Array Value} {A1 : Option Addr} {len1 cap1 : Nat} (h0 : kCLim.K W a0 (Value.agg c0).cells.toList)
    (h1 : (Kd.slice 26 kCOp).K W a1 (Value.slice A1 len1 cap1).cells.toList) (hb : bCOps a1 ≤ 1048576) :
    Calls Try.prog 4 #[.agg c0, .slice A1 len1 cap1] W fun e W' => e = .returned (.bool true) ∧ Below W.heap.size W W' := by
  obtain ⟨_, _, e0, ⟨rfl, hw0⟩, _, _, rfl, ⟨rfl, _⟩, _, _, rfl, rfl, rfl⟩ := h0
  obtain rfl := agg_of e0
  obtain ⟨A, c, e1, hl, hC⟩ := h1
  simp [Value.cells] at e1
  obtain ⟨rfl, rfl, rfl⟩ := e1
  have w0 : 0 ≤ a0.1 ∧ a0.1 ≤ 4294967295 := by simpa [Lit.wf, IntKind.min, IntKind.max, IntKind.signed, IntKind.bits] using hw0
  have hlen := sum_len (fun x => bCOp x + 1) a1 (fun x => by omega)
  exact cellsTables_any _ _ _ w0.1 _ _ a1 W hC (by unfold bCOps at hb; omega) (fun x hx => by have := sum_mem (fun x => bCOp x + 1) a1 hx; unfold bCOps at hb; omega)
end Go.Proofs.Ytfndlpfceokloaa
