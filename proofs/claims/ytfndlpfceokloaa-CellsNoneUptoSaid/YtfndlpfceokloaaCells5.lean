/- Lemmas towards this claim's statement: what the functions named here come to, each under the conditions that it states itself. -/
import Derived.Test.YtfndlpfceokloaaCells4
namespace Go.Proofs.Ytfndlpfceokloaa
open Go.RowKit YtfndlpfceokloaaB Go.Proofs.YtfndlpfceokloaaW.PrintWords
theorem isTy_width (t : Int) : isTy t = true ↔ widthV t ≠ 0 := by
  unfold isTy widthV
  simp only [decide_eq_true_eq]
  by_cases h : t = 127 ∨ t = 125
  · rw [if_pos h]
    exact ⟨fun _ => by decide, fun _ => by omega⟩
  · rw [if_neg h]
    by_cases h2 : t = 126 ∨ t = 124
    · rw [if_pos h2]
      exact ⟨fun _ => by decide, fun _ => by omega⟩
    · rw [if_neg h2]
      exact ⟨fun _ => by omega, fun h => absurd rfl h⟩
theorem cutV_cutR (t v : Int) (h : isTy t = true) (h0 : 0 ≤ v) (h1 : v < 18446744073709551616) : cutV t v = cutR (widthV t) v := by
  unfold isTy at h
  simp only [decide_eq_true_eq] at h
  unfold cutV cutR widthV
  by_cases h2 : t = 127 ∨ t = 125
  · simp only [h2, if_true]
    obtain ⟨n, rfl⟩ := Int.eq_ofNat_of_zero_le h0
    have := bits_and_u64_nat n 4294967295 (by omega) (by omega)
    rw [show ((4294967295 : Nat) : Int) = 4294967295 from rfl] at this
    rw [this, show (4294967295 : Nat) = 2 ^ 32 - 1 from rfl, Nat.and_two_pow_sub_one_eq_mod]
    omega
  · have h3 : t = 126 ∨ t = 124 := by omega
    simp only [h2, h3, if_true, if_false]
    rfl
set_option maxRecDepth 100000 in
set_option maxHeartbeats 1000000 in
theorem cellsGlobals_any (t : Int) (m : Bool) (first : Int) (h0 : 0 ≤ first) (h1 : first < 18446744073709551616) (A : Option Addr) (c : Nat) (xs : List Int) (w : World) (hr : RdI w .u64 A xs) (hx : Hid (∀ x ∈ xs, 0 ≤ x ∧ x < 18446744073709551616)) :
    Calls Try.prog 7 #[.agg #[.int .u8 t, .bool m], .int .u64 first, .slice A xs.length c] w fun e w' => e = .returned (.bool true) ∧ Below w.heap.size w w' := by
  have hlen : xs.length ≤ 9223372036854775807 := by have := hr.1; omega
  go_enter Try.func7, Try.ntmps7
  go_wp2_with fail
  refine (awake26_any _).mono ?_
  rintro e w1 ⟨rfl, hB1⟩
  simp at hB1
  by_cases h100 : 100 < xs.length
  · go_wp2_with fail
    go_ret
    exact ⟨rfl, ((Below.refl _ _).alloc (Nat.le_refl _) _).trans (hB1.mono (by simp))⟩
  · have c0 : w1.cell? ⟨w.heap.size, 0, none⟩ = some (.int .u8 t) := by
      rw [hB1.cell (p := ⟨w.heap.size, 0, none⟩) (by simp)]; exact (Blk.new w #[.int .u8 t, .bool m] 68).cell 0
    have c1 : w1.cell? ⟨w.heap.size, 1, none⟩ = some (.bool m) := by
      rw [hB1.cell (p := ⟨w.heap.size, 1, none⟩) (by simp)]; exact (Blk.new w #[.int .u8 t, .bool m] 68).cell 1
    have hsz1 := hB1.size
    simp at hsz1
    go_wp2_with fail
    refine (newGlobal_any t m first _).mono ?_
    rintro e w2 ⟨hB2, hcase⟩
    have hBw2 : Below w.heap.size w w2 := (((Below.refl _ _).alloc (Nat.le_refl _) _).trans (hB1.mono (by simp))).trans (hB2.mono (by omega))
    have d0 : w2.cell? ⟨w.heap.size, 0, none⟩ = some (.int .u8 t) := by rw [hB2.cell (p := ⟨w.heap.size, 0, none⟩) (show w.heap.size < _ by omega)]; exact c0
    have d1 : w2.cell? ⟨w.heap.size, 1, none⟩ = some (.bool m) := by rw [hB2.cell (p := ⟨w.heap.size, 1, none⟩) (show w.heap.size < _ by omega)]; exact c1
    have hsz2 := hB2.size
    clear c0 c1
    rcases hcase with ⟨hty, rfl⟩ | ⟨hty, g, rfl, hgB, hg⟩
    · have hw0 : widthV t = 0 := by
        have := isTy_width t
        rw [hty] at this
        simpa using this
      go_wp2_with (go_at_call 38; refine (width_any _ _).mono ?_; rw [hw0]; rintro e w' ⟨rfl, rfl⟩)
      go_ret
      exact ⟨rfl, hBw2⟩
    · have hw0 : (widthV t == 0) = false := by
        have := (isTy_width t).1 hty
        simpa using this
      go_wp2_with (go_at_call 38; refine (width_any _ _).mono ?_; rintro e w' ⟨rfl, rfl⟩)
      go_region_held3 (fun w' => w'.cell? ⟨w.heap.size, 0, none⟩ = some (.int .u8 t) ∧ w'.cell? ⟨w.heap.size, 1, none⟩ = some (.bool m) ∧ Blk w' g (glArr t m (cutV t first)) 70 ∧ Below w2.heap.size w2 w')
        (first | exact ⟨d0, d1, hg, (Below.refl _ _).drew⟩ | exact ⟨pw_cell_below (w := w2.drew) hB3 d0, pw_cell_below (w := w2.drew) hB3 d1, Blk.below (w := w2.drew) hg hB3 hg.lt, ((Below.refl _ _).drew).trans hB3⟩)
        (first | (go_at_call 36; refine (gtype_any g t m _ _ hg.drew).mono ?_; rintro e w3 ⟨rfl, hB3⟩))
      rename_i hS
      obtain ⟨e0, e1, hg3, hB23⟩ := hS
      have hBw3 : Below w.heap.size w w3 := hBw2.trans (hB23.mono (by omega))
      clear hB1 hB2 d0 d1 hg hB3 hB23
      go_wp2_with fail
      go_region_held3 (fun w' => w'.cell? ⟨w.heap.size, 0, none⟩ = some (.int .u8 t) ∧ w'.cell? ⟨w.heap.size, 1, none⟩ = some (.bool m) ∧ Below w3.heap.size w3 w')
        (first | exact ⟨e0, e1, (Below.refl _ _).drew⟩ | exact ⟨pw_cell_below (((Below.refl _ _).drew).alloc (Nat.le_refl _) _) e0, pw_cell_below (((Below.refl _ _).drew).alloc (Nat.le_refl _) _) e1, ((Below.refl _ _).drew).alloc (Nat.le_refl _) _⟩)
        (first | (go_at_call 39; refine (rcut_any _ _ h0 h1 _).mono ?_; rintro e w' ⟨rfl, rfl⟩))
      have hsz3 := hBw3.size
      obtain ⟨w4, hw4⟩ : ∃ w4, w4 = (w3.alloc (Obj.cells #[Value.int IntKind.u8 t, Value.bool m, Value.int IntKind.u64 (cutR (widthV t) first)] 83)).drew := ⟨_, rfl⟩
      have hB4 : Below w.heap.size w w4 := by rw [hw4]; exact (hBw3.alloc hsz3 _).drew
      obtain ⟨g2, hg2⟩ : ∃ g2, g2 = w3.heap.size := ⟨_, rfl⟩
      have k4 : Blk w4 g (glArr t m (cutV t first)) 70 := by rw [hw4]; exact (hg3.alloc _).drew
      have l4 : Blk w4 g2 (glArr t m (cutV t first)) 83 := by rw [hw4, hg2, cutV_cutR t first hty h0 h1]; exact (Blk.new _ _ _).drew
      have hne : g ≠ g2 := by have := hg3.lt; omega
      have hge2 : w.heap.size ≤ g2 := by omega
      have hge : w.heap.size ≤ g := by omega
      rw [← hw4, ← hg2]
      clear hw4 hg2 hg3 hBw3 e0 e1
      have hsz4 := hB4.size
      go_wp2_with fail
      go_loopw [58] (fun k wr => ∃ (j : Nat) (v : Int), j ≤ xs.length ∧ k = .int .i64 j ∧ Blk wr g (glArr t m v) 70 ∧ Blk wr g2 (glArr t m v) 83 ∧ Below w.heap.size w wr) (fun k _ => xs.length - (intOf k).toNat)
      case atStart => exact ⟨0, _, Nat.zero_le _, rfl, k4, l4, hB4⟩
      case round =>
        obtain ⟨j, v, hj, rfl, hbx, hby, hB⟩ := hrel
        clear k4 l4 hB4
        have hsz := hB.size
        by_cases hlt : j < xs.length
        · obtain ⟨b, o, x, rfl, hc, hxj⟩ := (hr.below hB).get j hlt
          have hx0 := hx.out x (List.mem_of_getElem? hxj.out)
          have hx1 := hx0.1
          have hx2 := hx0.2
          clear hx0
          have c2 : wr.cell? ⟨g2, 2, none⟩ = some (.int .u64 v) := by rw [hby.cell]; rfl
          have hv : Hid (cutV t x = cutR (widthV t) x) := cutV_cutR t x hty hx1 hx2
          have hne2 : some g2 ≠ some g := by simpa using fun h => hne h.symm
          have hne3 : some g ≠ some g2 := by simpa using hne
          go_wp2_with fail
          go_region_with (first
            | (go_at_call 35; refine (gget_any g t m v _ ?_).mono ?_; (exact hbx.drew); rintro e wa ⟨rfl, rfl⟩)
            | (go_at_call 34; refine (gset_any g t m v x _ hty ?_).mono ?_; (first | exact hbx.drew | assumption); rintro e wa ⟨rfl, hga, hba⟩; have hca := Blk.grown (g := g2) (by first | exact hby.drew | assumption) hga hne2)
            | (go_at_call 40; refine (rgset_any g2 t m v x hx1 hx2 _ ?_).mono ?_; (first | exact hby.drew | assumption); rintro e wb ⟨rfl, hgb, hbb⟩; have hcb := Blk.grown (g := g) (by first | exact hbx.drew | assumption) hgb hne3))
          all_goals
            go_wp2_with fail
            go_roundw
            case rel => exact ⟨j + 1, if m = true then cutV t x else v, by omega, by go_num, by assumption, by rw [hv.out]; assumption, by
              first
                | exact (hB.drew.grown hga hsz (by intro k hk; injection hk with hk; omega)).grown hgb (Nat.le_trans hsz hga.size) (by intro k hk; injection hk with hk; omega)
                | exact (hB.drew.grown hgb hsz (by intro k hk; injection hk with hk; omega)).grown hga (Nat.le_trans hsz hgb.size) (by intro k hk; injection hk with hk; omega)⟩
            case measure => simp [intOf]; omega
        · have c2 : wr.cell? ⟨g2, 2, none⟩ = some (.int .u64 v) := by rw [hby.cell]; rfl
          go_wp2_with fail
          go_region_held3 (fun w' => w'.cell? ⟨g2, 2, none⟩ = some (.int .u64 v) ∧ Below w.heap.size w w')
            (first | exact ⟨c2, hB.drew⟩)
            (first | (go_at_call 35; refine (gget_any g t m v _ ?_).mono ?_; (exact hbx.drew); rintro e wa ⟨rfl, rfl⟩))
          rename_i hS
          obtain ⟨_, hBe⟩ := hS
          go_wp2
          go_ret
          exact ⟨rfl, hBe⟩
end Go.Proofs.Ytfndlpfceokloaa
