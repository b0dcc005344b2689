/- Lemmas towards this claim's statement: what the functions named here come to, each under the conditions that it states itself. -/
import Derived.Test.YtfndlpfceokloaaCells4
import Derived.Deep.RegionLaw
namespace Go.Proofs.Ytfndlpfceokloaa
open Go.RowKit YtfndlpfceokloaaB Go.Proofs.YtfndlpfceokloaaW.PrintWords
theorem infoInt : (Try.prog.info? 3).map (fun i => (i.zero, i.size, i.bytes)) = some (some (.int .i64 0), 1, 8) := by kernel_rfl
theorem setL_get (l : List (Bool × Int)) (i : Nat) (xs : List Int) (h : i + xs.length ≤ l.length) (k : Nat) : (setL l i xs)[k]? = if i ≤ k ∧ k - i < xs.length then (xs[k - i]?).map (fun x => (true, x)) else l[k]? := by
  unfold setL
  by_cases h1 : k < i
  · rw [if_neg (by omega), List.getElem?_append_left (by simp; omega), List.getElem?_take, if_pos h1]
  · rw [List.getElem?_append_right (by simp; omega)]
    have hl : (l.take i).length = i := by simp; omega
    rw [hl]
    by_cases h2 : k - i < xs.length
    · rw [if_pos ⟨by omega, h2⟩, List.getElem?_append_left (by simpa using h2), List.getElem?_map]
    · rw [if_neg (by omega), List.getElem?_append_right (by simp; omega), List.getElem?_drop, List.length_map]
      congr 1
      omega
theorem keeps_final {n : Nat} {xs ys : List Int} {x3 : Int} {ok1 ok2 : Bool} {l1 l2 : List (Bool × Int)} (h3 : 0 ≤ x3) (h1 : setOk n 0 xs = ok1) (h2 : setOk n x3 ys = ok2)
    (hl1 : l1 = if ok1 = true then setL (List.replicate n (false, 0)) (0 : Int).toNat xs else List.replicate n (false, 0)) (hl2 : l2 = if ok2 = true then setL l1 x3.toNat ys else l1) :
    ∀ i : Nat, i < n → (∀ y, ok2 = true → x3.toNat ≤ i → ys[i - x3.toNat]? = some y → getF l2 i = (y, 0)) ∧ (¬ (ok2 = true ∧ x3.toNat ≤ i ∧ i - x3.toNat < ys.length) →
      (∀ y, ok1 = true → xs[i]? = some y → getF l2 i = (y, 0)) ∧ (¬ (ok1 = true ∧ i < xs.length) → getF l2 i = (0, 7))) := by
  have n1 : l1.length = n := by
    rw [hl1]
    split
    · rename_i h
      have hh := h1.trans h
      unfold setOk holdsF at hh
      simp at hh
      rw [setL_length _ _ _ (by simp; omega), List.length_replicate]
    · rw [List.length_replicate]
  have n2 : l2.length = n := by
    rw [hl2]
    split
    · rename_i h
      have hh := h2.trans h
      unfold setOk holdsF at hh
      simp at hh
      rw [setL_length _ _ _ (by omega), n1]
    · exact n1
  intro i hi
  have key : ∀ b f, l2[i]? = some (b, f) → getF l2 i = if b = true then (f, 0) else (0, 7) := by
    intro b f hb
    unfold getF
    rw [if_pos (by omega), Int.toNat_natCast, hb]
    cases b <;> rfl
  have e1 : l1[i]? = if ok1 = true ∧ i < xs.length then (xs[i]?).map (fun x => (true, x)) else some (false, 0) := by
    rw [hl1]
    by_cases h : ok1 = true
    · have hh := h1.trans h
      unfold setOk holdsF at hh
      simp at hh
      rw [if_pos h, setL_get _ _ _ (by simp; omega)]
      simp only [Int.toNat_zero, Nat.zero_le, true_and, Nat.sub_zero, h]
      split
      · rfl
      · simp [hi]
    · rw [if_neg h, if_neg (fun a => h a.1)]
      simp [hi]
  have e2 : l2[i]? = if ok2 = true ∧ x3.toNat ≤ i ∧ i - x3.toNat < ys.length then (ys[i - x3.toNat]?).map (fun x => (true, x)) else l1[i]? := by
    rw [hl2]
    by_cases h : ok2 = true
    · have hh := h2.trans h
      unfold setOk holdsF at hh
      simp at hh
      rw [if_pos h, setL_get _ _ _ (by omega)]
      simp only [h, true_and]
    · rw [if_neg h, if_neg (fun a => h a.1)]
  refine ⟨fun y a b d => ?_, fun hn => ⟨fun y a d => ?_, fun hn2 => ?_⟩⟩
  · rw [if_pos ⟨a, b, (List.getElem?_eq_some_iff.1 d).1⟩, d] at e2
    exact (key _ _ e2).trans (if_pos rfl)
  · rw [if_neg hn, e1, if_pos ⟨a, (List.getElem?_eq_some_iff.1 d).1⟩, d] at e2
    exact (key _ _ e2).trans (if_pos rfl)
  · rw [if_neg hn, e1, if_neg hn2] at e2
    exact (key _ _ e2).trans (if_neg (by decide))
theorem keeps_last {n : Nat} {xs ys : List Int} {ok1 : Bool} (h : ∀ x ∈ xs ++ ys, 0 ≤ x) (h1 : setOk n 0 xs = ok1) : ok1 = decide (xs.length ≤ n) := by
  rw [← h1]
  unfold setOk holdsF
  rw [List.all_eq_true.2 (fun x hx => by simpa using h x (by simp [hx])), Bool.and_true]
  rw [decide_eq_decide]
  omega
set_option maxRecDepth 100000 in
set_option maxHeartbeats 2000000 in
theorem cellsKeeps_any (n : Int) (h0 : 0 ≤ n) (A1 : Option Addr) (c1 : Nat) (xs : List Int) (x : COp) (cs : Array Value) (w : World) (hr : RdI w .i64 A1 xs) (hk : kCOp.K w x cs.toList) (hl : x.2.2.2.2.1.length ≤ 1048576) :
    Calls Try.prog 3 #[.int .u32 n, .slice A1 xs.length c1, .agg cs] w fun e w' => e = .returned (.bool true) ∧ Below w.heap.size w w' := by
  have hlen : xs.length ≤ 9223372036854775807 := by have := hr.1; omega
  obtain ⟨A, c, hcs, ⟨b1, b2⟩, ⟨b3, b4⟩, ⟨b5, b6⟩, hC⟩ := COp_open hk
  obtain rfl : cs = #[.int .i64 x.1, .int .i64 x.2.1, .int .u32 x.2.2.1, .int .u64 x.2.2.2.1, .slice A x.2.2.2.2.1.length c] := by rw [← Array.toArray_toList (xs := cs), hcs]
  have hrl := C_rdI hC (by omega)
  clear hk hcs hC
  obtain ⟨x1, x2, x3, x4, ys, _⟩ := x
  simp only at *
  obtain ⟨n, rfl⟩ := Int.eq_ofNat_of_zero_le h0
  obtain ⟨m, rfl⟩ := Int.eq_ofNat_of_zero_le b3
  go_enter Try.func3, Try.ntmps3
  go_wp2_with fail
  refine (awake26_any _).mono ?_
  rintro e w1 ⟨rfl, hB1⟩
  simp at hB1
  have hBw1 : Below w.heap.size w w1 := ((Below.refl _ _).alloc (Nat.le_refl _) _).trans (hB1.mono (by simp))
  have hbx : Blk w1 w.heap.size #[.int .i64 x1, .int .i64 x2, .int .u32 m, .int .u64 x4, .slice A ys.length c] 26 := Blk.below (Blk.new w _ _) hB1 (by simp)
  have f2 : w1.cell? ⟨w.heap.size, 2, none⟩ = some (.int .u32 m) := by rw [hbx.cell]; rfl
  have f4 : w1.cell? ⟨w.heap.size, 4, none⟩ = some (.slice A ys.length c) := by rw [hbx.cell]; rfl
  have hsz1 := hB1.size
  simp at hsz1
  have hr1 := hr.below hBw1
  have hrl1 := hrl.below hBw1
  clear hr hrl hB1
  by_cases g1 : 60 < n
  · go_wp2_with fail
    go_ret
    exact ⟨rfl, hBw1⟩
  by_cases g2 : 60 < xs.length
  · go_wp2_with fail
    go_ret
    exact ⟨rfl, hBw1⟩
  by_cases g3 : 60 < ys.length
  · go_wp2_with fail
    go_ret
    exact ⟨rfl, hBw1⟩
  have d1 : decide ((60 : Int) < (n : Int)) = false := by simp; omega
  have d2 : decide ((60 : Int) < (xs.length : Int)) = false := by simp; omega
  have d3 : decide ((60 : Int) < (ys.length : Int)) = false := by simp; omega
  go_upto_region 5 with (fail)
  have o0 : (w1.alloc (.cells #[] 3)).ownsRow w1.heap.size 3 1 (.slice (some ⟨w1.heap.size, 0, none⟩) 0 0) 0 [] := World.ownsRow_made w1 #[] 0 (Nat.le_refl _) (by simp) rfl
  have hlt1 : w.heap.size < w1.heap.size := by omega
  have H0 := Lib.hid o0
  have HB0 := Lib.hid (show ∀ wA, (w1.alloc (.cells #[] 3)).drew.grownBy wA (Value.slice (some ⟨w1.heap.size, 0, none⟩) 0 0).ownBlock → Below w1.heap.size w1 wA from fun wA hg => (((Below.refl _ w1).alloc (Nat.le_refl _) (.cells #[] 3)).drew).grown hg (by simp [World.drew]) (own_base o0))
  clear o0
  obtain ⟨zs, hzs⟩ : ∃ zs, zs = xs ++ ys := ⟨_, rfl⟩
  have hzl : xs.length + ys.length = zs.length := by rw [hzs]; simp
  have HZ := Lib.hid hzs
  have HZL := Lib.hid hzl
  clear hzs hzl
  go_cut [38, 39, 40] (fun s38 s39 s40 wx => ∃ A2 c2, s38 = .slice A2 zs.length c2 ∧ s39 = .int .i64 (zs.length : Int) ∧ s40 = .int .i64 0 ∧ RdI wx .i64 A2 zs ∧ Below w1.heap.size w1 wx)
  case first =>
    go_region_law (first
      | (refine step_append_src w1.heap.size rfl (.tmp 33) (.tmp 34) 23 3 (.int .i64 0) 1 8 rfl Try.underlying23 infoInt rfl (by decide) (by decide) (.slice (some ⟨w1.heap.size, 0, none⟩) 0 0) 0 [] (nums .i64 xs) A1 xs.length c1 rfl rfl (by exact H0.out) (by simp [nums]) (by exact (hr1.below ((Below.refl _ _).alloc (Nat.le_refl _) _)).src) (nums_one _ _) (by simp) (by omega) ?_; intro v1 wA hown1 hg1 hat1; have HBA := HB0.out wA hg1; have f4A : wA.cell? ⟨w.heap.size, 4, none⟩ = some (.slice A ys.length c) := pw_cell_below HBA f4; clear hg1 hat1)
      | (refine step_append_src w1.heap.size rfl (.tmp 35) (.tmp 37) 23 3 (.int .i64 0) 1 8 rfl Try.underlying23 infoInt rfl (by decide) (by decide) v1 (0 + xs.length) ([] ++ nums .i64 xs) (nums .i64 ys) A ys.length c rfl rfl hown1 (by simp [nums]) (by exact (hrl1.below HBA).src) (nums_one _ _) HBA.size (by omega) ?_; intro v2 wB hown2 hg2 hat2; have HBB := HBA.grown hg2 HBA.size (own_base hown1); rw [show [] ++ nums .i64 xs ++ nums .i64 ys = nums .i64 (xs ++ ys) from by simp [nums]] at hown2; obtain ⟨A2, c2, rfl, hxl, hr2⟩ := own_rdI hown2 (by omega); clear hown2 hg2 hat2 hown1 f4A HBA))
    all_goals (go_wp2_with fail; go_meet; exact ⟨_, _, by rw [← HZL.out], by rw [← HZL.out]; go_num, rfl, by rw [HZ.out]; exact hr2, HBB⟩)
  case rest =>
    obtain ⟨A2, c2, rfl, rfl, rfl, hr2, hB2⟩ := hcut
    clear H0 HB0
    have hzl : zs.length ≤ 9223372036854775807 := by have := hr2.1; omega
    go_wp2_with fail
    go_loop [40] (fun k => ∃ j : Nat, j ≤ zs.length ∧ k = .int .i64 j ∧ Hid (∀ x ∈ zs.take j, 0 ≤ x)) (fun k => zs.length - (intOf k).toNat)
    case atStart => exact ⟨0, Nat.zero_le _, rfl, by intro x hx; simp at hx⟩
    case round =>
      obtain ⟨j, hj, rfl, hpos⟩ := hrel
      have hBx : Below w.heap.size w wc := hBw1.trans (hB2.mono (by omega))
      by_cases hlt2 : j < zs.length
      · obtain ⟨b, o, x, rfl, hc, hx⟩ := hr2.get j hlt2
        by_cases hneg : x < 0
        · go_wp2
          go_ret
          exact ⟨rfl, hBx⟩
        · have hpos2 : Hid (∀ x ∈ zs.take (j + 1), 0 ≤ x) := take_all_succ hpos.out hx.out (by omega)
          go_wp2
          go_round
          case rel => exact ⟨j + 1, by omega, by go_num, hpos2⟩
          case measure => simp [intOf]; omega
      · obtain rfl : j = zs.length := by omega
        have hall := Lib.hid (show ∀ x ∈ xs ++ ys, 0 ≤ x from by rw [← HZ.out]; intro x hx; exact hpos.out x (by rw [List.take_of_length_le (Nat.le_refl _)]; exact hx))
        go_wp2_with fail
        have hszx := hBx.size
        refine (newTable_any n 0 false (by omega) _).mono ?_
        rintro e w3 ⟨hB3, ⟨hne, _⟩ | ⟨_, g, p, rfl, hg1, hp1, ht⟩⟩
        · exact absurd (by unfold newErr; rw [if_neg (by simp), if_neg (by omega)]) hne
        simp only [Int.toNat_natCast] at ht
        have hsz3 := hB3.size
        have hr3 := (hr1.below hB2).below hB3
        have hB13 := hB2.trans (hB3.mono hB2.size)
        go_wp2_with fail
        refine (set_any g p n 0 false _ 0 (by decide) (by decide) _ c1 xs _ ht hr3).mono ?_
        rintro e w4 ⟨rfl, hgr4, ht4⟩
        have hB14 : Below w1.heap.size w1 w4 := hB13.grown hgr4 hB13.size (by intro k hk; injection hk with hk; have := hB2.size; omega)
        rw [List.length_replicate] at *
        generalize hok1 : setOk n 0 xs = ok1 at *
        have f2' : w4.cell? ⟨w.heap.size, 2, none⟩ = some (.int .u32 m) := (hB14.cell (p := ⟨w.heap.size, 2, none⟩) hlt1).trans f2
        have f4' : w4.cell? ⟨w.heap.size, 4, none⟩ = some (.slice A ys.length c) := (hB14.cell (p := ⟨w.heap.size, 4, none⟩) hlt1).trans f4
        have hsz4 := hgr4.size
        have hok1' := Lib.hid hok1
        clear hok1
        obtain ⟨l1, hl1⟩ : ∃ l1, l1 = if ok1 = true then setL (List.replicate n (false, 0)) (0 : Int).toNat xs else List.replicate n (false, 0) := ⟨_, rfl⟩
        rw [← hl1] at ht4
        have hl1n : l1.length = n := by
          rw [hl1]
          split
          · rename_i h
            have hh := hok1'.out.trans h
            unfold setOk holdsF at hh
            simp at hh
            rw [setL_length _ _ _ (by simp; omega), List.length_replicate]
          · rw [List.length_replicate]
        have HL1 := Lib.hid hl1
        have HL1n := Lib.hid hl1n
        clear hl1 hl1n
        go_wp2_with fail
        refine (set_any g p n 0 false l1 m (by omega) (by omega) _ c ys _ ht4 (hrl1.below hB14)).mono ?_
        rintro e w5 ⟨rfl, hgr5, ht5⟩
        rw [HL1n.out] at *
        generalize hok2 : setOk n m ys = ok2 at *
        have hok2' := Lib.hid hok2
        clear hok2
        obtain ⟨l2, hl2⟩ : ∃ l2, l2 = if ok2 = true then setL l1 (m : Int).toNat ys else l1 := ⟨_, rfl⟩
        rw [← hl2] at ht5
        have HL2 := Lib.hid hl2
        clear hl2
        have hB15 : Below w1.heap.size w1 w5 := hB14.grown hgr5 hB14.size (by intro k hk; injection hk with hk; have := hB2.size; omega)
        have f2'' : w5.cell? ⟨w.heap.size, 2, none⟩ = some (.int .u32 m) := (hB15.cell (p := ⟨w.heap.size, 2, none⟩) hlt1).trans f2
        have f4'' : w5.cell? ⟨w.heap.size, 4, none⟩ = some (.slice A ys.length c) := (hB15.cell (p := ⟨w.heap.size, 4, none⟩) hlt1).trans f4
        have hr5 := hr1.below hB15
        have hrl5 := hrl1.below hB15
        have hBend : Below w.heap.size w w5 := hBw1.trans (hB15.mono (by omega))
        clear f2' f4' hr3 hsz3 hsz4 ht4 ht hgr4 hgr5 hB14 hB13 hB3 hr2 hBx hbx hr1 hrl1 hB15 hBw1 hB2
        have hfin := Lib.hid (keeps_final (n := n) (xs := xs) (ys := ys) (x3 := m) (ok1 := ok1) (ok2 := ok2) (l1 := l1) (l2 := l2) b3 hok1'.out hok2'.out HL1.out HL2.out)
        have hlast := Lib.hid (keeps_last (n := n) (xs := xs) (ys := ys) hall.out hok1'.out)
        go_wp2_with fail
        go_loop [65] (fun k => ∃ i : Nat, i ≤ n ∧ k = .int .u32 i) (fun k => n - (intOf k).toNat)
        case atStart => exact ⟨0, Nat.zero_le _, rfl⟩
        case round =>
          obtain ⟨i, hi, rfl⟩ := hrel
          by_cases hin : i < n
          · obtain ⟨hfa, hfb⟩ := hfin.out i hin
            simp only [Int.toNat_natCast] at hfa hfb
            by_cases hA : ok2 = true ∧ m ≤ i ∧ i - m < ys.length
            · obtain ⟨rfl, hA1, hA2⟩ := hA
              obtain ⟨b, o, y, rfl, hc, hy⟩ := hrl5.get (i - m) hA2
              have HG := Lib.hid (hfa y rfl hA1 hy.out)
              clear hfa hfb
              cases ok1
              · go_wp2_with (go_at_call 17; refine (get_any g p n 0 false l2 i (by omega) _ ht5).mono ?_; rw [HG.out]; rintro e w' ⟨rfl, rfl⟩)
                go_round
                case rel => exact ⟨i + 1, by omega, by go_num⟩
                case measure => simp [intOf]; omega
              · by_cases hB : i < xs.length
                · obtain ⟨b', o', y', rfl, hc', hy'⟩ := hr5.get i hB
                  go_wp2_with (go_at_call 17; refine (get_any g p n 0 false l2 i (by omega) _ ht5).mono ?_; rw [HG.out]; rintro e w' ⟨rfl, rfl⟩)
                  go_round
                  case rel => exact ⟨i + 1, by omega, by go_num⟩
                  case measure => simp [intOf]; omega
                · go_wp2_with (go_at_call 17; refine (get_any g p n 0 false l2 i (by omega) _ ht5).mono ?_; rw [HG.out]; rintro e w' ⟨rfl, rfl⟩)
                  go_round
                  case rel => exact ⟨i + 1, by omega, by go_num⟩
                  case measure => simp [intOf]; omega
            · have hfb := hfb hA
              have hdec : ok2 = false ∨ (ok2 = true ∧ i < m) ∨ (ok2 = true ∧ m ≤ i ∧ ys.length ≤ i - m) := by
                cases ok2
                · exact .inl rfl
                · simp at hA
                  by_cases h : i < m
                  · exact .inr (.inl ⟨rfl, h⟩)
                  · exact .inr (.inr ⟨rfl, by omega, hA (by omega)⟩)
              by_cases hB : ok1 = true ∧ i < xs.length
              · obtain ⟨rfl, hB1⟩ := hB
                obtain ⟨b', o', y', rfl, hc', hy'⟩ := hr5.get i hB1
                have HG := Lib.hid (hfb.1 y' rfl hy'.out)
                clear hfa hfb hA
                rcases hdec with rfl | ⟨rfl, hm⟩ | ⟨rfl, hm, hm2⟩
                all_goals
                  go_wp2_with (go_at_call 17; refine (get_any g p n 0 false l2 i (by omega) _ ht5).mono ?_; rw [HG.out]; rintro e w' ⟨rfl, rfl⟩)
                  go_round
                  case rel => exact ⟨i + 1, by omega, by go_num⟩
                  case measure => simp [intOf]; omega
              · have HG := Lib.hid (hfb.2 hB)
                have hdec2 : ok1 = false ∨ (ok1 = true ∧ xs.length ≤ i) := by
                  cases ok1
                  · exact .inl rfl
                  · simp at hB
                    exact .inr ⟨rfl, hB⟩
                clear hfa hfb hA hB
                rcases hdec with rfl | ⟨rfl, hm⟩ | ⟨rfl, hm, hm2⟩
                all_goals
                  rcases hdec2 with rfl | ⟨rfl, hm3⟩
                  all_goals
                    go_wp2_with (go_at_call 17; refine (get_any g p n 0 false l2 i (by omega) _ ht5).mono ?_; rw [HG.out]; rintro e w' ⟨rfl, rfl⟩)
                    go_round
                    case rel => exact ⟨i + 1, by omega, by go_num⟩
                    case measure => simp [intOf]; omega
          · go_wp2_with fail
            go_ret
            refine ⟨?_, hBend⟩
            rw [hlast.out]
            simp
theorem opens_Ints (n : Nat) : OpensAt Try.prog 23 (Kd.slice 3 (rng .i64)) (fun xs => xs.length) (n + 1) :=
  opens_bk (opens_slice Try.underlying23 (by kernel_rfl) (opens_int .i64 Try.underlying3 (by kernel_rfl) _)) (fun a => by have := sum_ones a; simp only [this]; omega)
theorem cellsKeeps_walk (W : World) (a0 : Int) (a1 : List Int) (a2 : COp) {n0 : Int} {A1 : Option Addr} {len1 cap1 : Nat} {c2 : Array Value} (h0 : (rng .u32).K W a0 (Value.int .u32 n0).cells.toList)
    (h1 : (Kd.slice 3 (rng .i64)).K W a1 (Value.slice A1 len1 cap1).cells.toList) (h2 : kCOp.K W a2 (Value.agg c2).cells.toList) (hb : a1.length + bCOp a2 ≤ 1048576) :
    Calls Try.prog 3 #[.int .u32 n0, .slice A1 len1 cap1, .agg c2] W fun e W' => e = .returned (.bool true) ∧ Below W.heap.size W W' := by
  obtain ⟨e0, hw0⟩ := h0
  simp [Value.cells] at e0
  subst e0
  obtain ⟨A, c, e1, hl, hC⟩ := h1
  simp [Value.cells] at e1
  obtain ⟨rfl, rfl, rfl⟩ := e1
  have w0 : 0 ≤ n0 ∧ n0 ≤ 4294967295 := by simpa [Lit.wf, IntKind.min, IntKind.max, IntKind.signed, IntKind.bits] using hw0
  have hb2 : bCOp a2 = a2.2.2.2.2.1.length := rfl
  exact cellsKeeps_any n0 w0.1 _ _ a1 a2 c2 W (C_rdI hC (by omega)) h2 (by omega)
end Go.Proofs.Ytfndlpfceokloaa
