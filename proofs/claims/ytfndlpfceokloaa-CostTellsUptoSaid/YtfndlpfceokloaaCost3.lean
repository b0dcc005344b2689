/- Lemmas towards this claim's statement: what the functions named here come to, each under the conditions that it states itself. -/
import Derived.Test.YtfndlpfceokloaaCost2
namespace Go.Proofs.YtfndlpfceokloaaB
open Go.RowKit Go.Proofs.YtfndlpfceokloaaW.PrintWords
theorem own_block {w : World} {base n sz : Nat} {e : TypeId} {v : Value} {xs : List Value} (h : w.ownsRow base e sz v n xs) {k : Nat} (hk : v.ownBlock = some k) : base ≤ k ∧ k < w.heap.size := by
  obtain ⟨h1, h2⟩ := h
  rcases h2 with ⟨rfl, h0⟩ | ⟨g, cap, cur, rfl, hg, hh, h3, h4, h5, h6⟩
  · cases hk
  · injection hk with hk
    subst hk
    exact ⟨hg, (Array.getElem?_eq_some_iff.1 hh).1⟩
def psOf (l : List Ins) : List (Int × Bool) := l.map (fun x => (if knI x then (coI x : Int) else 0, knI x))
def pCells (ps : List (Int × Bool)) : List Value := ps.flatMap (fun p => [.int .u64 p.1, .bool p.2])
theorem pCells_len (ps : List (Int × Bool)) : (pCells ps).length = ps.length * 2 := by
  induction ps with
  | nil => rfl
  | cons p ps ih => simp only [pCells, List.flatMap_cons, List.length_append, List.length_cons, List.length_nil] at *; omega
theorem pCells_at (ps : List (Int × Bool)) : ∀ (j : Nat) (p : Int × Bool), ps[j]? = some p → (pCells ps)[j * 2]? = some (.int .u64 p.1) ∧ (pCells ps)[j * 2 + 1]? = some (.bool p.2) := by
  induction ps with
  | nil => intro j p h; simp at h
  | cons q ps ih =>
    intro j p h
    cases j with
    | zero => simp at h; subst h; exact ⟨rfl, rfl⟩
    | succ j =>
      have := ih j p (by simpa using h)
      rw [show (j + 1) * 2 = j * 2 + 2 from by omega, show j * 2 + 2 + 1 = (j * 2 + 1) + 2 from by omega]
      exact this
theorem psOf_take {l : List Ins} {j : Nat} {x : Ins} (h : l[j]? = some x) : psOf (l.take (j + 1)) = psOf (l.take j) ++ [(if knI x then (coI x : Int) else 0, knI x)] := by
  rw [List.take_add_one, h]
  simp [psOf]
theorem own_rdP {w : World} {base n : Nat} {e : TypeId} {v : Value} {ps : List (Int × Bool)} (h : w.ownsRow base e 2 v n (pCells ps)) : ∃ A c, v = .slice A ps.length c ∧ ps.length = n ∧ RdP w A ps := by
  have hn : ps.length = n := by have := h.1; rw [pCells_len] at this; omega
  obtain ⟨A, c, rfl, hs⟩ := own_src h
  refine ⟨A, c, by rw [hn], hn, fun j p hj => ?_⟩
  have hjl : j < ps.length := (List.getElem?_eq_some_iff.1 hj).1
  obtain ⟨ad, rfl, hc⟩ := hs (by omega)
  obtain ⟨h1, h2⟩ := h
  rcases h2 with ⟨h0, _⟩ | ⟨g, cap, cur, hv, hg, hh, h3, h4, h5, h6⟩
  · cases h0
  · simp only [Value.slice.injEq, Option.some.injEq] at hv
    obtain ⟨rfl, _⟩ := hv
    obtain ⟨e1, e2⟩ := pCells_at ps j p hj
    have a1 := hc _ _ e1
    have a2 := hc _ _ e2
    rw [add_plain] at a1 a2
    exact ⟨g, 0, rfl, by simpa using a1, by simpa [Nat.add_assoc] using a2⟩
theorem kn_cut (l : List Ins) : ∀ j : Nat, (∀ y ∈ l.take j, stops y.op = false) → knL l = ((l.take j).all knI && knL (l.drop j)) ∧ coL l = ((l.take j).map coI).sum + coL (l.drop j) := by
  induction l with
  | nil => intro j _; simp [knL, coL]
  | cons x l ih =>
    intro j h
    cases j with
    | zero => simp
    | succ j =>
      have hx := h x (by simp)
      obtain ⟨h1, h2⟩ := ih j (fun y hy => h y (by simp [hy]))
      constructor
      · rw [knL, hx, h1]; simp [Bool.and_assoc]
      · rw [coL, hx, h2]; simp; omega
theorem psOf_all (l : List Ins) : (psOf l).all (·.2) = l.all knI := by
  induction l with
  | nil => rfl
  | cons x l ih => simp only [psOf, List.map_cons, List.all_cons] at *; rw [ih]
theorem psOf_nn (l : List Ins) : ∀ p ∈ psOf l, 0 ≤ p.1 := by
  intro p hp
  simp only [psOf, List.mem_map] at hp
  obtain ⟨x, _, rfl⟩ := hp
  simp only
  split <;> omega
theorem psOf_sum (l : List Ins) (h : l.all knI = true) : sumN (psOf l) = ((l.map coI).sum : Nat) := by
  induction l with
  | nil => rfl
  | cons x l ih =>
    simp only [List.all_cons, Bool.and_eq_true] at h
    have := ih h.2
    simp only [psOf, sumN, List.map_cons, List.sum_cons, h.1, if_true] at *
    omega
theorem psOf_le (l : List Ins) : sumN (psOf l) ≤ (bkL l : Int) := by
  induction l with
  | nil => simp [psOf, sumN, bkL]
  | cons x l ih =>
    have := coI_bk x
    rw [bkL]
    simp only [psOf, sumN, List.map_cons, List.sum_cons] at *
    split <;> omega
theorem psOf_stop {l : List Ins} {j : Nat} {x : Ins} (h : l[j]? = some x) (hn : ∀ y ∈ l.take j, stops y.op = false) (hx : stops x.op = true) : (l.take (j + 1)).all knI = knL l ∧ (((l.take (j + 1)).map coI).sum = coL l) := by
  obtain ⟨h1, h2⟩ := kn_cut l j hn
  obtain ⟨hj, hxe⟩ := List.getElem?_eq_some_iff.1 h
  have hd : l.drop j = x :: l.drop (j + 1) := by rw [List.drop_eq_getElem_cons hj, hxe]
  rw [h1, h2, hd, knL, coL, hx, List.take_add_one, h]
  simp
theorem psOf_end {l : List Ins} (hn : ∀ y ∈ l, stops y.op = false) : l.all knI = knL l ∧ (l.map coI).sum = coL l := by
  obtain ⟨h1, h2⟩ := kn_cut l l.length (by rw [List.take_length]; exact hn)
  rw [List.take_length, List.drop_length] at h1 h2
  rw [h1, h2]
  simp [knL, coL]
end Go.Proofs.YtfndlpfceokloaaB
namespace Go.Proofs.Ytfndlpfceokloaa
open Go.RowKit YtfndlpfceokloaaB Go.Proofs.YtfndlpfceokloaaW.PrintWords
theorem infoC : (Try.prog.info? 176).map (fun i => (i.zero, i.size, i.bytes)) = some (some (.agg #[.int .u64 0, .bool false]), 2, 16) := by kernel_rfl
set_option maxRecDepth 100000 in
set_option maxHeartbeats 40000000 in
theorem of_any : ∀ (n : Nat) (l : List Ins), bkL l ≤ n → n ≤ 1048576 → ∀ (w : World) (A : Option Addr) (c : Nat), kI.C w A l.length l → Calls Try.prog 69 #[.slice A l.length c] w (OfPost w l) := by
  intro n
  induction n using Nat.strongRecOn with
  | ind n ih =>
  intro l hbk hn w A c hC
  have hlen := bkL_len l
  have IH := Lib.hid ih
  clear ih
  go_enter Try.func69, Try.ntmps69
  go_wp2_with fail
  go_loopw [3, 8] (fun v k wr => ∃ j : Nat, j ≤ l.length ∧ k = .int .i64 j ∧ wr.ownsRow (w.heap.size + 1) 176 2 v j (pCells (psOf (l.take j))) ∧ Hid (∀ y ∈ l.take j, stops y.op = false) ∧ Blk wr w.heap.size #[.int .u64 0, .bool false] 176 ∧ Below w.heap.size w wr) (fun _ k _ => l.length - (intOf k).toNat)
  case atStart => exact ⟨0, Nat.zero_le _, rfl, own_nil _ _ _ _, by intro y hy; simp at hy, Blk.new _ _ _, (Below.refl _ _).alloc (Nat.le_refl _) _⟩
  case round =>
    obtain ⟨j, hj, rfl, hown, hns, hR, hB⟩ := hrel
    have hsz := hB.size
    by_cases hlt : j < l.length
    · obtain ⟨b, o, x, cs, rfl, hx, hk, hc⟩ := C_at (Kd.C_below hC hB) (by decide) j hlt
      obtain ⟨AL, cL, AT, cT, AE, cE, rfl, g1, g2, g3, g4, g5, hL, hT, hE, l1, l2, l3⟩ := ins_openC hk
      have hz : kI.sz = 9 := rfl
      have d0 := hc 0 _ rfl
      have d1 := hc 1 _ rfl
      have d2 := hc 2 _ rfl
      have d3 := hc 3 _ rfl
      have d4 := hc 4 _ rfl
      have d5 := hc 5 _ rfl
      have d6 := hc 6 _ rfl
      have d7 := hc 7 _ rfl
      have d8 := hc 8 _ rfl
      simp only [hz, Nat.add_zero] at d0 d1 d2 d3 d4 d5 d6 d7 d8
      have hblt : b < wr.heap.size := World.block_lt_of_cell? _ _ d0
      have hbx := bkL_get hx.out
      clear hc hk hz
      have hBl : Below w.heap.size w (wr.alloc (.cells (insCells x AL AT AE cL cT cE) 160)) := hB.alloc (by omega) _
      have hTl := Lib.hid (Kd.C_below hT ((Below.refl wr.heap.size wr).alloc (Nat.le_refl _) (.cells (insCells x AL AT AE cL cT cE) 160)))
      have hEl := Lib.hid (Kd.C_below hE ((Below.refl wr.heap.size wr).alloc (Nat.le_refl _) (.cells (insCells x AL AT AE cL cT cE) 160)))
      have hOl := hown.alloc (.cells (insCells x AL AT AE cL cT cE) 160)
      have hRl := hR.alloc (.cells (insCells x AL AT AE cL cT cE) 160)
      have hW := Blk.new wr (insCells x AL AT AE cL cT cE) 160
      have hsW : (wr.alloc (.cells (insCells x AL AT AE cL cT cE) 160)).heap.size = wr.heap.size + 1 := World.size_alloc _ _
      have hvb := Lib.hid (show ∀ k, u3.ownBlock = some k → w.heap.size + 1 ≤ k ∧ k < wr.heap.size from fun k hk => own_block hown hk)
      go_wp2_with fail
      simp only [insCells] at hW hBl hTl hEl hOl hRl hsW
      generalize hWe : wr.alloc (.cells #[.int .i64 x.op, .int .u8 x.ty, .int .u32 x.a, .int .u32 x.b, .int .u64 x.bits, .slice AL x.list.length cL, .slice AT x.th.length cT, .slice AE x.el.length cE, .bool x.has] 160) = W at *
      clear hWe hown hL hT hE hR
      refine (one_any x (by omega) (fun l' hl' w' A' c' hC' => IH.out (bkL l') (by omega) l' (Nat.le_refl _) (by omega) w' A' c' hC') _ AL AT AE cL cT cE hTl.out hEl.out).mono ?_
      rintro e1 W1 ⟨n1, rfl, hn1, hB1⟩
      have hs1 := hB1.size
      have hO1 := pw_own_below hOl hB1
      have hR1 := hRl.below hB1 hRl.lt
      have hW1 := hW.below hB1 hW.lt
      have hBw1 := hBl.trans (hB1.mono hBl.size)
      clear hTl hEl hOl hRl hW hBl hB1
      have hN := Blk.new W1 #[.int .u64 n1, .bool (knI x)] 176
      have HSRC := Lib.hid (show ∀ jj u, [Value.int .u64 n1, .bool (knI x)][jj]? = some u → (W1.alloc (.cells #[.int .u64 n1, .bool (knI x)] 176)).cell? ((⟨W1.heap.size, 0, none⟩ : Addr).add jj) = some u from fun jj u hu => by rw [add_plain, hN.cell]; simpa using hu)
      obtain ⟨op, hop⟩ : ∃ op, op = x.op := ⟨_, rfl⟩
      have HW := Lib.hid (show ∀ w1, (W1.alloc (.cells #[.int .u64 n1, .bool (knI x)] 176)).grownBy w1 u3.ownBlock → w1.cell? ⟨wr.heap.size, 0, none⟩ = some (.int .i64 op) ∧ Blk w1 w.heap.size #[.int .u64 0, .bool false] 176 ∧ Below w.heap.size w w1 from fun w1 hg => by
        have hne : ∀ k, k < wr.heap.size + 1 → (k = w.heap.size ∨ k = wr.heap.size) → some k ≠ u3.ownBlock := fun k hk hkk e => by
          have := hvb.out k e.symm
          omega
        refine ⟨?_, (hR1.alloc _).grown hg (hne _ (by omega) (.inl rfl)), (hBw1.alloc hBw1.size _).grown hg (by simp; have := hBw1.size; omega) (fun k hk => by have := hvb.out k hk; omega)⟩
        rw [((hW1.alloc _).grown hg (hne _ (by omega) (.inr rfl))).cell, hop]; rfl)
      by_cases hst : stops op = true
      · have hop4 : op = 0 ∨ op = 12 ∨ op = 14 ∨ op = 15 := by simpa [stops, or_assoc] using hst
        obtain ⟨y1, y2⟩ := psOf_stop hx.out hns.out (by rw [← hop]; exact hst)
        have HE := Lib.hid (show pCells (psOf (l.take j)) ++ [.int .u64 n1, .bool (knI x)] = pCells (psOf (l.take (j + 1))) from by rw [psOf_take hx.out, ← hn1.out]; simp [pCells])
        have Y1 := Lib.hid y1
        have Y2 := Lib.hid y2
        have HOP := Lib.hid hop
        clear hst y1 y2 hop
        rcases hop4 with rfl | rfl | rfl | rfl
        all_goals
          go_wp2_with (go_wp2_with (refine wpList_append_src (w.heap.size + 1) rfl (.tmp 12) (.tmp 15) 240 176 (.agg #[.int .u64 0, .bool false]) 2 16 rfl Try.underlying240 infoC rfl (by decide) (by decide) u3 j (pCells (psOf (l.take j))) [.int .u64 n1, .bool (knI x)] (some ⟨W1.heap.size, 0, none⟩) 1 1 rfl rfl (hO1.alloc _) rfl (fun _ => ⟨_, rfl, HSRC.out⟩) (by simp [Value.oneCell']) (by simp; have := hR1.lt; omega) (by omega) ?_; intro v1 w1 hown1 hg1 hat1; obtain ⟨q0, hR2, hB2⟩ := HW.out w1 hg1; clear hg1 hat1); rw [HE.out] at hown1; obtain ⟨A2, c2, rfl, hpl, hRd⟩ := own_rdP hown1)
          refine (sum_c A2 c2 (psOf (l.take (j + 1))) (knL l) (coL l) _ hRd (by rw [hpl]; omega) (psOf_nn _) ?_ ?_ ?_).mono ?_
          · have h1 := psOf_le (l.take (j + 1))
            have h2 := bkL_take l (j + 1)
            omega
          · rw [psOf_all]; exact Y1.out
          · intro hk
            rw [psOf_sum _ (by rw [Y1.out]; exact hk), Y2.out]
          rintro e2 W2 ⟨n2, rfl, hn2, hB3⟩
          have hR3 := hR2.below hB3 hR2.lt
          have hB4 := hB2.trans (hB3.mono hB2.size)
          have r0 : W2.cell? ⟨w.heap.size, 0, none⟩ = some (.int .u64 0) := by rw [hR3.cell]; rfl
          have r1 : W2.cell? ⟨w.heap.size, 1, none⟩ = some (.bool false) := by rw [hR3.cell]; rfl
          have r0f := hR3.frozen 0
          have r1f := hR3.frozen 1
          go_wp2_with fail
          exact bodyPost_ret (v := .agg #[.int .u64 n2, .bool (knL l)]) (by simp [results, Try.results69, go_sem, r0, r1]) rfl ⟨_, rfl, hn2, by (repeat (first | exact hB4 | refine Below.setCell ?_ (by first | (simp; done) | (simp; omega)) _ | refine Below.alloc ?_ (by first | (simp; done) | (simp [World.setCell]; omega)) _))⟩
      · have HNS := Lib.hid (take_all_succ hns.out hx.out (show stops x.op = false from by rw [← hop]; simpa using hst))
        have HE := Lib.hid (show pCells (psOf (l.take j)) ++ [.int .u64 n1, .bool (knI x)] = pCells (psOf (l.take (j + 1))) from by rw [psOf_take hx.out, ← hn1.out]; simp [pCells])
        have k0 : (op == 0) = false := by rw [beq_eq_false_iff_ne]; exact fun h => hst (by rw [h]; rfl)
        have k1 : (op == 12) = false := by rw [beq_eq_false_iff_ne]; exact fun h => hst (by rw [h]; rfl)
        have k2 : (op == 14) = false := by rw [beq_eq_false_iff_ne]; exact fun h => hst (by rw [h]; rfl)
        have k3 : (op == 15) = false := by rw [beq_eq_false_iff_ne]; exact fun h => hst (by rw [h]; rfl)
        clear hst hop
        go_wp2_with (go_wp2_with (refine wpList_append_src (w.heap.size + 1) rfl (.tmp 12) (.tmp 15) 240 176 (.agg #[.int .u64 0, .bool false]) 2 16 rfl Try.underlying240 infoC rfl (by decide) (by decide) u3 j (pCells (psOf (l.take j))) [.int .u64 n1, .bool (knI x)] (some ⟨W1.heap.size, 0, none⟩) 1 1 rfl rfl (hO1.alloc _) rfl (fun _ => ⟨_, rfl, HSRC.out⟩) (by simp [Value.oneCell']) (by simp; have := hR1.lt; omega) (by omega) ?_; intro v1 w1 hown1 hg1 hat1; obtain ⟨q0, hR2, hB2⟩ := HW.out w1 hg1; clear hg1 hat1); rw [HE.out] at hown1)
        go_roundw
        case rel => exact ⟨j + 1, by omega, by go_num, hown1, HNS, hR2, hB2⟩
        case measure => simp [intOf]; omega
    · obtain rfl : j = l.length := by omega
      rw [List.take_length] at hown hns
      obtain ⟨y1, y2⟩ := psOf_end hns.out
      have Y1 := Lib.hid y1
      have Y2 := Lib.hid y2
      clear y1 y2
      obtain ⟨A2, c2, rfl, hpl, hRd⟩ := own_rdP hown
      have HPL := Lib.hid hpl
      clear hpl hown
      go_wp2_with fail
      refine (sum_c A2 c2 (psOf l) (knL l) (coL l) _ hRd (by rw [HPL.out]; omega) (psOf_nn _) ?_ ?_ ?_).mono ?_
      · have h1 := psOf_le l
        omega
      · rw [psOf_all]; exact Y1.out
      · intro hk
        rw [psOf_sum _ (by rw [Y1.out]; exact hk), Y2.out]
      rintro e2 W2 ⟨n2, rfl, hn2, hB3⟩
      have hR3 := hR.below hB3 hR.lt
      have hB4 := hB.trans (hB3.mono hB.size)
      have r0 : W2.cell? ⟨w.heap.size, 0, none⟩ = some (.int .u64 0) := by rw [hR3.cell]; rfl
      have r1 : W2.cell? ⟨w.heap.size, 1, none⟩ = some (.bool false) := by rw [hR3.cell]; rfl
      have r0f := hR3.frozen 0
      have r1f := hR3.frozen 1
      go_wp2_with fail
      exact bodyPost_ret (v := .agg #[.int .u64 n2, .bool (knL l)]) (by simp [results, Try.results69, go_sem, r0, r1]) rfl ⟨_, rfl, hn2, by (repeat (first | exact hB4 | refine Below.setCell ?_ (by first | (simp; done) | (simp; omega)) _ | refine Below.alloc ?_ (by first | (simp; done) | (simp [World.setCell]; omega)) _))⟩
end Go.Proofs.Ytfndlpfceokloaa
