/- Lemmas towards this claim's statement: what the functions named here come to, each under the conditions that it states itself. -/
import Derived.Test.YtfndlpfceokloaaCost3
namespace Go.Proofs.Ytfndlpfceokloaa
open Go.RowKit YtfndlpfceokloaaB Go.Proofs.YtfndlpfceokloaaW.PrintWords
def OfPost2 (w : World) (l : List Ins) (e : Ending) (w' : World) : Prop := ∃ n : Int, e = .returned (.tuple #[.int .u64 n, .bool (knL l)]) ∧ Hid (n = if knL l then (coL l : Int) else 0) ∧ Below w.heap.size w w'
set_option maxHeartbeats 1000000 in
theorem Of_any (l : List Ins) (hbk : bkL l ≤ 1048576) (w : World) (A : Option Addr) (c : Nat) (hC : kI.C w A l.length l) :
    Calls Try.prog 29 #[.slice A l.length c] w (OfPost2 w l) := by
  go_enter Try.func29, Try.ntmps29
  go_wp2_with fail
  refine (of_any _ l (Nat.le_refl _) hbk _ A c hC).mono ?_
  rintro e1 W1 ⟨n1, rfl, hn1, hB1⟩
  have hN := Blk.new W1 #[.int .u64 n1, .bool (knL l)] 176
  have x0 : (W1.alloc (.cells #[.int .u64 n1, .bool (knL l)] 176)).cell? ⟨W1.heap.size, 0, none⟩ = some (.int .u64 n1) := by rw [hN.cell]; rfl
  have x1 : (W1.alloc (.cells #[.int .u64 n1, .bool (knL l)] 176)).cell? ⟨W1.heap.size, 1, none⟩ = some (.bool (knL l)) := by rw [hN.cell]; rfl
  have hB2 := hB1.alloc hB1.size (.cells #[.int .u64 n1, .bool (knL l)] 176)
  go_wp2_with fail
  go_quiet (fail)
  go_wp2_with fail
  go_ret2
  exact ⟨n1, rfl, hn1, hB2.trans ⟨rfl, rfl, rfl, Nat.le_refl _, fun _ _ => rfl⟩⟩
theorem kn_at {l : List Ins} {j : Nat} {x : Ins} (h : l[j]? = some x) (hn : ∀ y ∈ l.take j, stops y.op = false) (hk : (l.take j).all knI = true) :
    (knI x = false → knL l = false) ∧ (knI x = true → stops x.op = true → knL l = true) ∧ (stops x.op = false → ∀ y ∈ l.take (j + 1), stops y.op = false) ∧ (knI x = true → (l.take (j + 1)).all knI = true) := by
  obtain ⟨h1, _⟩ := kn_cut l j hn
  obtain ⟨hj, hxe⟩ := List.getElem?_eq_some_iff.1 h
  have hd : l.drop j = x :: l.drop (j + 1) := by rw [List.drop_eq_getElem_cons hj, hxe]
  rw [hk, hd, knL] at h1
  refine ⟨fun e => by rw [h1, e]; rfl, fun e s => by rw [h1, e, s]; rfl, fun e => take_all_succ hn h e, fun e => ?_⟩
  rw [List.take_add_one, h, List.all_append, hk]
  simp [e]
set_option maxRecDepth 100000 in
set_option maxHeartbeats 40000000 in
theorem known_any : ∀ (n : Nat) (l : List Ins), bkL l ≤ n → n ≤ 1048576 → ∀ (w : World) (A : Option Addr) (c : Nat), kR.C w A l.length l → Calls Try.prog 30 #[.slice A l.length c] w (fun e w' => e = .returned (.bool (knL l)) ∧ w = w') := by
  intro n
  induction n using Nat.strongRecOn with
  | ind n ih =>
  intro l hbk hn w A c hC
  have hlen := bkL_len l
  have IH := Lib.hid ih
  clear ih
  have HC := Lib.hid hC
  clear hC
  go_enter Try.func30, Try.ntmps30
  go_wp2_with fail
  go_loop [3] (fun k => ∃ j : Nat, j ≤ l.length ∧ k = .int .i64 j ∧ Hid (∀ y ∈ l.take j, stops y.op = false) ∧ Hid ((l.take j).all knI = true)) (fun k => l.length - (intOf k).toNat)
  case atStart => exact ⟨0, Nat.zero_le _, rfl, by intro y hy; simp at hy, by show _ = _; simp⟩
  case round =>
    obtain ⟨j, hj, rfl, hns, hkn⟩ := hrel
    by_cases hlt : j < l.length
    · obtain ⟨b, o, x, cs, rfl, hx, hk, hc⟩ := C_at HC.out (by decide) j hlt
      obtain ⟨AL, cL, AT, cT, AE, cE, rfl, g1, g2, g3, g4, g5, hL, hT, hE, l1, l2, l3⟩ := ins_openC hk
      have hz : kR.sz = 9 := rfl
      have d0 := hc 0 _ rfl
      have d6 := hc 6 _ rfl
      have d7 := hc 7 _ rfl
      simp only [hz, Nat.add_zero] at d0 d6 d7
      have hbx := bkL_get hx.out
      have hbt := bkL_th x
      have hbe := bkL_el x
      have HT := Lib.hid hT
      have HE := Lib.hid hE
      obtain ⟨a1, a2, a3, a4⟩ := kn_at hx.out hns.out hkn.out
      have A1 := Lib.hid a1
      have A2 := Lib.hid a2
      have A3 := Lib.hid a3
      have A4 := Lib.hid a4
      clear hc hk hz hT hE hL g1 g2 g3 g4 g5 a1 a2 a3 a4 HC hns hkn hx
      obtain ⟨op, ty, a, bb, bits, list, th, el, has⟩ := x
      simp only [Ins.op, Ins.th, Ins.el, Ins.list] at *
      have HK := Lib.hid (show knI (.mk op ty a bb bits list th el has) = (!(op == 3 || op == 16 || op == 17) && (!(op == 2 || op == 4) || knL th) && (!(op == 4) || knL el)) from by rw [knI])
      generalize Ins.mk op ty a bb bits list th el has = x at *
      by_cases h3 : op = 3 ∨ op = 16 ∨ op = 17
      · have HF := Lib.hid (show knL l = false from A1.out (by rw [HK.out]; rcases h3 with rfl | rfl | rfl <;> rfl))
        clear A1 A2 A3 A4 HK
        rcases h3 with rfl | rfl | rfl
        all_goals
          go_wp2_with fail
          go_ret
          exact ⟨by rw [HF.out]; rfl, rfl⟩
      · have k3 : (op == 3) = false := by rw [beq_eq_false_iff_ne]; exact fun h => h3 (.inl h)
        have k16 : (op == 16) = false := by rw [beq_eq_false_iff_ne]; exact fun h => h3 (.inr (.inl h))
        have k17 : (op == 17) = false := by rw [beq_eq_false_iff_ne]; exact fun h => h3 (.inr (.inr h))
        clear h3
        by_cases h2 : op = 2
        · subst h2
          rw [show (!((2 : Int) == 3 || (2 : Int) == 16 || (2 : Int) == 17) && (!((2 : Int) == 2 || (2 : Int) == 4) || knL th) && (!((2 : Int) == 4) || knL el)) = knL th from by simp] at HK
          have H := IH.out (bkL th) (by omega) th (Nat.le_refl _) (by omega) w AT cT HT.out
          rcases hth : knL th
          · have HF := Lib.hid (show knL l = false from A1.out (by rw [HK.out, hth]))
            rw [hth] at H
            clear A1 A2 A3 A4 HK
            go_wp2_with fail
            refine H.mono ?_
            rintro e w' ⟨rfl, rfl⟩
            go_wp2_with fail
            go_ret
            exact ⟨by rw [HF.out]; rfl, rfl⟩
          · have HA := Lib.hid (A4.out (by rw [HK.out, hth]))
            have HS := Lib.hid (A3.out rfl)
            rw [hth] at H
            clear A1 A2 A3 A4 HK
            go_wp2_with fail
            refine H.mono ?_
            rintro e w' ⟨rfl, rfl⟩
            go_wp2_with fail
            go_round
            case rel => exact ⟨j + 1, by omega, by go_num, HS.out, HA.out⟩
            case measure => simp [intOf]; omega
        · have k2 : (op == 2) = false := by rw [beq_eq_false_iff_ne]; exact h2
          by_cases h4 : op = 4
          · subst h4
            rw [show (!((4 : Int) == 3 || (4 : Int) == 16 || (4 : Int) == 17) && (!((4 : Int) == 2 || (4 : Int) == 4) || knL th) && (!((4 : Int) == 4) || knL el)) = (knL th && knL el) from by simp] at HK
            have H := IH.out (bkL th) (by omega) th (Nat.le_refl _) (by omega) w AT cT HT.out
            have H2 := IH.out (bkL el) (by omega) el (Nat.le_refl _) (by omega) w AE cE HE.out
            rcases hth : knL th
            · have HF := Lib.hid (show knL l = false from A1.out (by rw [HK.out, hth]; rfl))
              rw [hth] at H
              clear A1 A2 A3 A4 HK H2
              go_wp2_with fail
              refine H.mono ?_
              rintro e w' ⟨rfl, rfl⟩
              go_wp2_with fail
              go_ret
              exact ⟨by rw [HF.out]; rfl, rfl⟩
            · rw [hth] at H
              rcases hel : knL el
              · have HF := Lib.hid (show knL l = false from A1.out (by rw [HK.out, hth, hel]; rfl))
                rw [hel] at H2
                clear A1 A2 A3 A4 HK
                go_wp2_with fail
                refine H.mono ?_
                rintro e w' ⟨rfl, rfl⟩
                go_wp2_with fail
                refine H2.mono ?_
                rintro e w' ⟨rfl, rfl⟩
                go_wp2_with fail
                go_ret
                exact ⟨by rw [HF.out]; rfl, rfl⟩
              · have HA := Lib.hid (A4.out (by rw [HK.out, hth, hel]; rfl))
                have HS := Lib.hid (A3.out rfl)
                rw [hel] at H2
                clear A1 A2 A3 A4 HK
                go_wp2_with fail
                refine H.mono ?_
                rintro e w' ⟨rfl, rfl⟩
                go_wp2_with fail
                refine H2.mono ?_
                rintro e w' ⟨rfl, rfl⟩
                go_wp2_with fail
                go_round
                case rel => exact ⟨j + 1, by omega, by go_num, HS.out, HA.out⟩
                case measure => simp [intOf]; omega
          · have k4 : (op == 4) = false := by rw [beq_eq_false_iff_ne]; exact h4
            have HK1 := HK.out
            rw [k3, k16, k17, k2, k4] at HK1
            have HK2 := Lib.hid (show knI x = true from by rw [HK1]; rfl)
            clear HK HK1
            by_cases hst : stops op = true
            · have hop4 : op = 0 ∨ op = 12 ∨ op = 14 ∨ op = 15 := by simpa [stops, or_assoc] using hst
              have HF := Lib.hid (show knL l = true from A2.out HK2.out hst)
              clear A1 A2 A3 A4 hst h2 h4
              rcases hop4 with rfl | rfl | rfl | rfl
              all_goals
                go_wp2_with fail
                go_ret
                exact ⟨by rw [HF.out]; rfl, rfl⟩
            · have HA := Lib.hid (A4.out HK2.out)
              have HS := Lib.hid (A3.out (by simpa using hst))
              have q0 : (op == 0) = false := by rw [beq_eq_false_iff_ne]; exact fun h => hst (by rw [h]; rfl)
              have q1 : (op == 12) = false := by rw [beq_eq_false_iff_ne]; exact fun h => hst (by rw [h]; rfl)
              have q2 : (op == 14) = false := by rw [beq_eq_false_iff_ne]; exact fun h => hst (by rw [h]; rfl)
              have q3 : (op == 15) = false := by rw [beq_eq_false_iff_ne]; exact fun h => hst (by rw [h]; rfl)
              clear A1 A2 A3 A4 hst h2 h4
              go_wp2_with fail
              go_round
              case rel => exact ⟨j + 1, by omega, by go_num, HS.out, HA.out⟩
              case measure => simp [intOf]; omega
    · obtain rfl : j = l.length := by omega
      rw [List.take_length] at hns hkn
      have HF := Lib.hid (show knL l = true from by rw [← (psOf_end hns.out).1]; exact hkn.out)
      go_wp2_with fail
      go_ret
      exact ⟨by rw [HF.out]; rfl, rfl⟩
end Go.Proofs.Ytfndlpfceokloaa
