/- Lemmas towards this claim's statement: what the functions named here come to, each under the conditions that it states itself. -/
import Derived.Test.YtfndlpfceokloaaCost4
namespace Go.Proofs.Ytfndlpfceokloaa
open Go.RowKit YtfndlpfceokloaaB Go.Proofs.YtfndlpfceokloaaW.PrintWords
def coS (l : List Ins) : Nat := (l.map coI).sum
theorem coS_take {l : List Ins} {j : Nat} {x : Ins} (h : l[j]? = some x) : coS (l.take (j + 1)) = coS (l.take j) + coI x := by
  rw [List.take_add_one, h]
  simp [coS]
theorem C_drewN {α : Type} {d : Kd α} {w : World} {A : Option Addr} {n : Nat} {xs : List α} (h : d.C w A n xs) (m : Nat) : d.C (w.drewN m) A n xs := Kd.C_below h ⟨rfl, rfl, rfl, Nat.le_refl _, fun _ _ => rfl⟩
theorem coS_bk (l : List Ins) : coS l ≤ bkL l := by
  induction l with
  | nil => simp [coS]
  | cons x l ih =>
    have := coI_bk x
    rw [bkL]
    simp only [coS, List.map_cons, List.sum_cons] at *
    omega
set_option maxRecDepth 100000 in
set_option maxHeartbeats 40000000 in
theorem refCost_any : ∀ (n : Nat) (l : List Ins), bkL l ≤ n → n ≤ 1048576 → ∀ (w : World) (A : Option Addr) (c : Nat), kR.C w A l.length l → Calls Try.prog 33 #[.slice A l.length c] w (fun e w' => e = .returned (.int .u64 (coL l : Int)) ∧ ∃ m, w' = w.drewN m) := by
  intro n
  induction n using Nat.strongRecOn with
  | ind n ih =>
  intro l hbk hn w A c hC
  have hlen := bkL_len l
  have IH := Lib.hid ih
  clear ih
  have HC := Lib.hid hC
  clear hC
  go_enter Try.func33, Try.ntmps33
  go_wp2_with fail
  go_loopw [3, 4] (fun v k wr => ∃ j : Nat, j ≤ l.length ∧ k = .int .i64 j ∧ v = .int .u64 (coS (l.take j) : Int) ∧ Hid (∀ y ∈ l.take j, stops y.op = false) ∧ ∃ m, wr = w.drewN m) (fun _ k _ => l.length - (intOf k).toNat)
  case atStart => exact ⟨0, Nat.zero_le _, rfl, rfl, by intro y hy; simp at hy, 0, rfl⟩
  case round =>
    obtain ⟨j, hj, rfl, rfl, hns, hD⟩ := hrel
    have hCr : kR.C wr A l.length l := by obtain ⟨m, rfl⟩ := hD; exact C_drewN HC.out m
    have HD := Lib.hid hD
    clear hD
    by_cases hlt : j < l.length
    · obtain ⟨b, o, x, cs, rfl, hx, hk, hc⟩ := C_at hCr (by decide) j hlt
      obtain ⟨AL, cL, AT, cT, AE, cE, rfl, g1, g2, g3, g4, g5, hL, hT, hE, l1, l2, l3⟩ := ins_openC hk
      have hz : kR.sz = 9 := rfl
      have d0 := hc 0 _ rfl
      have d6 := hc 6 _ rfl
      have d7 := hc 7 _ rfl
      simp only [hz, Nat.add_zero] at d0 d6 d7
      have hbx := bkL_get hx.out
      have hbt := bkL_th x
      have hbe := bkL_el x
      have HT := Lib.hid hT
      have HE := Lib.hid hE
      have HST := Lib.hid (psOf_stop hx.out hns.out)
      have HNS := Lib.hid (take_all_succ hns.out hx.out)
      have HS := Lib.hid (coS_take hx.out)
      have hs1 := coS_bk (l.take (j + 1))
      have hs2 := bkL_take l (j + 1)
      rw [HS.out] at hs1
      have hct := coL_bk x.th
      have hce := coL_bk x.el
      clear hc hk hz hT hE hL g1 g2 g3 g4 g5 HC hns hx hCr
      obtain ⟨op, ty, a, bb, bits, list, th, el, has⟩ := x
      simp only [Ins.op, Ins.th, Ins.el, Ins.list] at *
      have hcI : coI (.mk op ty a bb bits list th el has) = 1 + (if op = 2 then coL th else if op = 4 then max (coL th) (coL el) else 0) := by rw [coI]
      generalize Ins.mk op ty a bb bits list th el has = x at *
      generalize coS (l.take j) = s at *
      generalize bkL (l.take (j + 1)) = s9 at *
      by_cases h2 : op = 2
      · subst h2
        have H := IH.out (bkL th) (by omega) th (Nat.le_refl _) (by omega) wr AT cT HT.out
        rw [if_pos rfl] at hcI
        rw [hcI] at hs1
        have HSS := Lib.hid (show (coS (l.take (j + 1)) : Int) = s + 1 + coL th from by rw [HS.out, hcI]; omega)
        have HN := Lib.hid (HNS.out rfl)
        clear HS hcI HST HNS
        generalize coL th = m at *
        go_wp2_with fail
        refine H.mono ?_
        rintro e w' ⟨rfl, m1, rfl⟩
        go_wp2_with fail
        go_roundw
        case rel => exact ⟨j + 1, by omega, by go_num, by rw [HSS.out], HN.out, by obtain ⟨m0, rfl⟩ := HD.out; exact ⟨m0 + m1, World.drewN_drewN _ _ _⟩⟩
        case measure => simp [intOf]; omega
      · have k2 : (op == 2) = false := by rw [beq_eq_false_iff_ne]; exact h2
        rw [if_neg h2] at hcI
        by_cases h4 : op = 4
        · subst h4
          have H := IH.out (bkL th) (by omega) th (Nat.le_refl _) (by omega) wr AT cT HT.out
          have H2 := IH.out (bkL el) (by omega) el (Nat.le_refl _) (by omega) wr AE cE HE.out
          rw [if_pos rfl] at hcI
          rw [hcI] at hs1
          have HSS := Lib.hid (show (coS (l.take (j + 1)) : Int) = s + 1 + (if coL th < coL el then (coL el : Int) else (coL th : Int)) from by rw [HS.out, hcI]; split <;> omega)
          have HN := Lib.hid (HNS.out rfl)
          clear HS hcI HST HNS k2
          clear H H2
          go_wp2_with fail
          go_quiet (first
            | (go_at_call_of 33 (Value.slice AT th.length cT); exact Calls.quiet_of (IH.out (bkL th) (by omega) th (Nat.le_refl _) (by omega) _ AT cT (C_drewN HT.out _)))
            | (go_at_call_of 33 (Value.slice AE el.length cE); exact Calls.quiet_of (IH.out (bkL el) (by omega) el (Nat.le_refl _) (by omega) _ AE cE (C_drewN HE.out _))))
          go_wp2_with fail
          go_roundw
          case rel => exact ⟨j + 1, by omega, by go_num, by rw [HSS.out], HN.out, by obtain ⟨m0, rfl⟩ := HD.out; exact ⟨m0 + nq, World.drewN_drewN _ _ _⟩⟩
          case measure => simp [intOf]; omega
        · have k4 : (op == 4) = false := by rw [beq_eq_false_iff_ne]; exact h4
          rw [if_neg h4] at hcI
          rw [hcI] at hs1
          clear hbt hbe hct hce HT HE IH
          by_cases hst : stops op = true
          · have hop4 : op = 0 ∨ op = 12 ∨ op = 14 ∨ op = 15 := by simpa [stops, or_assoc] using hst
            have HF := Lib.hid (show (coL l : Int) = s + 1 from by rw [← (HST.out hst).2]; show ((coS (l.take (j + 1)) : Nat) : Int) = _; rw [HS.out, hcI]; omega)
            clear HST HNS HS hcI hst h2 h4
            rcases hop4 with rfl | rfl | rfl | rfl
            all_goals
              go_wp2_with fail
              go_ret
              exact ⟨by rw [HF.out]; rfl, HD.out⟩
          · have HN := Lib.hid (HNS.out (by simpa using hst))
            have HSS := Lib.hid (show (coS (l.take (j + 1)) : Int) = s + 1 from by rw [HS.out, hcI]; omega)
            have q0 : (op == 0) = false := by rw [beq_eq_false_iff_ne]; exact fun h => hst (by rw [h]; rfl)
            have q1 : (op == 12) = false := by rw [beq_eq_false_iff_ne]; exact fun h => hst (by rw [h]; rfl)
            have q2 : (op == 14) = false := by rw [beq_eq_false_iff_ne]; exact fun h => hst (by rw [h]; rfl)
            have q3 : (op == 15) = false := by rw [beq_eq_false_iff_ne]; exact fun h => hst (by rw [h]; rfl)
            clear HST HNS HS hcI hst h2 h4
            go_wp2_with fail
            go_roundw
            case rel => exact ⟨j + 1, by omega, by go_num, by rw [HSS.out], HN.out, HD.out⟩
            case measure => simp [intOf]; omega
    · obtain rfl : j = l.length := by omega
      rw [List.take_length] at hns
      have HF := Lib.hid (show (coL l : Int) = coS (l.take l.length) from by rw [List.take_length, ← (psOf_end hns.out).2]; rfl)
      generalize coS (l.take l.length) = s at *
      go_wp2_with fail
      go_ret
      exact ⟨by rw [HF.out]; rfl, HD.out⟩
end Go.Proofs.Ytfndlpfceokloaa
