/- Lemmas towards this claim's statement: what the functions named here come to, each under the conditions that it states itself. -/
import Derived.Test.YtfndlpfceokloaaCost5
namespace Go.Proofs.Ytfndlpfceokloaa
open Go.RowKit YtfndlpfceokloaaB Go.Proofs.YtfndlpfceokloaaW.PrintWords
theorem moL_append (l r : List Ins) : moL (l ++ r) = max (moL l) (moL r) := by
  induction l with
  | nil => simp [moL]
  | cons x l ih => rw [List.cons_append, moL, moL, ih]; omega
theorem moL_take {l : List Ins} {j : Nat} {x : Ins} (h : l[j]? = some x) : moL (l.take (j + 1)) = max (moL (l.take j)) (moI x) := by
  rw [List.take_add_one, h, moL_append]
  simp [moL]
set_option maxRecDepth 100000 in
set_option maxHeartbeats 40000000 in
theorem refMost_any : ∀ (n : Nat) (l : List Ins), bkL l ≤ n → n ≤ 1048576 → ∀ (w : World) (A : Option Addr) (c : Nat), kR.C w A l.length l → Calls Try.prog 32 #[.slice A l.length c] w (fun e w' => e = .returned (.int .i64 (moL l : Int)) ∧ ∃ m, w' = w.drewN m) := by
  intro n
  induction n using Nat.strongRecOn with
  | ind n ih =>
  intro l hbk hn w A c hC
  have hlen := bkL_len l
  have IH := Lib.hid ih
  clear ih
  have HC := Lib.hid hC
  clear hC
  go_enter Try.func32, Try.ntmps32
  go_wp2_with fail
  go_loopw [3, 4] (fun v k wr => ∃ j : Nat, j ≤ l.length ∧ k = .int .i64 j ∧ v = .int .i64 (moL (l.take j) : Int) ∧ ∃ m, wr = w.drewN m) (fun _ k _ => l.length - (intOf k).toNat)
  case atStart => exact ⟨0, Nat.zero_le _, rfl, rfl, 0, rfl⟩
  case round =>
    obtain ⟨j, hj, rfl, rfl, hD⟩ := hrel
    have hCr : kR.C wr A l.length l := by obtain ⟨m, rfl⟩ := hD; exact C_drewN HC.out m
    have HD := Lib.hid hD
    clear hD
    by_cases hlt : j < l.length
    · obtain ⟨b, o, x, cs, rfl, hx, hk, hc⟩ := C_at hCr (by decide) j hlt
      obtain ⟨AL, cL, AT, cT, AE, cE, rfl, g1, g2, g3, g4, g5, hL, hT, hE, l1, l2, l3⟩ := ins_openC hk
      have hz : kR.sz = 9 := rfl
      have d5 := hc 5 _ rfl
      have d6 := hc 6 _ rfl
      have d7 := hc 7 _ rfl
      simp only [hz, Nat.add_zero] at d5 d6 d7
      have hbx := bkL_get hx.out
      have hbt := bkL_th x
      have hbe := bkL_el x
      have HT := Lib.hid hT
      have HE := Lib.hid hE
      have HS := Lib.hid (moL_take hx.out)
      have hs1 := moL_bk (l.take j)
      have hs2 := bkL_take l j
      have hct := moL_bk x.th
      have hce := moL_bk x.el
      have hcl := bkL_list x
      clear hc hk hz hT hE hL g1 g2 g3 g4 g5 HC hx hCr
      obtain ⟨op, ty, a, bb, bits, list, th, el, has⟩ := x
      simp only [Ins.op, Ins.th, Ins.el, Ins.list] at *
      have hcI : moI (.mk op ty a bb bits list th el has) = max list.length (max (moL th) (moL el)) := by rw [moI]
      generalize Ins.mk op ty a bb bits list th el has = x at *
      rw [hcI] at HS
      clear hcI
      generalize moL (l.take j) = s at *
      generalize bkL (l.take j) = s9 at *
      generalize list.length = ll at *
      go_wp2_with fail
      go_quiet (first
        | (go_at_call_of 32 (Value.slice AT th.length cT); exact Calls.quiet_of (IH.out (bkL th) (by omega) th (Nat.le_refl _) (by omega) _ AT cT (C_drewN HT.out _)))
        | (go_at_call_of 32 (Value.slice AE el.length cE); exact Calls.quiet_of (IH.out (bkL el) (by omega) el (Nat.le_refl _) (by omega) _ AE cE (C_drewN HE.out _))))
      have HV : (if (s : Int) < (if (ll : Int) < (if moL th < moL el then (moL el : Int) else (moL th : Int)) then (if moL th < moL el then (moL el : Int) else (moL th : Int)) else (ll : Int)) then (if (ll : Int) < (if moL th < moL el then (moL el : Int) else (moL th : Int)) then (if moL th < moL el then (moL el : Int) else (moL th : Int)) else (ll : Int)) else (s : Int)) = (moL (l.take (j + 1)) : Int) := by
        rw [HS.out]
        by_cases h1 : moL th < moL el
        · simp only [h1, if_true]; split <;> split <;> omega
        · simp only [h1, if_false]; split <;> split <;> omega
      rw [HV]
      clear HV HS
      go_wp2_with fail
      go_roundw
      case rel => exact ⟨j + 1, by omega, by go_num, rfl, by obtain ⟨m0, rfl⟩ := HD.out; exact ⟨m0 + nq, World.drewN_drewN _ _ _⟩⟩
      case measure => simp [intOf]; omega
    · obtain rfl : j = l.length := by omega
      have HF := Lib.hid (show (moL l : Int) = moL (l.take l.length) from by rw [List.take_length])
      generalize moL (l.take l.length) = s at *
      go_wp2_with fail
      go_ret
      exact ⟨by rw [HF.out]; rfl, HD.out⟩
end Go.Proofs.Ytfndlpfceokloaa
