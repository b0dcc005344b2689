/- Lemmas towards this claim's statement: what the functions named here come to, each under the conditions that it states itself. -/
import Derived.Test.YtfndlpfceokloaaDoorRNm
namespace Go.Proofs.YtfndlpfceokloaaDoor
open Go.RowKit Go.Shelf YtfndlpfceokloaaDoorB Go.Proofs.YtfndlpfceokloaaDoorW.PrintWords
def StrIs (W : World) (s : ByteArray) (E : Ending) (w' : World) : Prop := E = .returned (.string s) ∧ Below W.heap.size W w'
def n14 (op : Int) : ByteArray := if numOp op then nameM op else ⟨#[]⟩
set_option maxRecDepth 100000 in
theorem rN_sat (W : World) (op : Int) (h0 : 64512 ≤ op) (h1 : op ≤ 64519) : Calls Tryd.prog 18 #[.int .i64 op] W (StrIs W (nameM op)) := by
  have hw0 : 0 ≤ op - 64512 := by omega
  have hw1 : op - 64512 < 8 := by omega
  obtain ⟨s, hs, hn⟩ := nm_sat (op - 64512).toNat (by omega)
  rw [show (64512 : Int) + (((op - 64512).toNat : Nat) : Int) = op by omega] at hn
  rw [hn]
  clear hn
  go_enter Tryd.func18, Tryd.ntmps18
  go_wp2_with fail
  refine (rl_sats_any _).mono ?_
  rintro E W1 ⟨⟨A, rfl, hS⟩, hB⟩
  obtain ⟨g, rfl, hc⟩ := hS.at_ (op - 64512).toNat s hs
  have HB := Lib.hid hB
  clear hS hB hs
  go_wp2_with fail
  go_ret
  exact ⟨rfl, HB.out⟩
set_option maxRecDepth 100000 in
theorem rN_none (W : World) (op : Int) (h0 : -9223372036854775808 ≤ op) (h1 : op ≤ 9223372036854775807) (h2 : op < 69 ∨ 191 < op) (h3 : op < 64512 ∨ 64519 < op) : Calls Tryd.prog 18 #[.int .i64 op] W (StrIs W ⟨#[]⟩) := by
  rcases h2 with h2 | h2
  all_goals
    rcases h3 with h3 | h3
    all_goals
      first
        | (exfalso; omega)
        | (go_enter Tryd.func18, Tryd.ntmps18
           go_wp2_with fail
           go_ret
           exact ⟨rfl, Below.refl _ _⟩)
set_option maxRecDepth 100000 in
set_option maxHeartbeats 1000000 in
theorem rN_num (W : World) (op : Int) (h0 : 69 ≤ op) (h1 : op ≤ 191) : Calls Tryd.prog 18 #[.int .i64 op] W (StrIs W (nameM op)) := by
  obtain ⟨sn, hsn⟩ : ∃ sn, nameM op = sn := ⟨_, rfl⟩
  rw [hsn]
  have HSN := Lib.hid hsn
  clear hsn
  go_enter Tryd.func18, Tryd.ntmps18
  go_wp2_with fail
  go_loopw [3, 4] (fun i g wr => ∃ j : Nat, j ≤ 9 ∧ g = .int .i64 j ∧ i = .int .i64 (op - 69 - cumG j) ∧ Hid ((cumG j : Int) ≤ op - 69) ∧ Below W.heap.size W wr) (fun _ g _ => 9 - (intOf g).toNat)
  case atStart => exact ⟨0, by omega, rfl, by simp [cumG], by show _ ≤ _; simp [cumG]; omega, Below.refl _ _⟩
  case round =>
    obtain ⟨j, hj, rfl, rfl, hcu, hB⟩ := hrel
    by_cases hlt : j < 9
    · have HG := Lib.hid (show Calls Tryd.prog 32 #[.int .i64 j] wr (fun E w' => (∃ A, E = .returned (.tuple #[.string (gF.getD j ⟨#[]⟩), .slice A (lenG j) (lenG j)]) ∧ StrL w' A (gL.getD j [])) ∧ Below wr.heap.size wr w') from groupX_any wr j (by omega))
      have HS := Lib.hid (cumG_succ j (by omega))
      have HNM := Lib.hid (nm_group j hlt)
      have hle := lenG_le j (by omega)
      obtain ⟨k, hk⟩ : ∃ k : Nat, op - 69 - cumG j = (k : Int) := ⟨(op - 69 - cumG j).toNat, by have := hcu.out; omega⟩
      have HK := Lib.hid hk
      rw [hk]
      have hk2 : (k : Int) ≤ 122 := by omega
      have HB := Lib.hid hB
      by_cases hkn : k < lenG j
      · obtain ⟨s, hs, hnm, hf1, hs1⟩ := HNM.out k hkn
        rw [show (69 : Int) + ((cumG j + k : Nat) : Int) = op by omega, HSN.out] at hnm
        have HNM2 := Lib.hid hnm
        have hkn2 : (k : Int) < (lenG j : Int) := by omega
        generalize gL.getD j [] = L at *
        generalize gF.getD j ⟨#[]⟩ = f at *
        generalize lenG j = n at *
        generalize cumG j = cu at *
        clear hk hcu HNM hnm hB
        go_wp2_with fail
        refine HG.out.mono ?_
        rintro E W1 ⟨⟨A, rfl, hS⟩, hB1⟩
        obtain ⟨gg, rfl, hc⟩ := hS.at_ k s hs
        have HB2 := Lib.hid (HB.out.trans (hB1.mono HB.out.size))
        clear hS hB1 hs HG
        go_wp2_with fail
        go_ret
        rw [HNM2.out]
        exact ⟨rfl, HB2.out⟩
      · have hkn2 : (lenG j : Int) ≤ (k : Int) := by omega
        generalize gL.getD j [] = L at *
        generalize gF.getD j ⟨#[]⟩ = f at *
        generalize lenG j = n at *
        generalize cumG j = cu at *
        clear hk hcu HNM hB
        go_wp2_with fail
        refine HG.out.mono ?_
        rintro E W1 ⟨⟨A, rfl, hS⟩, hB1⟩
        have HB2 := Lib.hid (HB.out.trans (hB1.mono HB.out.size))
        clear hS hB1 HG
        go_wp2_with fail
        go_roundw
        case rel => exact ⟨j + 1, by omega, by go_num, by rw [HS.out]; congr 1; have := HK.out; omega, by show _ ≤ _; rw [HS.out]; have := HK.out; omega, HB2.out⟩
        case measure => simp [intOf]; omega
    · exfalso
      obtain rfl : j = 9 := by omega
      have h9 : (cumG 9 : Int) = 123 := rfl
      have := hcu.out
      omega
theorem rN_any (W : World) (op : Int) (h0 : -9223372036854775808 ≤ op) (h1 : op ≤ 9223372036854775807) : Calls Tryd.prog 18 #[.int .i64 op] W (StrIs W (n14 op)) := by
  by_cases c1 : 69 ≤ op ∧ op ≤ 191
  · rw [n14, if_pos (show numOp op = true from decide_eq_true (.inl c1))]; exact rN_num W op c1.1 c1.2
  by_cases c2 : 64512 ≤ op ∧ op ≤ 64519
  · rw [n14, if_pos (show numOp op = true from decide_eq_true (.inr c2))]; exact rN_sat W op c2.1 c2.2
  rw [n14, if_neg (by rw [show numOp op = false from decide_eq_false (by omega)]; decide)]; exact rN_none W op h0 h1 (by omega) (by omega)
end Go.Proofs.YtfndlpfceokloaaDoor
