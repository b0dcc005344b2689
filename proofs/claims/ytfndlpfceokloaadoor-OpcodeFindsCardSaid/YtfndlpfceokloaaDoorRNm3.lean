/- Lemmas towards this claim's statement: what the functions named here come to, each under the conditions that it states itself. -/
import Derived.Test.YtfndlpfceokloaaDoorRNm2
import Derived.Test.YtfndlpfceokloaaDoorOpKinds
namespace Go.Proofs.YtfndlpfceokloaaDoor
open Go.RowKit Go.Shelf YtfndlpfceokloaaDoorB Go.Proofs.YtfndlpfceokloaaDoorW.PrintWords
set_option maxRecDepth 100000 in
theorem nm_ctl : ∀ k, k < 26 → ∃ s, rl_controls[k]? = some s ∧ nameM (lCodes.getD k 0) = s := by
  have h : ∀ k, k < 26 → (match rl_controls[k]? with | some s => decide (nameM (lCodes.getD k 0) = s) | none => false) = true := by decide +kernel
  intro k hk
  have := h k hk
  cases hx : rl_controls[k]? with
  | none => rw [hx] at this; cases this
  | some s => rw [hx] at this; exact ⟨s, rfl, of_decide_eq_true this⟩
set_option maxRecDepth 100000 in
theorem nm_acc : ∀ k, k < 23 → ∃ s, rl_accesses[k]? = some s ∧ nameM (40 + ((k : Nat) : Int)) = s := by
  have h : ∀ k, k < 23 → (match rl_accesses[k]? with | some s => decide (nameM (40 + ((k : Nat) : Int)) = s) | none => false) = true := by decide +kernel
  intro k hk
  have := h k hk
  cases hx : rl_accesses[k]? with
  | none => rw [hx] at this; cases this
  | some s => rw [hx] at this; exact ⟨s, rfl, of_decide_eq_true this⟩
theorem nm_rest {op : Int} (hall : ∀ y ∈ lCodes, ¬ y = op) (hm : ¬ (40 ≤ op ∧ op ≤ 62)) : nameM op = n14 op := by
  unfold n14
  by_cases h : numOp op = true
  · rw [if_pos h]
  · rw [if_neg h]
    apply nameM_none
    unfold isOp
    rw [decide_eq_false (fun hm2 => hall op hm2 rfl), decide_eq_false hm]
    simpa using h
set_option maxRecDepth 100000 in
set_option maxHeartbeats 1000000 in
theorem r18Name (W : World) (op : Int) (h0 : -9223372036854775808 ≤ op) (h1 : op ≤ 9223372036854775807) : Calls Tryd.prog 10 #[.int .i64 op] W (StrIs W (nameM op)) := by
  obtain ⟨sn, hsn⟩ : ∃ sn, nameM op = sn := ⟨_, rfl⟩
  rw [hsn]
  have HSN := Lib.hid hsn
  clear hsn
  go_enter Tryd.func10, Tryd.ntmps10
  go_wp2_with fail
  refine (codes_any _).mono ?_
  rintro E W1 ⟨⟨A, rfl, hL⟩, hB1⟩
  have HL := Lib.hid hL
  have HB1 := Lib.hid hB1
  clear hL hB1
  go_wp2_with fail
  go_loop [4] (fun k => ∃ j : Nat, j ≤ 26 ∧ k = .int .i64 j ∧ Hid (∀ y ∈ lCodes.take j, ¬ y = op)) (fun k => 26 - (intOf k).toNat)
  case atStart => exact ⟨0, by omega, rfl, by intro y hy; simp at hy⟩
  case round =>
    obtain ⟨j, hj, rfl, hno⟩ := hrel
    by_cases hlt : j < 26
    · have hlt2 : (j : Int) < 26 := by omega
      have hx : lCodes[j]? = some (lCodes.getD j 0) := by rw [List.getD_eq_getElem?_getD, List.getElem?_eq_getElem (show j < lCodes.length from hlt)]; rfl
      have HI := Lib.hid (nm_ctl j hlt)
      obtain ⟨g, rfl, hc⟩ := HL.out
      have c0 := hc j _ hx
      have HX := Lib.hid hx
      generalize lCodes.getD j 0 = x at *
      clear hc hx
      by_cases hxo : x = op
      · have hxb : (x == op) = true := by simpa using hxo
        obtain ⟨s, hs, hn⟩ := HI.out
        rw [hxo, HSN.out] at hn
        have HN := Lib.hid hn
        clear hxo hn HI
        go_wp2_with fail
        refine (rl_controls_any _).mono ?_
        rintro E W2 ⟨⟨A2, rfl, hS⟩, hB2⟩
        obtain ⟨g2, rfl, hc2⟩ := hS.at_ j s hs
        have HB2 := Lib.hid (HB1.out.trans (hB2.mono HB1.out.size))
        clear hS hB2 hs
        go_wp2_with fail
        go_ret
        rw [HN.out]
        exact ⟨rfl, HB2.out⟩
      · have hxb : (x == op) = false := by simpa using hxo
        have HN := Lib.hid (take_all_succ hno.out HX.out hxo)
        clear hxo HI
        go_wp2_with fail
        go_round
        case rel => exact ⟨j + 1, by omega, by go_num, HN⟩
        case measure => simp [intOf]; omega
    · obtain rfl : j = 26 := by omega
      have hall : ∀ y ∈ lCodes, ¬ y = op := hno.out
      by_cases hm : 40 ≤ op ∧ op ≤ 62
      · obtain ⟨hm0, hm1⟩ := hm
        obtain ⟨s, hs, hn⟩ := nm_acc (op - 40).toNat (by omega)
        rw [show (40 : Int) + (((op - 40).toNat : Nat) : Int) = op by omega, HSN.out] at hn
        have HN := Lib.hid hn
        have hw0 : 0 ≤ op - 40 := by omega
        have hw1 : op - 40 < 23 := by omega
        clear hall hn
        go_wp2_with fail
        refine (rl_accesses_any _).mono ?_
        rintro E W2 ⟨⟨A2, rfl, hS⟩, hB2⟩
        obtain ⟨g2, rfl, hc2⟩ := hS.at_ (op - 40).toNat s hs
        have HB2 := Lib.hid (HB1.out.trans (hB2.mono HB1.out.size))
        clear hS hB2 hs
        go_wp2_with fail
        go_ret
        rw [HN.out]
        exact ⟨rfl, HB2.out⟩
      · have HV := Lib.hid (HSN.out.symm.trans (nm_rest hall hm))
        have HN := Lib.hid (rN_any W1 op h0 h1)
        clear hall
        generalize n14 op = b at *
        by_cases hm0 : 40 ≤ op
        all_goals
          have hm1 : 62 < op ∨ op < 40 := by omega
          go_wp2_with fail
          refine HN.out.mono ?_
          rintro E W2 ⟨rfl, hB2⟩
          have HB2 := Lib.hid (HB1.out.trans (hB2.mono HB1.out.size))
          clear hB2
          go_wp2_with fail
          go_ret
          rw [HV.out]
          exact ⟨rfl, HB2.out⟩
theorem n14_empty (op : Int) : (n14 op).toList.isEmpty = !numOp op := by
  unfold n14
  by_cases h : numOp op = true
  · rw [if_pos h, h]
    have h2 : 69 ≤ op ∧ op ≤ 191 ∨ 64512 ≤ op ∧ op ≤ 64519 := of_decide_eq_true h
    rw [ByteArray.toList_eq]
    have := (kGood_any h2).2.1.1
    cases hd : (nameM op).data.toList with
    | nil => exact absurd (show (nameM op).size = 0 from (Array.length_toList (xs := (nameM op).data)).symm.trans (by rw [hd]; rfl)) (by omega)
    | cons a l => rfl
  · rw [if_neg h]
    have : numOp op = false := by simpa using h
    rw [this, ByteArray.toList_eq]; rfl
set_option maxRecDepth 100000 in
set_option maxHeartbeats 1000000 in
theorem r18Imm (W : World) (op : Int) (h0 : -9223372036854775808 ≤ op) (h1 : op ≤ 9223372036854775807) : Calls Tryd.prog 8 #[.int .i64 op] W fun E w' => E = .returned (.int .i64 (rImmV op)) ∧ Below W.heap.size W w' := by
  go_enter Tryd.func8, Tryd.ntmps8
  go_wp2_with fail
  refine (codes_any _).mono ?_
  rintro E W1 ⟨⟨A, rfl, hL⟩, hB1⟩
  have HL := Lib.hid hL
  have HB1 := Lib.hid hB1
  clear hL hB1
  go_wp2_with fail
  go_loop [4] (fun k => ∃ j : Nat, j ≤ 26 ∧ k = .int .i64 j ∧ Hid (∀ y ∈ lCodes.take j, ¬ y = op)) (fun k => 26 - (intOf k).toNat)
  case atStart => exact ⟨0, by omega, rfl, by intro y hy; simp at hy⟩
  case round =>
    obtain ⟨j, hj, rfl, hno⟩ := hrel
    by_cases hlt : j < 26
    · have hlt2 : (j : Int) < 26 := by omega
      have hx : lCodes[j]? = some (lCodes.getD j 0) := by rw [List.getD_eq_getElem?_getD, List.getElem?_eq_getElem (show j < lCodes.length from hlt)]; rfl
      have HI := Lib.hid (rImm_code j hlt)
      obtain ⟨g, rfl, hc⟩ := HL.out
      have c0 := hc j _ hx
      have HX := Lib.hid hx
      generalize lCodes.getD j 0 = x at *
      clear hc hx
      by_cases hxo : x = op
      · have hxb : (x == op) = true := by simpa using hxo
        rw [hxo] at HI
        clear hxo
        go_wp2_with fail
        refine (imms_any _).mono ?_
        rintro E W2 ⟨⟨A2, rfl, hL2⟩, hB2⟩
        obtain ⟨g2, rfl, hc2⟩ := hL2
        have hy : lImms[j]? = some (lImms.getD j 0) := by rw [List.getD_eq_getElem?_getD, List.getElem?_eq_getElem (show j < lImms.length from hlt)]; rfl
        have c2 := hc2 j _ hy
        have HB2 := Lib.hid (HB1.out.trans (hB2.mono HB1.out.size))
        generalize lImms.getD j 0 = y at *
        clear hc2 hy hB2
        go_wp2_with fail
        go_ret
        rw [HI.out]
        exact ⟨rfl, HB2.out⟩
      · have hxb : (x == op) = false := by simpa using hxo
        have HN := Lib.hid (take_all_succ hno.out HX.out hxo)
        clear hxo
        go_wp2_with fail
        go_round
        case rel => exact ⟨j + 1, by omega, by go_num, HN⟩
        case measure => simp [intOf]; omega
    · obtain rfl : j = 26 := by omega
      have hall : ∀ y ∈ lCodes, ¬ y = op := hno.out
      by_cases hm : 40 ≤ op ∧ op ≤ 62
      · obtain ⟨hm0, hm1⟩ := hm
        have HV := Lib.hid (show rImmV op = 6 from by
          have h' : ∀ x ∈ lCodes, ¬ op = x := fun x hx e => hall x hx e.symm
          simp only [lCodes, List.mem_cons, List.mem_nil_iff, or_false, forall_eq_or_imp, forall_eq] at h'
          unfold rImmV immM
          simp [h', hm0, hm1])
        clear hall
        go_wp2_with fail
        go_ret
        rw [HV.out]
        exact ⟨rfl, HB1.out⟩
      · have HV := Lib.hid (rImm_no op hall hm)
        have HN := Lib.hid (rN_any W1 op h0 h1)
        have hs := n14_empty op
        clear hall
        generalize numOp op = b at *
        generalize n14 op = s at *
        by_cases hm0 : 40 ≤ op
        all_goals
          have hm1 : 62 < op ∨ op < 40 := by omega
          cases b
          all_goals
            simp only [Bool.not_true, Bool.not_false] at hs
            go_wp2_with fail
            refine HN.out.mono ?_
            rintro E W2 ⟨rfl, hB2⟩
            have HB2 := Lib.hid (HB1.out.trans (hB2.mono HB1.out.size))
            clear hB2
            go_wp2_with fail
            go_ret
            rw [HV.out]
            exact ⟨rfl, HB2.out⟩
end Go.Proofs.YtfndlpfceokloaaDoor
