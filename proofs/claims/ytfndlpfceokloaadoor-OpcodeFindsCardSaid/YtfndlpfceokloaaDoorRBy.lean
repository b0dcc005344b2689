/- Lemmas towards this claim's statement: what the functions named here come to, each under the conditions that it states itself. -/
import Derived.Test.YtfndlpfceokloaaDoorRNm3
import Derived.Test.YtfndlpfceokloaaDoorOpBy
namespace Go.Proofs.YtfndlpfceokloaaDoor
open Go.RowKit Go.Shelf YtfndlpfceokloaaDoorB Go.Proofs.YtfndlpfceokloaaDoorW.PrintWords
def rBy (s : ByteArray) : Int := if (byM s).2 = true then (byM s).1 else -1
def RByPost (W : World) (s : ByteArray) (E : Ending) (w' : World) : Prop := E = .returned (.int .i64 (rBy s)) ∧ Below W.heap.size W w'
theorem str_eq {a b : ByteArray} : (a.toList == b.toList) = decide (a = b) := by
  by_cases h : a = b
  · rw [h]; simp
  · rw [decide_eq_false h, ByteArray.toList_eq, ByteArray.toList_eq]
    exact beq_eq_false_iff_ne.2 (fun e => h (by cases a; cases b; simp_all [Array.ext_iff]))
theorem byM_nil : (byM ⟨#[]⟩).2 = false := by
  cases h : (byM ⟨#[]⟩).2 with
  | false => rfl
  | true =>
    have := (name_of_byM (x := (byM ⟨#[]⟩).1) (s := ⟨#[]⟩) (by rw [← h])).2.1
    exact absurd this (by decide)
set_option maxRecDepth 100000 in
set_option maxHeartbeats 1000000 in
theorem rBy_any (W : World) (s : ByteArray) : Calls Tryd.prog 15 #[.string s] W (RByPost W s) := by
  by_cases hs : s.size = 0
  · have he : s = ⟨#[]⟩ := by
      have h0 : s.data.size = 0 := hs
      have h1 : s.data = #[] := Array.eq_empty_of_size_eq_zero h0
      cases s; simp_all
    have HV := Lib.hid (show rBy s = -1 from by rw [rBy, he, byM_nil]; rfl)
    have hl : s.toList.isEmpty = true := by rw [he, ByteArray.toList_eq]; rfl
    clear he hs
    go_enter Tryd.func15, Tryd.ntmps15
    go_wp2_with fail
    go_ret
    exact ⟨by rw [HV.out]; rfl, Below.refl _ _⟩
  · have hl : s.toList.isEmpty = false := by
      rw [ByteArray.toList_eq]
      cases hd : s.data.toList with
      | nil => exact absurd (show s.size = 0 from (Array.length_toList (xs := s.data)).symm.trans (by rw [hd]; rfl)) hs
      | cons a l => rfl
    have HP := Lib.hid (show 0 < s.size by omega)
    clear hs
    go_enter Tryd.func15, Tryd.ntmps15
    go_wp2_with fail
    go_loopw [3] (fun i wr => ∃ j : Nat, j ≤ 192 ∧ i = .int .i64 j ∧ Hid (∀ y : Int, 0 ≤ y → y < j → nameM y ≠ s) ∧ Below W.heap.size W wr) (fun i _ => 192 - (intOf i).toNat)
    case atStart => exact ⟨0, by omega, rfl, by intro y h1 h2; omega, Below.refl _ _⟩
    case round =>
      obtain ⟨j, hj, rfl, hno, hB⟩ := hrel
      have HB := Lib.hid hB
      clear hB
      by_cases hlt : j < 192
      · have hlt2 : (j : Int) < 192 := by omega
        have HN := Lib.hid (r18Name wr (j : Int) (by omega) (by omega))
        by_cases hx : nameM (j : Int) = s
        · have HV := Lib.hid (show rBy s = (j : Int) from by rw [rBy, byM_of_name HP.out hx]; rfl)
          rw [hx] at HN
          clear hx
          go_wp2_with fail
          refine HN.out.mono ?_
          rintro E W1 ⟨rfl, hB1⟩
          have HB2 := Lib.hid (below_from HB.out hB1)
          clear hB1 HN
          go_wp2_with fail
          go_ret
          exact ⟨by rw [HV.out]; rfl, HB2.out⟩
        · have hx2 : ((nameM (j : Int)).toList == s.toList) = false := by rw [str_eq]; exact decide_eq_false hx
          have HX := Lib.hid hx
          obtain ⟨z, hz⟩ : ∃ z, nameM (j : Int) = z := ⟨_, rfl⟩
          rw [hz] at HN hx2
          clear hz
          clear hx
          go_wp2_with fail
          refine HN.out.mono ?_
          rintro E W1 ⟨rfl, hB1⟩
          have HB2 := Lib.hid (below_from HB.out hB1)
          clear hB1 HN
          go_wp2_with fail
          go_roundw
          case rel => exact ⟨j + 1, by omega, by go_num, (fun y h1 h2 => by by_cases e : y = (j : Int); (· subst e; exact HX.out); (· exact hno.out y h1 (by omega))), HB2.out⟩
          case measure => simp [intOf]; omega
      · obtain rfl : j = 192 := by omega
        have HN1 := Lib.hid hno.out
        clear hno
        go_wp2_with fail
        go_loopw [4] (fun i wr => ∃ j : Nat, 64512 ≤ j ∧ j ≤ 64520 ∧ i = .int .i64 j ∧ Hid (∀ y : Int, 64512 ≤ y → y < j → nameM y ≠ s) ∧ Below W.heap.size W wr) (fun i _ => 64520 - (intOf i).toNat)
        case atStart => exact ⟨64512, by omega, by omega, rfl, by intro y h1 h2; omega, HB.out⟩
        case round =>
          obtain ⟨j, hj0, hj, rfl, hno, hB⟩ := hrel
          have HB := Lib.hid hB
          clear hB
          by_cases hlt : j < 64520
          · have hlt2 : (j : Int) < 64520 := by omega
            have HN := Lib.hid (r18Name wr (j : Int) (by omega) (by omega))
            by_cases hx : nameM (j : Int) = s
            · have HV := Lib.hid (show rBy s = (j : Int) from by rw [rBy, byM_of_name HP.out hx]; rfl)
              rw [hx] at HN
              clear hx
              go_wp2_with fail
              refine HN.out.mono ?_
              rintro E W1 ⟨rfl, hB1⟩
              have HB2 := Lib.hid (below_from HB.out hB1)
              clear hB1 HN
              go_wp2_with fail
              go_ret
              exact ⟨by rw [HV.out]; rfl, HB2.out⟩
            · have hx2 : ((nameM (j : Int)).toList == s.toList) = false := by rw [str_eq]; exact decide_eq_false hx
              have HX := Lib.hid hx
              obtain ⟨z, hz⟩ : ∃ z, nameM (j : Int) = z := ⟨_, rfl⟩
              rw [hz] at HN hx2
              clear hz
              clear hx
              go_wp2_with fail
              refine HN.out.mono ?_
              rintro E W1 ⟨rfl, hB1⟩
              have HB2 := Lib.hid (below_from HB.out hB1)
              clear hB1 HN
              go_wp2_with fail
              go_roundw
              case rel =>
                refine ⟨_, _, _, _, _, _, _, _, _, _, _, ⟨j + 1, by omega, by omega, ?_, (fun y h1 h2 => by by_cases e : y = (j : Int); (· subst e; exact HX.out); (· exact hno.out y h1 (by omega))), HB2.out⟩, rfl⟩
                go_num
              case measure => simp [intOf]; omega
          · obtain rfl : j = 64520 := by omega
            have HV := Lib.hid (show rBy s = -1 from by
              unfold rBy
              cases hb : (byM s).2 with
              | false => rfl
              | true =>
                exfalso
                obtain ⟨hn, -, hr⟩ := name_of_byM (x := (byM s).1) (s := s) (by rw [← hb])
                rcases hr with hr | hr
                · exact HN1.out _ hr.1 (by omega) hn
                · exact hno.out _ hr.1 (by omega) hn)
            go_wp2_with fail
            go_ret
            exact ⟨by rw [HV.out]; rfl, HB.out⟩
end Go.Proofs.YtfndlpfceokloaaDoor
