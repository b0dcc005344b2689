/- Lemmas towards this claim's statement: what the functions named here come to, each under the conditions that it states itself. -/
import Derived.Test.YtfndlpfceokloaaDoorRBy
import Derived.Test.YtfndlpfceokloaaDoorOpKinds
namespace Go.Proofs.YtfndlpfceokloaaDoor
open Go.RowKit Go.Shelf YtfndlpfceokloaaDoorB Go.Proofs.YtfndlpfceokloaaDoorW.PrintWords
set_option maxRecDepth 100000 in
theorem finds_long (mx op : Int) (s : ByteArray) (W : World) (hl : 100 < (s.size : Int)) (hm : W.cell? ⟨0, 0, none⟩ = some (.int .i64 mx)) : Calls Tryd.prog 5 #[.string s, .int .i64 op] W (Yes W) := by
  have HA := Lib.hid (awake18_any mx W hm)
  go_enter Tryd.func5, Tryd.ntmps5
  go_wp2_with fail
  refine HA.out.mono ?_
  rintro E W1 ⟨rfl, hB⟩
  have HB := Lib.hid hB
  clear hB
  go_wp2_with fail
  go_ret
  exact ⟨rfl, HB.out⟩
set_option maxRecDepth 100000 in
set_option maxHeartbeats 1000000 in
theorem finds_core (mx op x : Int) (b : Bool) (s sn : ByteArray) (W : World) (hl : (s.size : Int) ≤ 100) (hm : W.cell? ⟨0, 0, none⟩ = some (.int .i64 mx)) (hb : byM s = (x, b)) (hx0 : 0 ≤ x) (hx1 : x ≤ 70000) (hf : b = false → x = 0) (hs : nameM op = sn) (he : sn.toList.isEmpty = false → byM sn = (op, true)) :
    Calls Tryd.prog 5 #[.string s, .int .i64 op] W (Yes W) := by
  have HA := Lib.hid (awake18_any mx W hm)
  have HB := Lib.hid (fun X (hX : X.cell? ⟨0, 0, none⟩ = some (.int .i64 mx)) => by have := By_any mx s X hX; rw [hb] at this; exact this : ∀ X, X.cell? ⟨0, 0, none⟩ = some (.int .i64 mx) → Calls Tryd.prog 14 #[.string s] X fun e W' => e = .returned (.tuple #[.int .i64 x, .bool b]) ∧ Below X.heap.size X W')
  obtain ⟨v, hv⟩ : ∃ v : Int, (if b = true then x else -1) = v := ⟨_, rfl⟩
  have HR := Lib.hid (fun X => by have := rBy_any X s; unfold RByPost rBy at this; rw [hb, hv] at this; exact this : ∀ X, Calls Tryd.prog 15 #[.string s] X fun e W' => e = .returned (.int .i64 v) ∧ Below X.heap.size X W')
  have HN := Lib.hid (fun X (hX : X.cell? ⟨0, 0, none⟩ = some (.int .i64 mx)) => by rw [hs.symm]; exact Name_any mx op X hX : ∀ X, X.cell? ⟨0, 0, none⟩ = some (.int .i64 mx) → Calls Tryd.prog 9 #[.int .i64 op] X fun e W' => e = .returned (.string sn) ∧ Below X.heap.size X W')
  have HE := Lib.hid (fun (h : sn.toList.isEmpty = false) X (hX : X.cell? ⟨0, 0, none⟩ = some (.int .i64 mx)) => by have := By_any mx sn X hX; rw [he h] at this; exact this : sn.toList.isEmpty = false → ∀ X, X.cell? ⟨0, 0, none⟩ = some (.int .i64 mx) → Calls Tryd.prog 14 #[.string sn] X fun e W' => e = .returned (.tuple #[.int .i64 op, .bool true]) ∧ Below X.heap.size X W')
  clear hb hs he
  cases b
  all_goals
    first
      | (obtain rfl : x = 0 := hf rfl
         have hv1 : v = -1 := hv.symm
         have hv5 : max v 0 = 0 := by omega
         have hv3 : (decide (0 ≤ v)) = false := decide_eq_false (by omega)
         clear hv hv1 hf hx0 hx1)
      | (obtain rfl : x = v := hv
         have hv5 : max x 0 = x := by omega
         clear hf)
    go_enter Tryd.func5, Tryd.ntmps5
    go_wp2_with fail
    refine HA.out.mono ?_
    rintro E W1 ⟨rfl, hB1⟩
    have hm1 := pw_cell_below hB1 hm
    have HB1 := Lib.hid hB1
    clear hB1
    go_wp2_with fail
    refine (HB.out _ (by exact hm1)).mono ?_
    rintro E W2 ⟨rfl, hB2⟩
    have HB2 := Lib.hid (below_from HB1.out hB2)
    clear hB2 hm1
    go_wp2_with fail
    refine (HR.out _).mono ?_
    rintro E W3 ⟨rfl, hB3⟩
    have hB3' := below_from HB2.out hB3
    have hm3 := pw_cell_below hB3' hm
    have HB3 := Lib.hid hB3'
    clear hB3 hB3'
    go_wp2_with fail
    refine (HN.out _ (by exact hm3)).mono ?_
    rintro E W4 ⟨rfl, hB4⟩
    have hB4' := below_from HB3.out hB4
    have hm4 := pw_cell_below hB4' hm
    have HB4 := Lib.hid hB4'
    clear hB4 hB4' hm3
    cases hq : sn.toList.isEmpty with
    | true =>
      go_wp2_with fail
      go_ret
      exact ⟨rfl, HB4.out⟩
    | false =>
      have HE2 := Lib.hid (HE.out hq W4 hm4)
      go_wp2_with fail
      refine HE2.out.mono ?_
      rintro E W5 ⟨rfl, hB5⟩
      have HB5 := Lib.hid (below_from HB4.out hB5)
      clear hB5
      go_wp2_with fail
      go_ret
      exact ⟨rfl, HB5.out⟩
theorem byM_f (s : ByteArray) : ((byM s).2 = false → (byM s).1 = 0) ∧ (0 ≤ (byM s).1 ∧ (byM s).1 ≤ 70000) := by
  cases hf : opAll.find? (fun p => decide (p.2 = s)) with
  | none => rw [byM, hf]; exact ⟨fun _ => rfl, by show (0 : Int) ≤ 0 ∧ (0 : Int) ≤ 70000; omega⟩
  | some p =>
    have := (opFacts _ (List.mem_of_find?_eq_some hf)).2.2
    rw [byM, hf]
    exact ⟨fun h => Bool.noConfusion (show true = false from h), by show 0 ≤ p.1 ∧ p.1 ≤ 70000; omega⟩
theorem finds_any (mx op : Int) (s : ByteArray) (W : World) (hm : W.cell? ⟨0, 0, none⟩ = some (.int .i64 mx)) : Calls Tryd.prog 5 #[.string s, .int .i64 op] W (Yes W) := by
  by_cases hl : 100 < (s.size : Int)
  · exact finds_long mx op s W hl hm
  · obtain ⟨⟨x, b⟩, hb⟩ : ∃ r, byM s = r := ⟨_, rfl⟩
    have h := byM_f s
    rw [hb] at h
    exact finds_core mx op x b s (nameM op) W (by omega) hm hb h.2.1 h.2.2 h.1 rfl (fun he => byM_of_name (by
      rw [ByteArray.toList_eq] at he
      cases hz : (nameM op).size with
      | zero =>
        have h1 : (nameM op).data = #[] := Array.eq_empty_of_size_eq_zero hz
        rw [h1] at he
        cases he
      | succ n => omega) rfl)
end Go.Proofs.YtfndlpfceokloaaDoor
