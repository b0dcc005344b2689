/- Lemmas towards this claim's statement: what the functions named here come to, each under the conditions that it states itself. -/
import Derived.Test.YtfndlpfceokloaaPlain
namespace Go.Proofs.YtfndlpfceokloaaB
open Go.RowKit Go.Proofs.YtfndlpfceokloaaW.PrintWords
/-- Behind such an instruction nothing is gone on to. -/
def stops (o : Int) : Bool := o == 0 || o == 12 || o == 14 || o == 15
mutual
def knI : Ins → Bool | .mk op _ _ _ _ _ t e _ => !(op == 3 || op == 16 || op == 17) && (!(op == 2 || op == 4) || knL t) && (!(op == 4) || knL e)
def knL : List Ins → Bool | [] => true | x :: r => knI x && (stops x.op || knL r)
end
mutual
def coI : Ins → Nat | .mk op _ _ _ _ _ t e _ => 1 + (if op = 2 then coL t else if op = 4 then max (coL t) (coL e) else 0)
def coL : List Ins → Nat | [] => 0 | x :: r => coI x + (if stops x.op then 0 else coL r)
end
mutual
def moI : Ins → Nat | .mk _ _ _ _ _ l t e _ => max l.length (max (moL t) (moL e))
def moL : List Ins → Nat | [] => 0 | x :: r => max (moI x) (moL r)
end
mutual
theorem coI_bk : ∀ x : Ins, coI x ≤ bkI x
  | .mk op _ _ _ _ l t e _ => by
    have h1 := coL_bk t
    have h2 := coL_bk e
    rw [coI, bkI]
    split
    · omega
    · split <;> omega
theorem coL_bk : ∀ l : List Ins, coL l ≤ bkL l
  | [] => by simp [coL, bkL]
  | x :: r => by
    have h1 := coI_bk x
    have h2 := coL_bk r
    rw [coL, bkL]
    split <;> omega
end
mutual
theorem moI_bk : ∀ x : Ins, moI x ≤ bkI x
  | .mk op _ _ _ _ l t e _ => by
    have h1 := moL_bk t
    have h2 := moL_bk e
    rw [moI, bkI]
    omega
theorem moL_bk : ∀ l : List Ins, moL l ≤ bkL l
  | [] => by simp [moL, bkL]
  | x :: r => by
    have h1 := moI_bk x
    have h2 := moL_bk r
    rw [moL, bkL]
    omega
end
/-- A slice of costs that is read: two cells each. -/
def RdP (w : World) (A : Option Addr) (ps : List (Int × Bool)) : Prop :=
  ∀ j p, ps[j]? = some p → ∃ b o, A = some ⟨b, o, none⟩ ∧ w.cell? ⟨b, o + j * 2, none⟩ = some (.int .u64 p.1) ∧ w.cell? ⟨b, o + j * 2 + 1, none⟩ = some (.bool p.2)
theorem RdP.below {w w1 : World} {A : Option Addr} {ps : List (Int × Bool)} (h : RdP w A ps) (hb : Below w.heap.size w w1) : RdP w1 A ps := fun j p hj => by
  obtain ⟨b, o, e, h1, h2⟩ := h j p hj
  exact ⟨b, o, e, pw_cell_below hb h1, pw_cell_below hb h2⟩
def sumN (ps : List (Int × Bool)) : Int := (ps.map (·.1)).sum
def maxN (ps : List (Int × Bool)) : Int := ps.foldl (fun n p => max n p.1) 0
def costArr (k : Bool) (n : Int) : Array Value := #[.int .u64 (if k then n else 0), .bool k]
theorem sumN_take {ps : List (Int × Bool)} {j : Nat} {p : Int × Bool} (h : ps[j]? = some p) : sumN (ps.take (j + 1)) = sumN (ps.take j) + p.1 := by
  rw [List.take_add_one, h]
  simp [sumN]
theorem maxN_take {ps : List (Int × Bool)} {j : Nat} {p : Int × Bool} (h : ps[j]? = some p) : maxN (ps.take (j + 1)) = max (maxN (ps.take j)) p.1 := by
  rw [List.take_add_one, h]
  simp [maxN]
theorem sumN_nn {ps : List (Int × Bool)} (h : ∀ p ∈ ps, 0 ≤ p.1) : 0 ≤ sumN ps := by
  induction ps with
  | nil => simp [sumN]
  | cons p ps ih =>
    have h1 := h p (by simp)
    have h2 := ih (fun q hq => h q (by simp [hq]))
    simp only [sumN, List.map_cons, List.sum_cons] at *
    omega
theorem sumN_le {ps : List (Int × Bool)} (h : ∀ p ∈ ps, 0 ≤ p.1) (j : Nat) : sumN (ps.take j) ≤ sumN ps := by
  have h1 : sumN ps = sumN (ps.take j) + sumN (ps.drop j) := by
    rw [sumN, sumN, sumN, ← List.sum_append, ← List.map_append, List.take_append_drop]
  have h2 := sumN_nn (ps := ps.drop j) (fun p hp => h p (List.mem_of_mem_drop hp))
  omega
theorem maxN_foldl (ps : List (Int × Bool)) : ∀ n : Int, n ≤ ps.foldl (fun n p => max n p.1) n := by
  induction ps with
  | nil => intro n; simp
  | cons p ps ih => intro n; exact Int.le_trans (Int.le_max_left n p.1) (ih _)
theorem maxN_nn (ps : List (Int × Bool)) : 0 ≤ maxN ps := maxN_foldl ps 0
theorem maxN_foldl_le (m : Int) (ps : List (Int × Bool)) : ∀ n : Int, n ≤ m → (∀ p ∈ ps, p.1 ≤ m) → ps.foldl (fun n p => max n p.1) n ≤ m := by
  induction ps with
  | nil => intro n h _; simpa using h
  | cons p ps ih => intro n h hp; exact ih _ (Int.max_le.2 ⟨h, hp p (by simp)⟩) (fun q hq => hp q (by simp [hq]))
theorem maxN_le {ps : List (Int × Bool)} (h : ∀ p ∈ ps, p.1 ≤ 9223372036854775807) : maxN ps ≤ 9223372036854775807 := maxN_foldl_le _ ps 0 (by decide) h
end Go.Proofs.YtfndlpfceokloaaB
namespace Go.Proofs.Ytfndlpfceokloaa
open Go.RowKit YtfndlpfceokloaaB Go.Proofs.YtfndlpfceokloaaW.PrintWords
theorem none_any (w : World) : Calls Try.prog 124 #[] w fun e w' => e = .returned (.agg #[.int .u64 0, .bool false]) ∧ Below w.heap.size w w' := by
  go_enter Try.func124, Try.ntmps124
  go_wp2
  exact bodyPost_ret (v := .agg #[.int .u64 0, .bool false]) (by simp [results, Try.results124, go_sem]) rfl ⟨rfl, by (repeat (first | exact (Below.refl _ _) | refine Below.setCell ?_ (by first | (simp; done) | (simp; omega)) _ | refine Below.alloc ?_ (by first | (simp; done) | (simp [World.setCell]; omega)) _))⟩
set_option maxHeartbeats 1000000 in
theorem sum_any (A : Option Addr) (c : Nat) (ps : List (Int × Bool)) (w : World) (hr : RdP w A ps) (hl : ps.length ≤ 2097152) (hp : ∀ p ∈ ps, 0 ≤ p.1) (hs : sumN ps ≤ 9223372036854775807) :
    Calls Try.prog 102 #[.slice A ps.length c] w fun e w' => e = .returned (.agg (costArr (ps.all (·.2)) (sumN ps))) ∧ Below w.heap.size w w' := by
  have HP := Lib.hid hp
  clear hp
  go_enter Try.func102, Try.ntmps102
  go_wp2_with fail
  go_loopw [9] (fun k wr => ∃ j : Nat, j ≤ ps.length ∧ k = .int .i64 j ∧ Hid (∀ p ∈ ps.take j, p.2 = true) ∧ Blk wr (w.heap.size + 1) #[.int .u64 (sumN (ps.take j)), .bool true] 176 ∧ Blk wr w.heap.size #[.int .u64 0, .bool false] 176 ∧ Below w.heap.size w wr) (fun k _ => ps.length - (intOf k).toNat)
  case atStart => exact ⟨0, Nat.zero_le _, rfl, by intro p hp; simp at hp, by have h := Blk.new (w.alloc (.cells #[.int .u64 0, .bool false] 176)) #[.int .u64 0, .bool true] 176; rw [World.size_alloc] at h; exact h, (Blk.new _ _ _).alloc _, ((Below.refl _ _).alloc (Nat.le_refl _) _).alloc (by simp) _⟩
  case round =>
    obtain ⟨j, hj, rfl, hpos, hT, hR, hB⟩ := hrel
    have hsz := hB.size
    by_cases hlt : j < ps.length
    · obtain ⟨p, hpj⟩ : ∃ p, ps[j]? = some p := ⟨_, List.getElem?_eq_getElem hlt⟩
      obtain ⟨b, o, rfl, e1, e2⟩ := hr j p hpj
      have hblt : b < w.heap.size := World.block_lt_of_cell? _ _ e1
      have c1 := pw_cell_below hB e1
      have c2 := pw_cell_below hB e2
      clear e1 e2
      obtain ⟨n, k⟩ := p
      have HPJ := Lib.hid hpj
      have hn0 : 0 ≤ n := HP.out _ (List.mem_of_getElem? hpj)
      have hst := sumN_take hpj
      have hs1 := sumN_le HP.out (j + 1)
      have hs0 := sumN_nn (ps := ps.take j) (fun q hq => HP.out q (List.mem_of_mem_take hq))
      simp only at hst
      clear hpj
      generalize sumN (ps.take j) = s at *
      have t0 : wr.cell? ⟨w.heap.size + 1, 0, none⟩ = some (.int .u64 s) := by rw [hT.cell]; rfl
      have t0f := hT.frozen 0
      have tl := hT.lt
      have rl := hR.lt
      have r0 : wr.cell? ⟨w.heap.size, 0, none⟩ = some (.int .u64 0) := by rw [hR.cell]; rfl
      have r1 : wr.cell? ⟨w.heap.size, 1, none⟩ = some (.bool false) := by rw [hR.cell]; rfl
      have r0f := hR.frozen 0
      have r1f := hR.frozen 1
      have hBa := hB.alloc hsz (.cells #[.int .u64 n, .bool k] 176)
      have hRa := Blk.alloc hR (.cells #[.int .u64 n, .bool k] 176)
      have hTa := Blk.alloc hT (.cells #[.int .u64 n, .bool k] 176)
      rcases k
      · go_wp2_with fail
        refine (none_any _).mono ?_
        rintro e wn ⟨rfl, hBn⟩
        have hRn := hRa.below hBn (by simp; omega)
        have r0 : wn.cell? ⟨w.heap.size, 0, none⟩ = some (.int .u64 0) := by rw [hRn.cell]; rfl
        have r1 : wn.cell? ⟨w.heap.size, 1, none⟩ = some (.bool false) := by rw [hRn.cell]; rfl
        have r0f := hRn.frozen 0
        have r1f := hRn.frozen 1
        have HF := Lib.hid (show ps.all (·.2) = false from by
          rw [Bool.eq_false_iff]; intro hal
          exact absurd (List.all_eq_true.1 hal _ (List.mem_of_getElem? HPJ.out)) (by simp))
        have hBn2 := hBa.trans (hBn.mono hBa.size)
        have hnsz := hBn2.size
        go_wp2_with fail
        exact bodyPost_ret (v := .agg #[.int .u64 0, .bool false]) (by simp [results, Try.results102, go_sem, r0, r1]) rfl ⟨by rw [HF.out]; rfl, by (repeat (first | exact hBn2 | refine Below.setCell ?_ (by first | (simp; done) | (simp; omega)) _ | refine Below.alloc ?_ (by first | (simp; done) | (simp [World.setCell]; omega)) _))⟩
      · have hpos2 : Hid (∀ p ∈ ps.take (j + 1), p.2 = true) := take_all_succ hpos.out HPJ.out rfl
        have HST := Lib.hid hst
        have hsn : s + n ≤ 9223372036854775807 := by omega
        clear hst
        go_wp2_with fail
        go_roundw
        case rel =>
          refine ⟨j + 1, by omega, by go_num, hpos2, ?_, ?_, ?_⟩
          · rw [HST.out]; exact (hT.set 0 _).alloc _
          · exact (hR.set_other _ _ (by simp)).alloc _
          · exact (hB.setCell (by simp) _).alloc (by simp [World.setCell]; omega) _
        case measure => simp [intOf]; omega
    · obtain rfl : j = ps.length := by omega
      rw [List.take_length] at hT hpos
      have t0 : wr.cell? ⟨w.heap.size + 1, 0, none⟩ = some (.int .u64 (sumN ps)) := by rw [hT.cell]; rfl
      have t1 : wr.cell? ⟨w.heap.size + 1, 1, none⟩ = some (.bool true) := by rw [hT.cell]; rfl
      have r0 : wr.cell? ⟨w.heap.size, 0, none⟩ = some (.int .u64 0) := by rw [hR.cell]; rfl
      have r1 : wr.cell? ⟨w.heap.size, 1, none⟩ = some (.bool false) := by rw [hR.cell]; rfl
      have r0f := hR.frozen 0
      have r1f := hR.frozen 1
      have HF := Lib.hid (show ps.all (·.2) = true from List.all_eq_true.2 hpos.out)
      go_wp2_with fail
      exact bodyPost_ret (v := .agg #[.int .u64 (sumN ps), .bool true]) (by simp [results, Try.results102, go_sem, r0, r1]) rfl ⟨by rw [HF.out]; rfl, by (repeat (first | exact hB | refine Below.setCell ?_ (by first | (simp; done) | (simp; omega)) _ | refine Below.alloc ?_ (by first | (simp; done) | (simp [World.setCell]; omega)) _))⟩
set_option maxHeartbeats 1000000 in
theorem greater_any (A : Option Addr) (c : Nat) (ps : List (Int × Bool)) (w : World) (hr : RdP w A ps) (hl : ps.length ≤ 2097152) (hp : ∀ p ∈ ps, 0 ≤ p.1) (hs : ∀ p ∈ ps, p.1 ≤ 9223372036854775807) :
    Calls Try.prog 125 #[.slice A ps.length c] w fun e w' => e = .returned (.agg (costArr (ps.all (·.2)) (maxN ps))) ∧ Below w.heap.size w w' := by
  have HP := Lib.hid hp
  have HS := Lib.hid hs
  clear hp hs
  go_enter Try.func125, Try.ntmps125
  go_wp2_with fail
  go_loopw [9] (fun k wr => ∃ j : Nat, j ≤ ps.length ∧ k = .int .i64 j ∧ Hid (∀ p ∈ ps.take j, p.2 = true) ∧ Blk wr (w.heap.size + 1) #[.int .u64 (maxN (ps.take j)), .bool true] 176 ∧ Blk wr w.heap.size #[.int .u64 0, .bool false] 176 ∧ Below w.heap.size w wr) (fun k _ => ps.length - (intOf k).toNat)
  case atStart => exact ⟨0, Nat.zero_le _, rfl, by intro p hp; simp at hp, by have h := Blk.new (w.alloc (.cells #[.int .u64 0, .bool false] 176)) #[.int .u64 0, .bool true] 176; rw [World.size_alloc] at h; exact h, (Blk.new _ _ _).alloc _, ((Below.refl _ _).alloc (Nat.le_refl _) _).alloc (by simp) _⟩
  case round =>
    obtain ⟨j, hj, rfl, hpos, hT, hR, hB⟩ := hrel
    have hsz := hB.size
    by_cases hlt : j < ps.length
    · obtain ⟨p, hpj⟩ : ∃ p, ps[j]? = some p := ⟨_, List.getElem?_eq_getElem hlt⟩
      obtain ⟨b, o, rfl, e1, e2⟩ := hr j p hpj
      have hblt : b < w.heap.size := World.block_lt_of_cell? _ _ e1
      have c1 := pw_cell_below hB e1
      have c2 := pw_cell_below hB e2
      clear e1 e2
      obtain ⟨n, k⟩ := p
      have HPJ := Lib.hid hpj
      have hn0 : 0 ≤ n := HP.out _ (List.mem_of_getElem? hpj)
      have hst := maxN_take hpj
      have hn1 : n ≤ 9223372036854775807 := HS.out _ (List.mem_of_getElem? hpj)
      have hs1 := maxN_le (ps := ps.take j) (fun q hq => HS.out q (List.mem_of_mem_take hq))
      have hs0 := maxN_nn (ps.take j)
      simp only at hst
      clear hpj
      generalize maxN (ps.take j) = s at *
      have t0 : wr.cell? ⟨w.heap.size + 1, 0, none⟩ = some (.int .u64 s) := by rw [hT.cell]; rfl
      have t0f := hT.frozen 0
      have tl := hT.lt
      have rl := hR.lt
      have r0 : wr.cell? ⟨w.heap.size, 0, none⟩ = some (.int .u64 0) := by rw [hR.cell]; rfl
      have r1 : wr.cell? ⟨w.heap.size, 1, none⟩ = some (.bool false) := by rw [hR.cell]; rfl
      have r0f := hR.frozen 0
      have r1f := hR.frozen 1
      have hBa := hB.alloc hsz (.cells #[.int .u64 n, .bool k] 176)
      have hRa := Blk.alloc hR (.cells #[.int .u64 n, .bool k] 176)
      have hTa := Blk.alloc hT (.cells #[.int .u64 n, .bool k] 176)
      rcases k
      · go_wp2_with fail
        refine (none_any _).mono ?_
        rintro e wn ⟨rfl, hBn⟩
        have hRn := hRa.below hBn (by simp; omega)
        have r0 : wn.cell? ⟨w.heap.size, 0, none⟩ = some (.int .u64 0) := by rw [hRn.cell]; rfl
        have r1 : wn.cell? ⟨w.heap.size, 1, none⟩ = some (.bool false) := by rw [hRn.cell]; rfl
        have r0f := hRn.frozen 0
        have r1f := hRn.frozen 1
        have HF := Lib.hid (show ps.all (·.2) = false from by
          rw [Bool.eq_false_iff]; intro hal
          exact absurd (List.all_eq_true.1 hal _ (List.mem_of_getElem? HPJ.out)) (by simp))
        have hBn2 := hBa.trans (hBn.mono hBa.size)
        have hnsz := hBn2.size
        go_wp2_with fail
        exact bodyPost_ret (v := .agg #[.int .u64 0, .bool false]) (by simp [results, Try.results125, go_sem, r0, r1]) rfl ⟨by rw [HF.out]; rfl, by (repeat (first | exact hBn2 | refine Below.setCell ?_ (by first | (simp; done) | (simp; omega)) _ | refine Below.alloc ?_ (by first | (simp; done) | (simp [World.setCell]; omega)) _))⟩
      · have hpos2 : Hid (∀ p ∈ ps.take (j + 1), p.2 = true) := take_all_succ hpos.out HPJ.out rfl
        have HST := Lib.hid hst
        clear hst
        go_wp2_with fail
        go_roundw
        case rel =>
          refine ⟨j + 1, by omega, by go_num, hpos2, ?_, ?_, ?_⟩
          · rw [HST.out, show max s n = if s < n then n else s from by split <;> omega]; exact (hT.set 0 _).alloc _
          · exact (hR.set_other _ _ (by simp)).alloc _
          · exact (hB.setCell (by simp) _).alloc (by simp [World.setCell]; omega) _
        case measure => simp [intOf]; omega
    · obtain rfl : j = ps.length := by omega
      rw [List.take_length] at hT hpos
      have t0 : wr.cell? ⟨w.heap.size + 1, 0, none⟩ = some (.int .u64 (maxN ps)) := by rw [hT.cell]; rfl
      have t1 : wr.cell? ⟨w.heap.size + 1, 1, none⟩ = some (.bool true) := by rw [hT.cell]; rfl
      have r0 : wr.cell? ⟨w.heap.size, 0, none⟩ = some (.int .u64 0) := by rw [hR.cell]; rfl
      have r1 : wr.cell? ⟨w.heap.size, 1, none⟩ = some (.bool false) := by rw [hR.cell]; rfl
      have r0f := hR.frozen 0
      have r1f := hR.frozen 1
      have HF := Lib.hid (show ps.all (·.2) = true from List.all_eq_true.2 hpos.out)
      go_wp2_with fail
      exact bodyPost_ret (v := .agg #[.int .u64 (maxN ps), .bool true]) (by simp [results, Try.results125, go_sem, r0, r1]) rfl ⟨by rw [HF.out]; rfl, by (repeat (first | exact hB | refine Below.setCell ?_ (by first | (simp; done) | (simp; omega)) _ | refine Below.alloc ?_ (by first | (simp; done) | (simp [World.setCell]; omega)) _))⟩
def fewN (l : List Ins) : Nat := (l.map (fun x => 1 + x.th.length + x.el.length + x.list.length)).sum
theorem fewN_take {l : List Ins} {j : Nat} {x : Ins} (h : l[j]? = some x) : fewN (l.take (j + 1)) = fewN (l.take j) + (1 + x.th.length + x.el.length + x.list.length) := by
  rw [List.take_add_one, h]
  simp [fewN]
theorem len_bk (x : Ins) : 1 + x.th.length + x.el.length + x.list.length ≤ bkI x := by
  have h1 := bkL_len x.th
  have h2 := bkL_len x.el
  cases x
  rw [bkI]
  simp only [Ins.th, Ins.el, Ins.list] at *
  omega
theorem fewN_bk (l : List Ins) : fewN l ≤ bkL l := by
  induction l with
  | nil => simp [fewN]
  | cons x l ih =>
    have := len_bk x
    rw [bkL]
    simp only [fewN, List.map_cons, List.sum_cons] at *
    omega
theorem bkL_take (l : List Ins) (j : Nat) : bkL (l.take j) ≤ bkL l := by
  rw [bkL_sum, bkL_sum]
  conv => rhs; rw [← List.take_append_drop j l]
  rw [List.map_append, List.sum_append]
  omega
set_option maxRecDepth 100000 in
set_option maxHeartbeats 1000000 in
theorem few38_any (l : List Ins) (hbk : bkL l ≤ 1048576) (w : World) (A : Option Addr) (c : Nat) (hC : kI.C w A l.length l) :
    Calls Try.prog 27 #[.slice A l.length c] w fun e w' => e = .returned (.bool (decide (fewN l ≤ 2000))) ∧ Below w.heap.size w w' := by
  have hlen := bkL_len l
  go_enter Try.func27, Try.ntmps27
  go_wp2_with fail
  go_loopw [3, 8] (fun n k wr => ∃ j : Nat, j ≤ l.length ∧ k = .int .i64 j ∧ n = .int .i64 (fewN (l.take j) : Int) ∧ Below w.heap.size w wr) (fun _ k _ => l.length - (intOf k).toNat)
  case atStart => exact ⟨0, Nat.zero_le _, rfl, rfl, Below.refl _ _⟩
  case round =>
    obtain ⟨j, hj, rfl, rfl, hB⟩ := hrel
    have hsz := hB.size
    by_cases hlt : j < l.length
    · obtain ⟨b, o, x, cs, rfl, hx, hk, hc⟩ := C_at (Kd.C_below hC hB) (by decide) j hlt
      obtain ⟨AL, cL, AT, cT, AE, cE, rfl, g1, g2, g3, g4, g5, _, _, _, l1, l2, l3⟩ := ins_openC hk
      have hz : kI.sz = 9 := rfl
      have d0 := hc 0 _ rfl
      have d1 := hc 1 _ rfl
      have d2 := hc 2 _ rfl
      have d3 := hc 3 _ rfl
      have d4 := hc 4 _ rfl
      have d5 := hc 5 _ rfl
      have d6 := hc 6 _ rfl
      have d7 := hc 7 _ rfl
      have d8 := hc 8 _ rfl
      simp only [hz, Nat.add_zero] at d0 d1 d2 d3 d4 d5 d6 d7 d8
      have hblt : b < wr.heap.size := World.block_lt_of_cell? _ _ d0
      have HF := Lib.hid (fewN_take hx.out)
      have hb1 := fewN_bk (l.take (j + 1))
      have hb2 := bkL_take l (j + 1)
      rw [HF.out] at hb1
      have hb3 := fewN_bk (l.take j)
      clear hc hk hz
      generalize fewN (l.take j) = s at *
      generalize bkL (l.take (j + 1)) = s1 at *
      go_wp2_with fail
      go_roundw
      case rel => exact ⟨j + 1, by omega, by go_num, by rw [HF.out]; go_num, hB.alloc hsz _⟩
      case measure => simp [intOf]; omega
    · obtain rfl : j = l.length := by omega
      rw [List.take_length]
      have hb1 := fewN_bk l
      generalize hse : fewN l = s at *
      have HSE := Lib.hid hse
      clear hse
      go_wp2_with fail
      go_ret
      exact ⟨by rw [HSE.out, show decide (s ≤ 2000) = decide ((s : Int) ≤ 2000) from by congr 1; exact propext (by omega)]; rfl, hB⟩
end Go.Proofs.Ytfndlpfceokloaa
