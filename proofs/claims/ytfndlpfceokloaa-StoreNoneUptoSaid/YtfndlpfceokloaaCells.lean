/- Lemmas towards this claim's statement: what the functions named here come to, each under the conditions that it states itself. -/
import Derived.Test.YtfndlpfceokloaaRows
import Derived.Test.YtfndlpfceokloaaBase
namespace Go.Proofs.Ytfndlpfceokloaa
open Go.RowKit YtfndlpfceokloaaB Go.Proofs.YtfndlpfceokloaaW.PrintWords
def tabArr (mn mx : Int) (has : Bool) (p n : Nat) : Array Value := #[.int .u32 mn, .int .u32 mx, .bool has, .slice (some ⟨p, 0, none⟩) n n, .bool true]
def plCells (l : List (Bool × Int)) : List Value := l.flatMap fun x => [.bool x.1, .int .i64 x.2]
theorem plCells_at0 (l : List (Bool × Int)) (i : Nat) (h : i < l.length) : (plCells l)[i * 2]? = some (.bool l[i].1) := by
  induction l generalizing i with
  | nil => simp at h
  | cons x l ih =>
    cases i with
    | zero => simp [plCells]
    | succ i =>
      have := ih i (by simpa using h)
      simp only [plCells, List.flatMap_cons, List.cons_append, List.nil_append] at this ⊢
      rw [show (i + 1) * 2 = i * 2 + 1 + 1 from by omega]
      simpa using this
theorem plCells_at1 (l : List (Bool × Int)) (i : Nat) (h : i < l.length) : (plCells l)[i * 2 + 1]? = some (.int .i64 l[i].2) := by
  induction l generalizing i with
  | nil => simp at h
  | cons x l ih =>
    cases i with
    | zero => simp [plCells]
    | succ i =>
      have := ih i (by simpa using h)
      simp only [plCells, List.flatMap_cons, List.cons_append, List.nil_append] at this ⊢
      rw [show (i + 1) * 2 + 1 = i * 2 + 1 + 1 + 1 from by omega]
      simpa using this
/-- A table at block g, its places at block p. -/
structure IsTab (w : World) (g p : Nat) (mn mx : Int) (has : Bool) (l : List (Bool × Int)) : Prop where
  hg : w.heap[g]? = some (.cells (tabArr mn mx has p l.length) 64 (0, 0))
  hp : w.heap[p]? = some (.cells (plCells l).toArray 167 (0, 0))
  hn : l.length ≤ 1024
theorem is_any (g p n : Nat) (mn mx : Int) (has : Bool) (w : World) (hg : w.heap[g]? = some (.cells (tabArr mn mx has p n) 64 (0, 0))) :
    Calls Try.prog 68 #[.pointer (some ⟨g, 0, none⟩)] w fun e w' => e = .returned (.bool true) ∧ w = w' := by
  have h0 : w.cell? ⟨g, 4, none⟩ = some (.bool true) := by simp [World.cell?, hg, tabArr]
  go_enter Try.func68, Try.ntmps68
  go_wp2
  go_ret
  exact ⟨rfl, rfl⟩
theorem len_any (g p n : Nat) (mn mx : Int) (has : Bool) (w : World) (hn : n ≤ 1024) (hg : w.heap[g]? = some (.cells (tabArr mn mx has p n) 64 (0, 0))) :
    Calls Try.prog 24 #[.pointer (some ⟨g, 0, none⟩)] w fun e w' => e = .returned (.int .u32 n) ∧ w = w' := by
  have h0 : w.cell? ⟨g, 4, none⟩ = some (.bool true) := by simp [World.cell?, hg, tabArr]
  have h1 : w.cell? ⟨g, 3, none⟩ = some (.slice (some ⟨p, 0, none⟩) n n) := by simp [World.cell?, hg, tabArr]
  go_enter Try.func24, Try.ntmps24
  go_wp2
  go_ret
  exact ⟨rfl, rfl⟩
def getF (l : List (Bool × Int)) (i : Int) : Int × Int :=
  if i < l.length then (match l[i.toNat]? with | some (true, f) => (f, 0) | _ => (0, 7)) else (0, 6)
set_option maxHeartbeats 400000 in
theorem get_any (g p : Nat) (mn mx : Int) (has : Bool) (l : List (Bool × Int)) (i : Int) (h0 : 0 ≤ i) (w : World) (ht : IsTab w g p mn mx has l) :
    Calls Try.prog 17 #[.pointer (some ⟨g, 0, none⟩), .int .u32 i] w fun e w' => e = .returned (.tuple #[.int .i64 (getF l i).1, .int .i64 (getF l i).2]) ∧ w = w' := by
  obtain ⟨hg, hp, hn⟩ := ht
  have c4 : w.cell? ⟨g, 4, none⟩ = some (.bool true) := by simp [World.cell?, hg, tabArr]
  have c3 : w.cell? ⟨g, 3, none⟩ = some (.slice (some ⟨p, 0, none⟩) l.length l.length) := by simp [World.cell?, hg, tabArr]
  obtain ⟨n, rfl⟩ := Int.eq_ofNat_of_zero_le h0
  by_cases hlt : n < l.length
  · have d0 : w.cell? ⟨p, n * 2, none⟩ = some (.bool l[n].1) := by simp [World.cell?, hp, plCells_at0 l n hlt]
    have d1 : w.cell? ⟨p, n * 2 + 1, none⟩ = some (.int .i64 l[n].2) := by simp [World.cell?, hp, plCells_at1 l n hlt]
    have hgl : getF l n = if l[n].1 then (l[n].2, 0) else (0, 7) := by
      unfold getF
      rw [if_pos (by omega), Int.toNat_natCast, List.getElem?_eq_getElem hlt]
      rcases l[n] with ⟨b, f⟩
      cases b <;> rfl
    rw [hgl]
    clear hgl
    generalize l[n] = x at *
    rcases x with ⟨b, f⟩
    simp only at d0 d1
    cases b
    all_goals
      go_enter Try.func17, Try.ntmps17
      go_wp2
      go_ret2
      exact ⟨rfl, rfl⟩
  · have hgl : getF l n = (0, 6) := by
      unfold getF
      rw [if_neg (by omega)]
    rw [hgl]
    clear hgl
    go_enter Try.func17, Try.ntmps17
    go_wp2
    go_ret2
    exact ⟨rfl, rfl⟩

theorem tlimits_any (g p : Nat) (mn mx : Int) (has : Bool) (l : List (Bool × Int)) (w : World) (ht : IsTab w g p mn mx has l) :
    Calls Try.prog 25 #[.pointer (some ⟨g, 0, none⟩)] w fun e w' => e = .returned (.agg #[.int .u32 mn, .int .u32 mx, .bool has]) ∧ Below w.heap.size w w' := by
  obtain ⟨hg, hp, hn⟩ := ht
  have hlt : g < w.heap.size := Blk.lt hg
  have c4 : w.cell? ⟨g, 4, none⟩ = some (.bool true) := by simp [World.cell?, hg, tabArr]
  have c0 : w.cell? ⟨g, 0, none⟩ = some (.int .u32 mn) := by simp [World.cell?, hg, tabArr]
  have c1 : w.cell? ⟨g, 1, none⟩ = some (.int .u32 mx) := by simp [World.cell?, hg, tabArr]
  have c2 : w.cell? ⟨g, 2, none⟩ = some (.bool has) := by simp [World.cell?, hg, tabArr]
  go_enter Try.func25, Try.ntmps25
  go_wp2
  exact bodyPost_ret (v := .agg #[.int .u32 mn, .int .u32 mx, .bool has]) (by simp [results, Try.results25, go_sem]) rfl ⟨rfl, (Below.refl _ _).alloc (Nat.le_refl _) _⟩
def holdsF (n : Int) (at_ m : Int) : Bool := decide (0 ≤ m ∧ m ≤ n ∧ at_ ≤ n - m)
theorem holds_any (g p : Nat) (mn mx : Int) (has : Bool) (l : List (Bool × Int)) (at_ m : Int) (h0 : 0 ≤ at_) (h1 : at_ < 18446744073709551616) (h2 : m < 9223372036854775808) (h3 : -9223372036854775808 ≤ m) (w : World) (ht : IsTab w g p mn mx has l) :
    Calls Try.prog 22 #[.pointer (some ⟨g, 0, none⟩), .int .u64 at_, .int .i64 m] w fun e w' => e = .returned (.bool (holdsF l.length at_ m)) ∧ w = w' := by
  obtain ⟨hg, hp, hn⟩ := ht
  have c4 : w.cell? ⟨g, 4, none⟩ = some (.bool true) := by simp [World.cell?, hg, tabArr]
  have c3 : w.cell? ⟨g, 3, none⟩ = some (.slice (some ⟨p, 0, none⟩) l.length l.length) := by simp [World.cell?, hg, tabArr]
  by_cases a1 : 0 ≤ m
  · by_cases a2 : m ≤ l.length
    · have e : holdsF l.length at_ m = decide (at_ ≤ l.length - m) := by
        unfold holdsF; congr 1; simp [a1, a2]
      rw [e]
      clear e
      go_enter Try.func22, Try.ntmps22
      go_wp2
      go_ret
      exact ⟨rfl, rfl⟩
    · have e : holdsF l.length at_ m = false := by
        unfold holdsF; simp; omega
      rw [e]
      clear e
      go_enter Try.func22, Try.ntmps22
      go_wp2
      go_ret
      exact ⟨rfl, rfl⟩
  · have e : holdsF l.length at_ m = false := by
      unfold holdsF; simp; omega
    rw [e]
    clear e
    go_enter Try.func22, Try.ntmps22
    go_wp2
    go_ret
    exact ⟨rfl, rfl⟩

theorem infoPlace : (Try.prog.info? 167).map (fun i => (i.zero, i.size, i.bytes)) = some (some (.agg #[.bool false, .int .i64 0]), 2, 16) := by kernel_rfl
theorem plCells_snoc (xs : List Int) {j : Nat} {x : Int} (h : xs[j]? = some x) : plCells ((xs.take (j + 1)).map fun x => (true, x)) = plCells ((xs.take j).map fun x => (true, x)) ++ [.bool true, .int .i64 x] := by
  rw [List.take_add_one, h]
  simp [plCells]
theorem plCells_length (l : List (Bool × Int)) : (plCells l).length = l.length * 2 := by
  induction l with
  | nil => rfl
  | cons x l ih => simp only [plCells, List.flatMap_cons] at ih ⊢; simp [ih]; omega
theorem plCells_one (l : List (Bool × Int)) : ∀ v ∈ plCells l, v.oneCell' = true := by
  intro v hv
  simp only [plCells, List.mem_flatMap] at hv
  obtain ⟨x, _, hx⟩ := hv
  simp at hx
  rcases hx with rfl | rfl <;> rfl
theorem plCells_append (a b : List (Bool × Int)) : plCells (a ++ b) = plCells a ++ plCells b := by simp [plCells]
theorem plCells_take (l : List (Bool × Int)) (i : Nat) : (plCells l).take (i * 2) = plCells (l.take i) := by
  induction l generalizing i with
  | nil => simp [plCells]
  | cons x l ih =>
    cases i with
    | zero => simp [plCells]
    | succ i =>
      have := ih i
      rw [show (i + 1) * 2 = i * 2 + 1 + 1 from by omega]
      simp only [plCells, List.flatMap_cons, List.cons_append, List.nil_append, List.take_succ_cons] at this ⊢
      rw [this]
theorem plCells_drop (l : List (Bool × Int)) (i : Nat) : (plCells l).drop (i * 2) = plCells (l.drop i) := by
  induction l generalizing i with
  | nil => simp [plCells]
  | cons x l ih =>
    cases i with
    | zero => simp [plCells]
    | succ i =>
      have := ih i
      rw [show (i + 1) * 2 = i * 2 + 1 + 1 from by omega]
      simp only [plCells, List.flatMap_cons, List.cons_append, List.nil_append, List.drop_succ_cons] at this ⊢
      exact this
def setOk (n i : Int) (xs : List Int) : Bool := holdsF n i xs.length && xs.all (fun x => decide (0 ≤ x))
def setL (l : List (Bool × Int)) (i : Nat) (xs : List Int) : List (Bool × Int) := l.take i ++ (xs.map (fun x => (true, x)) ++ l.drop (i + xs.length))
theorem setL_length (l : List (Bool × Int)) (i : Nat) (xs : List Int) (h : i + xs.length ≤ l.length) : (setL l i xs).length = l.length := by
  unfold setL; simp; omega
theorem splice_plCells (l : List (Bool × Int)) (i : Nat) (xs : List Int) : splice (plCells l) (i * 2) (plCells (xs.map fun x => (true, x))) = plCells (setL l i xs) := by
  unfold splice setL
  rw [plCells_append, plCells_append, plCells_take, plCells_length, List.length_map, show i * 2 + xs.length * 2 = (i + xs.length) * 2 from by omega, plCells_drop]
def SetPost (w : World) (g p : Nat) (mn mx : Int) (has : Bool) (l : List (Bool × Int)) (i : Int) (xs : List Int) (e : Ending) (w' : World) : Prop :=
  e = .returned (.bool (setOk l.length i xs)) ∧ w.grownBy w' (some p) ∧ IsTab w' g p mn mx has (if setOk l.length i xs then setL l i.toNat xs else l)
theorem setPost_no {w : World} {g p : Nat} {mn mx : Int} {has : Bool} {l : List (Bool × Int)} {i : Int} {xs : List Int} (ht : IsTab w g p mn mx has l) (h : setOk l.length i xs = false) : SetPost w g p mn mx has l i xs (.returned (.bool false)) w :=
  ⟨by rw [h], ⟨rfl, rfl, rfl, Nat.le_refl _, fun _ _ _ => rfl⟩, by rw [h]; exact ht⟩
set_option maxRecDepth 100000 in
set_option maxHeartbeats 1000000 in
theorem set_any (g p : Nat) (mn mx : Int) (has : Bool) (l : List (Bool × Int)) (i : Int) (h0 : 0 ≤ i) (hi2 : i < 4294967296) (A : Option Addr) (c : Nat) (xs : List Int) (w : World) (ht : IsTab w g p mn mx has l) (hr : RdI w .i64 A xs) :
    Calls Try.prog 16 #[.pointer (some ⟨g, 0, none⟩), .int .u32 i, .slice A xs.length c] w (SetPost w g p mn mx has l i xs) := by
  have hlen : xs.length ≤ 9223372036854775807 := by have := hr.1; omega
  obtain ⟨i, rfl⟩ := Int.eq_ofNat_of_zero_le h0
  by_cases hh : holdsF l.length i xs.length = false
  · have HP := Lib.hid (setPost_no ht (by unfold setOk; rw [hh]; rfl) : SetPost w g p mn mx has l i xs (.returned (.bool false)) w)
    go_enter Try.func16, Try.ntmps16
    go_wp2_with (go_at_call 22; refine (holds_any g p mn mx has l _ _ (by omega) (by omega) (by omega) (by omega) _ ht).mono ?_; rintro e w' ⟨rfl, rfl⟩)
    go_ret
    exact HP.out
  · replace hh : holdsF l.length i xs.length = true := by simpa using hh
    have hT := Lib.hid ht
    obtain ⟨hg, hp, hn⟩ := ht
    have hb : i + xs.length ≤ l.length := by unfold holdsF at hh; simp at hh; omega
    have hlt : g < w.heap.size := Blk.lt hg
    go_enter Try.func16, Try.ntmps16
    go_wp2_with (go_at_call 22; refine (holds_any g p mn mx has l _ _ (by omega) (by omega) (by omega) (by omega) _ hT.out).mono ?_; rintro e w' ⟨rfl, rfl⟩)
    go_loop [21] (fun k => ∃ j : Nat, j ≤ xs.length ∧ k = .int .i64 j ∧ Hid (∀ x ∈ xs.take j, 0 ≤ x)) (fun k => xs.length - (intOf k).toNat)
    case atStart => exact ⟨0, Nat.zero_le _, rfl, by intro x hx; simp at hx⟩
    case round =>
      obtain ⟨j, hj, rfl, hpos⟩ := hrel
      by_cases hlt2 : j < xs.length
      · obtain ⟨b, o, x, rfl, hc, hx⟩ := hr.get j hlt2
        by_cases hneg : x < 0
        · have HP := Lib.hid (setPost_no hT.out (by
            unfold setOk; rw [Bool.and_eq_false_iff]; right
            rw [Bool.eq_false_iff]; intro hal
            have := List.all_eq_true.1 hal x (List.mem_of_getElem? hx.out)
            simp at this; omega) : SetPost w g p mn mx has l i xs (.returned (.bool false)) w)
          go_wp2
          go_ret
          exact HP.out
        · have hpos2 : Hid (∀ x ∈ xs.take (j + 1), 0 ≤ x) := take_all_succ hpos.out hx.out (by omega)
          go_wp2
          go_round
          case rel => exact ⟨j + 1, by omega, by go_num, hpos2⟩
          case measure => simp [intOf]; omega
      · obtain rfl : j = xs.length := by omega
        have hmk := run_mk0 (P := Try.prog) 62 167 (.agg #[.bool false, .int .i64 0]) 2 16 Try.underlying62 infoPlace xs.length (by omega) (by omega)
        go_wp2_with fail
        have hrow := World.ownsRow_made (base := w.heap.size) (e := 167) (size := 2) w (madeCells #[Value.bool false, Value.int IntKind.i64 0] (xs.length * 2)) xs.length (Nat.le_refl _) (by simp only [maxLen]; omega) (size_madeCells _ _)
        go_loopw [9, 33] (fun v k wr => ∃ j : Nat, j ≤ xs.length ∧ k = .int .i64 j ∧ wr.ownsRow w.heap.size 167 2 v j (plCells ((xs.take j).map fun x => (true, x))) ∧ Below w.heap.size w wr) (fun _ k _ => xs.length - (intOf k).toNat)
        case atStart => exact ⟨0, Nat.zero_le _, rfl, by simpa [plCells] using hrow, (Below.refl _ _).alloc (Nat.le_refl _) _⟩
        case round =>
          obtain ⟨j, hj, rfl, hown, hB⟩ := hrel
          clear hrow
          by_cases hlt3 : j < xs.length
          · obtain ⟨b, o, x, rfl, hc, hx⟩ := (hr.below hB).get j hlt3
            have hsz := hB.size
            have hl : (j + 1) * 16 ≤ 140737488355328 := by have := hr.1; omega
            have hnext := Lib.hid (plCells_snoc xs hx.out)
            go_wp2_with (at_builtin; refine print_append_cells w.heap.size rfl (.tmp 37) (.tmp 40) 62 167 (.agg #[.bool false, .int .i64 0]) 2 16 rfl Try.underlying62 infoPlace rfl (by decide) (by decide) _ j _ [.bool true, .int .i64 x] rfl rfl rfl (by simp [Value.oneCell']) hown hB hsz hl ?_; intro v1 w1 hown1 hB1 hg1 hat1; clear hown hB hat1 hg1)
            go_roundw
            case rel => exact ⟨j + 1, by omega, by go_num, by rw [hnext.out]; exact hown1, hB1⟩
            case measure => simp [intOf]; omega
          · obtain rfl : j = xs.length := by omega
            rw [List.take_of_length_le (Nat.le_refl _)] at hown
            obtain ⟨A2, c2, rfl, hsrc⟩ := own_src hown
            have c3 : wr.cell? ⟨g, 3, none⟩ = some (.slice (some ⟨p, 0, none⟩) l.length l.length) := by rw [hB.cell (p := ⟨g, 3, none⟩) hlt]; simp [World.cell?, hg, tabArr]
            have HS := Lib.hid hsrc
            clear hsrc
            have HP := Lib.hid ((hB.block p (Blk.lt hp)).trans hp)
            obtain ⟨X, hX⟩ : ∃ X, X = plCells (xs.map fun x => (true, x)) := ⟨_, rfl⟩
            have HX := Lib.hid hX
            clear hX
            obtain ⟨A3, hcut, hA3⟩ := cut_lo (P := Try.prog) 62 167 .u32 2 Try.underlying62 (by kernel_rfl) (some ⟨p, 0, none⟩) l.length l.length i (by omega)
            have HA3 := Lib.hid hA3
            clear hA3
            have Hn : Hid (X.length = Nat.min xs.length (l.length - i) * 2) := by
              show _ = _
              rw [HX.out, plCells_length, List.length_map, show Nat.min xs.length (l.length - i) = xs.length from by simp only [Nat.min_def]; split <;> omega]
            have Hpos : Hid (0 < Nat.min xs.length (l.length - i) → A3 = some ⟨p, i * 2, none⟩ ∧ ∃ ad, A2 = some ad ∧ ∀ j v, X[j]? = some v → wr.cell? (ad.add j) = some v) := by
              intro h
              have h' : 0 < xs.length ∧ 0 < l.length - i := by simp only [Nat.min_def] at h; split at h <;> omega
              refine ⟨?_, ?_⟩
              · rw [HA3.out (by omega)]; simp [add_plain]
              · rw [HX.out]; exact HS.out h'.1
            have Hfit : Hid (i * 2 + X.length ≤ (plCells l).length) := by
              show _ ≤ _
              rw [HX.out, plCells_length, plCells_length, List.length_map]
              omega
            have H1 : Hid (∀ v ∈ X, v.oneCell' = true) := by rw [HX.out]; exact plCells_one _
            have HF := Lib.hid (show ∀ w2 : World, w2.heap[p]? = some (.cells (splice (plCells l) (i * 2) X).toArray 167 (0, 0)) → wr.grownBy w2 (some p) → SetPost w g p mn mx has l i xs (.returned (.bool true)) w2 from by
              intro w2 h1 h2
              have hok : setOk l.length i xs = true := by
                unfold setOk
                rw [hh, Bool.true_and, List.all_eq_true]
                intro x hx
                have := hpos.out x (by rw [List.take_of_length_le (Nat.le_refl _)]; exact hx)
                simpa using this
              have hgr : w.grownBy w2 (some p) := World.grownBy.trans (grown_below hB (some p)) h2
              refine ⟨by rw [hok], hgr, ?_⟩
              rw [hok, if_pos rfl]
              have hgp : g ≠ p := by
                rintro rfl
                rw [hg] at hp
                simp at hp
              refine ⟨?_, ?_, ?_⟩
              · rw [setL_length _ _ _ (by omega)]; exact (hgr.block g hlt (by simp [hgp])).trans hg
              · rw [h1, HX.out, splice_plCells]
                rfl
              · rw [setL_length _ _ _ (by omega)]; exact hn)
            go_wp2_with (refine wpList_copy_sz rfl (.tmp 48) (.tmp 49) 62 62 rfl 167 2 Try.underlying62 (by kernel_rfl) A3 A2 (l.length - i) (l.length - i) xs.length c2 rfl rfl p (i * 2) (plCells l) 167 HP.out X Hn.out Hpos.out Hfit.out H1.out ?_; intro w2 hp2 hg2)
            go_ret
            exact HF.out w2 hp2.out hg2
end Go.Proofs.Ytfndlpfceokloaa
