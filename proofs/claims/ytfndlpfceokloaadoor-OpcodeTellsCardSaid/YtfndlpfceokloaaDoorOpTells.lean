/- Lemmas towards this claim's statement: what the functions named here come to, each under the conditions that it states itself. -/
import Derived.Test.YtfndlpfceokloaaDoorRAcc
namespace Go.Proofs.YtfndlpfceokloaaDoor
open Go.RowKit Go.Shelf YtfndlpfceokloaaDoorB Go.Proofs.YtfndlpfceokloaaDoorW.PrintWords
theorem immM_f0 : ∀ k, k < 69 → (0 ≤ (immM ((k : Nat) : Int)).1 ∧ (immM ((k : Nat) : Int)).1 ≤ 12) ∧ ((immM ((k : Nat) : Int)).2 = false → (immM ((k : Nat) : Int)).1 = 0) ∧ ((immM ((k : Nat) : Int)).1 = 6 ↔ 40 ≤ ((k : Nat) : Int) ∧ ((k : Nat) : Int) ≤ 62) := by decide
theorem immM_f (op : Int) : (0 ≤ (immM op).1 ∧ (immM op).1 ≤ 12) ∧ ((immM op).2 = false → (immM op).1 = 0) ∧ ((immM op).1 = 6 ↔ 40 ≤ op ∧ op ≤ 62) := by
  by_cases h : 0 ≤ op ∧ op ≤ 68
  · have := immM_f0 op.toNat (by omega)
    rwa [show ((op.toNat : Nat) : Int) = op by omega] at this
  · have e : immM op = (0, decide (69 ≤ op ∧ op ≤ 191 ∨ 64512 ≤ op ∧ op ≤ 64519)) := by
      unfold immM
      rw [if_neg (by omega), if_neg (by omega), if_neg (by omega), if_neg (by omega), if_neg (by omega), if_neg (by omega), if_neg (by omega), if_neg (by omega), if_neg (by omega), if_neg (by omega), if_neg (by omega), if_neg (by omega), if_neg (by omega)]
    rw [e]
    exact ⟨⟨Int.le_refl _, by show (0 : Int) ≤ 12; decide⟩, fun _ => rfl, fun h => by simp at h, fun h => by omega⟩
set_option maxRecDepth 100000 in
set_option maxHeartbeats 2000000 in
theorem tells_core (mx op i : Int) (ok : Bool) (sn : ByteArray) (t n : Int) (sg st acc : Bool) (W : World) (h0 : -9223372036854775808 ≤ op) (h1 : op ≤ 9223372036854775807) (hm : W.cell? ⟨0, 0, none⟩ = some (.int .i64 mx))
    (hi : immM op = (i, ok)) (hs : nameM op = sn) (hn0 : 0 ≤ n) (hn1 : n ≤ 8) (ht0 : 0 ≤ t) (ht1 : t ≤ 127) (hacc : acc = decide (0 < n))
    (hA : ∀ X, X.cell? ⟨0, 0, none⟩ = some (.int .i64 mx) → Calls Tryd.prog 11 #[.int .i64 op] X (AccPost X t n sg st acc))
    (hR : ∀ X, Calls Tryd.prog 12 #[.int .i64 op] X (RAccPost X t n sg st)) :
    Calls Tryd.prog 3 #[.int .i64 op] W (Yes W) := by
  have hw0 : 0 < W.heap.size := World.block_lt_of_cell? _ _ hm
  have HA := Lib.hid (awake18_any mx W hm)
  obtain ⟨⟨g0, g1⟩, g2, -⟩ := immM_f op
  rw [hi] at g0 g1 g2
  simp only at g0 g1 g2
  have HI := Lib.hid (fun X => by have := Imm_all X op h0 h1; rw [hi] at this; exact this : ∀ X, Calls Tryd.prog 7 #[.int .i64 op] X (ImmPost X (i, ok)))
  have HJ := Lib.hid (fun X => by have := r18Imm X op h0 h1; rw [rImmV, hi] at this; exact this : ∀ X, Calls Tryd.prog 8 #[.int .i64 op] X fun E w' => E = .returned (.int .i64 (if ok then i else -1)) ∧ Below X.heap.size X w')
  obtain ⟨v, hv⟩ : ∃ v : Int, (if ok = true then i else -1) = v := ⟨_, rfl⟩
  rw [hv] at HJ
  have HN := Lib.hid (fun X (hX : X.cell? ⟨0, 0, none⟩ = some (.int .i64 mx)) => by rw [hs.symm]; exact Name_any mx op X hX : ∀ X, X.cell? ⟨0, 0, none⟩ = some (.int .i64 mx) → Calls Tryd.prog 9 #[.int .i64 op] X fun e W' => e = .returned (.string sn) ∧ Below X.heap.size X W')
  have HM := Lib.hid (fun X => by have := r18Name X op h0 h1; rw [hs] at this; exact this : ∀ X, Calls Tryd.prog 10 #[.int .i64 op] X (StrIs X sn))
  have HA1 := Lib.hid hA
  have HR1 := Lib.hid hR
  clear hA hR hs hi
  have HYtfndlpfceokloaaDoor := Lib.hid hacc
  clear hacc
  have HZ0 := Lib.hid hw0
  go_enter Tryd.func3, Tryd.ntmps3
  go_wp2_with fail
  refine HA.out.mono ?_
  rintro E W1 ⟨rfl, hB1⟩
  have hm1 := pw_cell_below hB1 hm
  go_wp2_with fail
  refine (HI.out _).mono ?_
  rintro E W2 ⟨rfl, hB⟩
  have hB2 := below_from hB1 hB
  clear hB1 hB
  go_wp2_with fail
  refine (HJ.out _).mono ?_
  rintro E W3 ⟨rfl, hB⟩
  have hB3 := below_from hB2 hB
  have hm3 := pw_cell_below hB3 hm
  have HB3 := Lib.hid hB3
  clear hB2 hB hB3 hm1
  cases ok
  all_goals
    first
      | (obtain rfl : i = 0 := g2 rfl
         have hv1 : v = -1 := hv.symm
         have hv0 : v < 0 := by omega
         have hv5 : max v 0 = 0 := by omega
         have hv3 : (decide (0 ≤ v)) = false := decide_eq_false (by omega)
         clear hv hv1 hv0 g0 g1)
      | (obtain rfl : i = v := hv
         have hv5 : max i 0 = i := by omega)
    clear g2
    go_wp2_with fail
    refine (HN.out _ (by exact hm3)).mono ?_
    rintro E W4 ⟨rfl, hB⟩
    have HB4 := Lib.hid (below_from HB3.out hB)
    clear hB hm3
    go_wp2_with fail
    refine (HM.out _).mono ?_
    rintro E W5 ⟨rfl, hB⟩
    have hB5 := below_from HB4.out hB
    have hm5 := pw_cell_below hB5 hm
    have HB5 := Lib.hid hB5
    clear hB hB5
    go_wp2_with fail
    refine (HA1.out _ (by exact hm5)).mono ?_
    rintro E W6 ⟨rfl, hB⟩
    have hB6 := below_from HB5.out hB
    have HB6 := Lib.hid (hB6.alloc hB6.size (.cells #[.int .u8 t, .int .i64 n, .bool sg, .bool st] 28))
    have hx := Blk.new W6 #[.int .u8 t, .int .i64 n, .bool sg, .bool st] 28
    have HZ := Lib.hid (show (W6.alloc (.cells #[.int .u8 t, .int .i64 n, .bool sg, .bool st] 28)).heap.size = W6.heap.size + 1 from World.size_alloc _ _)
    have HSZ := Lib.hid hB6.size
    have q0 := hx.cell 0
    have q1 := hx.cell 1
    have q2 := hx.cell 2
    have q3 := hx.cell 3
    clear hB hB6 hx hm5
    go_wp2_with fail
    refine (HR1.out _).mono ?_
    rintro E W7 ⟨rfl, hB⟩
    have d0 := pw_cell_below hB q0
    have d1 := pw_cell_below hB q1
    have d2 := pw_cell_below hB q2
    have d3 := pw_cell_below hB q3
    have HB7 := Lib.hid (HB6.out.trans (hB.mono (by have := HZ.out; have := HSZ.out; omega)))
    simp at d0 d1 d2 d3
    clear hB q0 q1 q2 q3
    cases acc
    all_goals
      first
        | (have hc : (decide (0 < n)) = true := HYtfndlpfceokloaaDoor.out.symm)
        | (have hc : (decide (0 < n)) = false := HYtfndlpfceokloaaDoor.out.symm)
      go_wp2_with fail
      go_ret
      exact ⟨rfl, HB7.out⟩
def aS (k : Nat) : ByteArray := rl_accesses.getD k ⟨#[]⟩
def a8 (s : ByteArray) : Bool := Lib.contains (s.extract 4 s.size).data.toList [56]
def a16 (s : ByteArray) : Bool := Lib.contains (s.extract 4 s.size).data.toList [49, 54]
def a32 (s : ByteArray) : Bool := Lib.contains (s.extract 4 s.size).data.toList [51, 50]
def aN (s : ByteArray) : Int := accN (kindV s) (a8 s) (a16 s) (a32 s)
def byteAt (s : ByteArray) (i : Nat) : Int := if h : i < s.size then ((s[i]'h).toNat : Int) else 0
def aGood (k : Nat) : Prop := (rl_accesses[k]? = some (aS k) ∧ nameM (40 + ((k : Nat) : Int)) = aS k) ∧ (5 ≤ (aS k).size ∧ (aS k).size ≤ 1000) ∧ (lSizes[k]? = some (aN (aS k)) ∧ 0 < aN (aS k) ∧ aN (aS k) ≤ 8 ∧ 0 ≤ kindV (aS k) ∧ kindV (aS k) ≤ 127) ∧
  Lib.hasSuffix (aS k).data.toList [95, 115] = ((byteAt (aS k) ((aS k).size - 1) == 115) && (byteAt (aS k) ((aS k).size - 2) == 95)) ∧ Lib.contains (aS k).data.toList [115, 116, 111, 114, 101] = (byteAt (aS k) 4 == 115)
instance (k : Nat) : Decidable (aGood k) := by unfold aGood; infer_instance
set_option maxRecDepth 100000 in
theorem aGood_all : ∀ k, k < 23 → aGood k := by decide +kernel
theorem byteAt_eq {s : ByteArray} {i : Nat} (h : i < s.size) : byteAt s i = ((s[i]'h).toNat : Int) := by rw [byteAt, dif_pos h]
theorem tells_any (mx op : Int) (W : World) (h0 : -9223372036854775808 ≤ op) (h1 : op ≤ 9223372036854775807) (hm : W.cell? ⟨0, 0, none⟩ = some (.int .i64 mx)) :
    Calls Tryd.prog 3 #[.int .i64 op] W (Yes W) := by
  obtain ⟨⟨i, ok⟩, hi⟩ : ∃ r, immM op = r := ⟨_, rfl⟩
  have h6 := (immM_f op).2.2
  by_cases h : 40 ≤ op ∧ op ≤ 62
  · obtain ⟨⟨hs, hn⟩, ⟨hl, hl2⟩, ⟨hz, hp, hp8, ht0, ht1⟩, hx, hst⟩ := aGood_all (op - 40).toNat (by omega)
    rw [show (40 : Int) + (((op - 40).toNat : Nat) : Int) = op by omega] at hn
    generalize aS (op - 40).toNat = s at *
    exact tells_core mx op i ok s (kindV s) (aN s) (Lib.hasSuffix s.data.toList [95, 115]) (Lib.contains s.data.toList [115, 116, 111, 114, 101]) true W h0 h1 hm hi hn (by omega) hp8 ht0 ht1 (decide_eq_true hp).symm
      (fun X hX => Access_yes mx op s X (kindV s) _ _ (a8 s) (a16 s) (a32 s) (h6.2 h) h0 h1 hX hn (by omega) hl2 rfl rfl rfl rfl rfl rfl)
      (fun X => by
        have := rAcc_yes op X (op - 40).toNat s (kindV s) (aN s) h.1 h.2 rfl hs rfl hz hl hl2 _ _ _ rfl rfl rfl
        rw [hx, hst, byteAt_eq (by omega), byteAt_eq (by omega), byteAt_eq (by omega)]
        exact this)
  · exact tells_core mx op i ok (nameM op) 0 0 false false false W h0 h1 hm hi rfl (by omega) (by omega) (by omega) (by omega) (by decide)
      (fun X hX => Access_no op X h0 h1 (fun e => h (h6.1 e)))
      (fun X => rAcc_no op X h0 h1 (by omega))
end Go.Proofs.YtfndlpfceokloaaDoor
