/- Lemmas towards this claim's statement: what the functions named here come to, each under the conditions that it states itself. -/
import Derived.Test.YtofaiocffifhfaaGreatMC10
namespace Go.Proofs.YtofaiocffifhfaaGreat
open Go.RowKit Go.Shelf YtofaiocffifhfaaGreatB Go.Proofs.YtofaiocffifhfaaGreatW.PrintWords
/-- A module and an error are returned. -/
def DecE (W : World) (e : Int) (E : Ending) (W' : World) : Prop :=
  Below W.heap.size W W' ∧ ∃ A0 n0 c0 A1 n1 c1 A2 n2 c2 A3 n3 c3 A4 n4 c4 A5 n5 c5 A6 n6 c6 A9 n9 c9 A10 n10 c10 st stt,
    E = .returned (.tuple #[.agg #[.slice A0 n0 c0, .slice A1 n1 c1, .slice A2 n2 c2, .slice A3 n3 c3, .slice A4 n4 c4, .slice A5 n5 c5, .slice A6 n6 c6, .bool st, .int .u32 stt, .slice A9 n9 c9, .slice A10 n10 c10], .int .i64 e])
theorem Decode_e (W : World) (A : Option Addr) (c : Nat) (B : List Int) (sat : Bool) (hR : RdI W .u8 A B) (hB : Byts B) (hle : B.length ≤ c) :
    Calls Tryz.prog 8 #[.slice A B.length c, .bool sat] W (DecE W (decM sat B).2) := by
  refine (Decode_any W A c B sat hR hB hle).mono ?_
  rintro E W' ⟨hb, v0, v1, v2, v3, v4, v5, v6, v9, v10, v11, v12, rfl, hR, h2⟩
  obtain ⟨_, _, rfl, _, _⟩ := hR.r0
  obtain ⟨_, _, rfl, _, _⟩ := hR.r1
  obtain ⟨_, _, rfl, _, _⟩ := hR.r3
  obtain ⟨_, _, rfl, _, _⟩ := hR.r4
  obtain ⟨_, _, rfl, _, _⟩ := hR.r5
  obtain ⟨_, _, rfl, _, _⟩ := hR.r6
  obtain ⟨_, _, rfl, _, _⟩ := hR.r9
  obtain ⟨_, _, rfl, _, _⟩ := hR.r10
  obtain ⟨_, _, rfl, _, _⟩ := h2
  exact ⟨hb, _, _, _, _, _, _, _, _, _, _, _, _, _, _, _, _, _, _, _, _, _, _, _, _, _, _, _, _, _, rfl⟩
set_option maxRecDepth 100000 in
set_option maxHeartbeats 2000000 in
theorem moduleCut_go (W : World) (A : Option Addr) (c : Nat) (B : List Int) (cut x : Int) (hR : RdI W .u8 A B) (hB : Byts B) (hle : B.length ≤ c) (hx : 0 ≤ x ∧ x ≤ 255) (hcut : cut ≤ 9223372036854775807) :
    Calls Tryz.prog 6 #[.slice A B.length c, .int .i64 cut, .int .u8 x] W (AwPost20 W) := by
  by_cases h6 : 6000 < B.length
  · have h7 : (6000 : Int) < B.length := by omega
    clear h6 hR hB
    go_enter Tryz.func6, Tryz.ntmps6
    go_wp2_with fail
    refine (awake20_any _).mono ?_
    rintro e1 W1 ⟨rfl, hB1⟩
    go_wp2_with fail
    go_ret
    exact ⟨rfl, hB1⟩
  · have h7 : ¬ (6000 : Int) < B.length := by omega
    by_cases h8 : cut < 0
    · clear h6 hR hB
      go_enter Tryz.func6, Tryz.ntmps6
      go_wp2_with fail
      refine (awake20_any _).mono ?_
      rintro e1 W1 ⟨rfl, hB1⟩
      go_wp2_with fail
      go_ret
      exact ⟨rfl, hB1⟩
    · obtain ⟨k, rfl⟩ := Int.eq_ofNat_of_zero_le (Int.not_lt.1 h8)
      have HR := Lib.hid hR
      have HB := Lib.hid hB
      have h9 : ¬ ((k : Int) < 0) := h8
      have HK := Lib.hid (fun h => dec_more hB true x hx.1 (Nat.le_of_not_lt h6) h)
      have hbl : B.length ≤ 6000 := Nat.le_of_not_lt h6
      have HL8 := Lib.hid (fun (h : (decM true B).2 = 0) => Nat.le_of_not_lt (fun g => by rw [dec_short true g] at h; exact absurd h (by decide)) : (decM true B).2 = 0 → 8 ≤ B.length)
      have HX := Lib.hid hx
      clear hR hB h6 h8 hx
      go_enter Tryz.func6, Tryz.ntmps6
      go_wp2_with fail
      refine (awake20_any _).mono ?_
      rintro e1 W1 ⟨rfl, hB1⟩
      have HR1 := Lib.hid (HR.out.below hB1)
      have HD1 := Lib.hid (Decode_e W1 A c B true HR1.out HB.out hle)
      have HB1 := Lib.hid hB1
      clear hB1
      generalize (decM true B).2 = e at *
      go_wp2_with fail
      refine HD1.out.mono ?_
      rintro e2 W2 ⟨hB2, A0, n0, c0, A1, n1, c1, A2, n2, c2, A3, n3, c3, A4, n4, c4, A5, n5, c5, A6, n6, c6, A9, n9, c9, A10, n10, c10, st, stt, rfl⟩
      have HB2 := Lib.hid (HB1.out.trans (hB2.mono HB1.out.size))
      have HR2 := Lib.hid (HR1.out.below hB2)
      clear hB2 HD1 HB1 HR1
      by_cases he : e = 0
      · subst he
        have HK2 := Lib.hid (HK.out rfl)
        have hb8 := HL8.out rfl
        clear HK HL8
        go_upto_region 8 with (fail)
        have HB3 := Lib.hid (HB2.out.alloc HB2.out.size (.cells #[.slice A0 n0 c0, .slice A1 n1 c1, .slice A2 n2 c2, .slice A3 n3 c3, .slice A4 n4 c4, .slice A5 n5 c5, .slice A6 n6 c6, .bool st, .int .u32 stt, .slice A9 n9 c9, .slice A10 n10 c10] 34))
        have HR3 := Lib.hid (HR2.out.below ((Below.refl _ _).alloc (Nat.le_refl _) (.cells #[.slice A0 n0 c0, .slice A1 n1 c1, .slice A2 n2 c2, .slice A3 n3 c3, .slice A4 n4 c4, .slice A5 n5 c5, .slice A6 n6 c6, .bool st, .int .u32 stt, .slice A9 n9 c9, .slice A10 n10 c10] 34)))
        generalize W2.alloc (.cells #[.slice A0 n0 c0, .slice A1 n1 c1, .slice A2 n2 c2, .slice A3 n3 c3, .slice A4 n4 c4, .slice A5 n5 c5, .slice A6 n6 c6, .bool st, .int .u32 stt, .slice A9 n9 c9, .slice A10 n10 c10] 34) = w3 at *
        obtain ⟨q, hq, hby⟩ := rdI_byQ HR3.out w3.heap.size (Nat.le_refl _)
        have HY := Lib.hid (show Own (rng .u8) 5 (w3.alloc (.cells #[] 5)) w3.heap.size (fun _ => False) (.slice (some ⟨w3.heap.size, 0, none⟩) 0 0) [] from Own.made rfl (by decide) (Nat.le_refl _))
        have HFF := Lib.hid (show FC (rng .u8) (w3.alloc (.cells #[] 5)) (fun k => True ∧ some k ≠ (Value.slice (some ⟨w3.heap.size, 0, none⟩) 0 0).ownBlock) A B from
          Ft.mono (Ft.below (byQ_FC hby HB.out.2 HB.out.1) ((Below.refl _ w3).alloc (Nat.le_refl _) (.cells #[] 5))) (fun k hk => ⟨trivial, fun e => by subst hk; have e : some k = some w3.heap.size := e; injection e with e; exact hq e.symm⟩))
        have hsz : (w3.alloc (.cells #[] 5)).heap.size = w3.heap.size + 1 := World.size_alloc _ _
        have HSZ := Lib.hid hsz
        have hz3 : w3.heap.size ≤ (w3.alloc (.cells #[] 5)).heap.size := by omega
        have HBO := Lib.hid (show (([] : List Int).length + B.length) * 1 ≤ 140737488355328 from by simp; omega)
        have HBO2 := Lib.hid (show (([] ++ B : List Int).length + 1) * 1 ≤ 140737488355328 from by simp; omega)
        have HXF := Lib.hid (fun (X : World) (ok : Nat → Prop) => fk_int (W := X) (ok := ok) (wf_u8 HX.out))
        clear hsz hby hq
        go_wp2_with (first
          | (at_builtin; refine Own.append_row (d := rng .u8) w3.heap.size rfl (.tmp 30) (.tmp 31) 22 5 (.int .u8 0) 1 rfl Tryz.underlying22 infoB8 rfl (by decide) (by decide) (.slice (some ⟨w3.heap.size, 0, none⟩) 0 0) [] B A c (fun _ => True) rfl rfl HFF.out (own_any HY.out) hz3 HBO.out ?_; intro v1 w4 hown1 hg1 hat1)
          | (at_builtin; refine Own.append (d := rng .u8) w3.heap.size rfl (.tmp 32) (.tmp 34) 22 5 _ 1 rfl Tryz.underlying22 infoB8 rfl (by decide) (by decide) v1 ([] ++ B) x _ (fun _ => True) rfl rfl (HXF.out _ _) hown1 (Nat.le_trans hz3 hg1.size) HBO2.out ?_; intro v2 w5 hown2 hg2 hat2))
        have hv1 : ∀ k, v1.ownBlock = some k → w3.heap.size ≤ k := fun k hk => (Own.block hown1 hk).1
        have hg1' : (w3.alloc (.cells #[] 5)).grownBy w4 (some w3.heap.size) := hg1
        have hb35 : Below w3.heap.size w3 w5 := (((Below.refl _ w3).alloc (Nat.le_refl _) (.cells #[] 5)).grown hg1' hz3 (fun k hk => by injection hk with hk; omega)).grown hg2 (Nat.le_trans hz3 hg1'.size) (fun k hk => hv1 k hk)
        rw [List.nil_append] at hown2
        have hbx : Byts (B ++ [x]) := ⟨by rw [List.length_append, List.length_singleton]; omega, fun y hy => by
          rcases List.mem_append.1 hy with h | h
          · exact HB.out.2 y h
          · rw [List.mem_singleton.1 h]; exact HX.out⟩
        obtain ⟨A12, c12, rfl, hc12, hR12⟩ := own_rd hown2 hbx.1
        have HB5 := Lib.hid (HB3.out.trans (hb35.mono HB3.out.size))
        have HR5 := Lib.hid (HR3.out.below hb35)
        have HD5 := Lib.hid (Decode_e w5 A12 c12 (B ++ [x]) true hR12 hbx hc12)
        clear hown1 hown2 hg1 hg2 hat1 hat2 hv1 hg1' hb35 hbx hc12 hR12 HFF HY HSZ hz3 HBO HBO2 HXF HB3 HR3 HB2 HR2
        generalize (decM true (B ++ [x])).2 = f at *
        refine HD5.out.mono ?_
        rintro e2 w6 ⟨hB6, D0, m0, d0, D1, m1, d1, D2, m2, d2, D3, m3, d3, D4, m4, d4, D5, m5, d5, D6, m6, d6, D9, m9, d9, D10, m10, d10, st', stt', rfl⟩
        have HB6 := Lib.hid (HB5.out.trans (hB6.mono HB5.out.size))
        have HR6 := Lib.hid (HR5.out.below hB6)
        clear hB6 HD5 HB5 HR5
        go_upto_region 9 with (fail)
        have HB7 := Lib.hid (HB6.out.alloc HB6.out.size (.cells #[.slice D0 m0 d0, .slice D1 m1 d1, .slice D2 m2 d2, .slice D3 m3 d3, .slice D4 m4 d4, .slice D5 m5 d5, .slice D6 m6 d6, .bool st', .int .u32 stt', .slice D9 m9 d9, .slice D10 m10 d10] 34))
        have HR7 := Lib.hid (HR6.out.below ((Below.refl _ _).alloc (Nat.le_refl _) (.cells #[.slice D0 m0 d0, .slice D1 m1 d1, .slice D2 m2 d2, .slice D3 m3 d3, .slice D4 m4 d4, .slice D5 m5 d5, .slice D6 m6 d6, .bool st', .int .u32 stt', .slice D9 m9 d9, .slice D10 m10 d10] 34)))
        generalize w6.alloc (.cells #[.slice D0 m0 d0, .slice D1 m1 d1, .slice D2 m2 d2, .slice D3 m3 d3, .slice D4 m4 d4, .slice D5 m5 d5, .slice D6 m6 d6, .bool st', .int .u32 stt', .slice D9 m9 d9, .slice D10 m10 d10] 34) = w7 at *
        have hk8 : (0 : Int) ≤ (k : Int) % 8 ∧ (k : Int) % 8 ≤ (c : Int) := by omega
        have hl8 : (B.take (k % 8)).length = k % 8 := by rw [List.length_take]; omega
        have hbt : Byts (B.take (k % 8)) := ⟨by omega, fun y hy => HB.out.2 y (List.mem_of_mem_take hy)⟩
        have hrt : RdI w7 .u8 A (B.take (k % 8)) := ⟨by omega, fun hp => by
          obtain ⟨b, o, e, hcc⟩ := HR7.out.2 (by omega)
          refine ⟨b, o, e, fun j y hj => hcc j y ?_⟩
          rw [List.getElem?_take] at hj
          split at hj
          · exact hj
          · cases hj⟩
        have hd7 := Decode_e w7 A c (B.take (k % 8)) true hrt hbt (by omega)
        rw [dec_short true (by omega), hl8] at hd7
        have HD7 := Lib.hid hd7
        clear hd7 hrt hbt hl8 HR7 HR6 HB6
        go_wp2_with fail
        refine HD7.out.mono ?_
        rintro e2 w8 ⟨hB8, E0, q0, r0, E1, q1, r1, E2, q2, r2, E3, q3, r3, E4, q4, r4, E5, q5, r5, E6, q6, r6, E9, q9, r9, E10, q10, r10, st'', stt'', rfl⟩
        have HB8 := Lib.hid (HB7.out.trans (hB8.mono HB7.out.size))
        clear hB8 HD7 HB7
        rcases HK2.out with rfl | ⟨rfl, hx11⟩
        · go_wp2_with fail
          all_goals
            go_ret
            exact ⟨rfl, by (repeat (first | with_reducible exact HB8.out | (with_reducible refine bl_set ?_ _ _ _ ?_; rotate_left; omega) | with_reducible refine bl_alloc ?_ _ | with_reducible refine bl_drew ?_))⟩
        · go_wp2_with fail
          all_goals
            go_ret
            exact ⟨rfl, by (repeat (first | with_reducible exact HB8.out | (with_reducible refine bl_set ?_ _ _ _ ?_; rotate_left; omega) | with_reducible refine bl_alloc ?_ _ | with_reducible refine bl_drew ?_))⟩
      · clear HK HL8
        go_wp2_with fail
        go_ret
        exact ⟨rfl, by (repeat (first | with_reducible exact HB2.out | (with_reducible refine bl_set ?_ _ _ _ ?_; rotate_left; omega) | with_reducible refine bl_alloc ?_ _ | with_reducible refine bl_drew ?_))⟩
theorem moduleCut_walk (W : World) (a0 : List Int) (a1 a2 : Int) {A : Option Addr} {n c : Nat} {k x : Int} (h0 : (Kd.slice 5 (rng .u8)).K W a0 (Value.slice A n c).cells.toList) (h1 : (rng .i64).K W a1 (Value.int .i64 k).cells.toList) (h2 : (rng .u8).K W a2 (Value.int .u8 x).cells.toList) (hb : a0.length ≤ 1048576) :
    Calls Tryz.prog 6 #[.slice A n c, .int .i64 k, .int .u8 x] W fun e W' => e = .returned (.bool true) ∧ Below W.heap.size W W' := by
  obtain ⟨rfl, hR, hB, hle⟩ := bytes_open h0 hb
  obtain ⟨e1, w1⟩ := h1
  obtain ⟨e2, w2⟩ := h2
  simp [Value.cells] at e1 e2
  subst e1 e2
  have b1 := wf_bounds w1
  have b2 := wf_bounds w2
  simp [IntKind.min, IntKind.max, IntKind.signed, IntKind.bits] at b1 b2
  exact moduleCut_go W A c a0 _ _ hR hB hle (by omega) (by omega)
end Go.Proofs.YtofaiocffifhfaaGreat
