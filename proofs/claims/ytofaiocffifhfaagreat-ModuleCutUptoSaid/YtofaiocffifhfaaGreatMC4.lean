/- Lemmas towards this claim's statement: what the functions named here come to, each under the conditions that it states itself. -/
import Derived.Test.YtofaiocffifhfaaGreatMC3
section
namespace Go.Proofs.YtofaiocffifhfaaGreat
open Go.RowKit Go.Shelf YtofaiocffifhfaaGreatB Go.Proofs.YtofaiocffifhfaaGreatW.PrintWords
theorem sgn_step (m h y : Nat) (hm : m < 2 ^ h) (h7 : 1 ≤ h) (hy : y < 128) : (128 * sgnV m h + y) % 18446744073709551616 = sgnV (y + 128 * m) (h + 7) := by
  obtain ⟨k, rfl⟩ : ∃ k, h = k + 1 := ⟨h - 1, by omega⟩
  unfold sgnV
  have e1 : 2 ^ (k + 1 + 7) = 256 * 2 ^ k := by rw [show k + 1 + 7 = k + 8 from by omega, Nat.pow_add]; rw [show (2 : Nat) ^ 8 = 256 from rfl, Nat.mul_comm]
  have e2 : 2 ^ (k + 1) = 2 * 2 ^ k := by rw [Nat.pow_succ, Nat.mul_comm]
  have e3 : 2 ^ (k + 1 + 7 - 1) = 128 * 2 ^ k := by rw [show k + 1 + 7 - 1 = k + 7 from by omega, Nat.pow_add]; rw [show (2 : Nat) ^ 7 = 128 from rfl, Nat.mul_comm]
  rw [show k + 1 - 1 = k from rfl, e1, e2, e3]
  rw [e2] at hm
  by_cases h64 : k + 1 + 7 < 64
  · have hp : 2 ^ k ≤ 2 ^ 55 := Nat.pow_le_pow_right (by omega) (by omega)
    generalize 2 ^ k = t at *
    by_cases hn : t ≤ m
    · rw [if_pos ⟨by omega, hn⟩, if_pos ⟨h64, by omega⟩]; omega
    · rw [if_neg (fun h => hn h.2), if_neg (fun h => by omega)]; omega
  · rw [if_neg (show ¬ (k + 1 + 7 < 64 ∧ 128 * 2 ^ k ≤ y + 128 * m) from fun h => h64 h.1)]
    obtain ⟨u, hu⟩ : ∃ u, 256 * 2 ^ k = 18446744073709551616 * u := ⟨2 ^ (k - 56), by rw [show (256 : Nat) = 2 ^ 8 from rfl, show (18446744073709551616 : Nat) = 2 ^ 64 from rfl, ← Nat.pow_add, ← Nat.pow_add]; congr 1; omega⟩
    by_cases hn : k + 1 < 64 ∧ 2 ^ k ≤ m
    · rw [if_pos hn]
      have hp : 2 ^ k ≤ 2 ^ 62 := Nat.pow_le_pow_right (by omega) (by omega)
      generalize 2 ^ k = t at *
      omega
    · rw [if_neg hn]; omega
theorem sintM_step {B : List Int} {a bits : Nat} {x : Int} (hB : Byts B) (hx : B[a]? = some x) (h1 : ¬ x < 128) (h2 : ¬ bits ≤ 7) :
    sintM B a bits = match sintM B (a + 1) (bits - 7) with | .error e => .error e | .ok (m, nx) => .ok ((128 * m + (x - 128).toNat) % 18446744073709551616, nx) := by
  unfold sintM
  rw [lebG_drop hx, lebG, if_neg h1, if_neg h2]
  cases hr : lebG lstS (B.drop (a + 1)) (bits - 7) with
  | error e => rfl
  | ok y =>
    obtain ⟨m, h, c⟩ := y
    have hm := lebG_bound _ _ _ _ _ (by omega) (fun x hx => hB.2 x (List.mem_of_mem_drop hx)) hr
    have hxb := hB.get hx
    simp only [Except.ok.injEq, Prod.mk.injEq]
    exact ⟨(sgn_step m h (x - 128).toNat hm.1 (by omega) (by omega)).symm, by omega⟩
theorem sgnV_lt (m h : Nat) (hm : m < 2 ^ h) : sgnV m h < 18446744073709551616 := by
  unfold sgnV
  split
  next hc =>
    have hp : 2 ^ h ≤ 2 ^ 63 := Nat.pow_le_pow_right (by omega) (by omega)
    generalize 2 ^ h = t at *
    omega
  · exact Nat.mod_lt _ (by omega)
theorem sintM_lt {B : List Int} {a bits n nx : Nat} (hB : Byts B) (hb1 : 1 ≤ bits) (h : sintM B a bits = .ok (n, nx)) : n < 18446744073709551616 := by
  unfold sintM at h
  cases hr : lebG lstS (B.drop a) bits with
  | error e => rw [hr] at h; cases h
  | ok y =>
    obtain ⟨m, hh, c⟩ := y
    rw [hr] at h
    cases h
    exact sgnV_lt _ _ (lebG_bound _ _ _ _ _ hb1 (fun x hx => hB.2 x (List.mem_of_mem_drop hx)) hr).1
theorem sintM_last {B : List Int} {a bits : Nat} {x : Int} (hx : B[a]? = some x) (hx0 : 0 ≤ x) (h1 : x < 128) : sintM B a bits = if lstS x bits then .ok (if 64 ≤ x then x.toNat + 18446744073709551616 - 128 else x.toNat, a + 1) else .error 101 := by
  unfold sintM
  rw [lebG_drop hx, lebG, if_pos h1]
  cases lstS x bits with
  | false => rfl
  | true =>
    show Except.ok (sgnV x.toNat 7, a + 1) = _
    rw [if_pos rfl, sgnV, show (2 : Nat) ^ 7 = 128 from rfl, show (2 : Nat) ^ (7 - 1) = 64 from rfl]
    by_cases h64 : 64 ≤ x
    · rw [if_pos ⟨by omega, by omega⟩, if_pos h64]
    · rw [if_neg (fun h => h64 (by omega)), if_neg h64, Nat.mod_eq_of_lt (by omega)]
set_option maxRecDepth 100000 in
set_option maxHeartbeats 4000000 in
theorem rSint_any (q : Nat) (A : Option Addr) (c : Nat) (B : List Int) (hB : Byts B) (hc : B.length ≤ c) : ∀ (bits a : Nat) (W : World), 1 ≤ bits → bits ≤ 64 → a ≤ B.length → ByQ W q A B →
    Calls Tryz.prog 138 #[.slice A B.length c, .int .i64 a, .int .i64 bits] W (RNumPost W (sintM B a bits)) := by
  intro bits
  induction bits using Nat.strongRecOn with
  | ind bits ih =>
  intro a W hb1 hb2 ha hQ
  have IH := Lib.hid ih
  have hl := hB.1
  clear ih
  rcases Nat.lt_or_ge a B.length with hlt | hge
  · obtain ⟨o, x, rfl, hx, hcc⟩ := hQ.at_ a hlt
    have hxb := hB.get hx.out
    have hx0 := hxb.1
    have hx1 := hxb.2
    have hlt3 : (a : Int) < (B.length : Int) := by omega
    have HQ := Lib.hid hQ
    have HB := Lib.hid hB
    clear hQ hB hxb
    by_cases h128 : x < 128
    · have HL := Lib.hid (sintM_last (bits := bits) hx.out hx0 h128)
      by_cases h7 : bits < 7
      · have HT := Lib.hid (two_any W (bits - 1) (by omega))
        have hcb : (((bits - 1 : Nat) : Nat) : Int) = (bits : Int) - 1 := by omega
        rw [hcb] at HT
        have hH1 : 1 ≤ twoV (bits - 1) := by have := Nat.two_pow_pos (bits - 1); unfold twoV; omega
        have hH2 : twoV (bits - 1) ≤ 32 := by
          have : 2 ^ (bits - 1) ≤ 2 ^ 5 := Nat.pow_le_pow_right (by omega) (by omega)
          unfold twoV; omega
        have HS := Lib.hid (show lstS x bits = (decide (-(twoV (bits - 1)) ≤ svOf x) && decide (svOf x < twoV (bits - 1))) from by
          have e : (2 : Int) ^ ((bits : Int) - 1).toNat = twoV (bits - 1) := by rw [show ((bits : Int) - 1).toNat = bits - 1 from by omega]; unfold twoV; rw [Int.natCast_pow]; rfl
          unfold lstS
          rw [e, decide_eq_false (by omega), Bool.false_or])
        generalize twoV (bits - 1) = H at *
        clear hcb
        by_cases h64 : 64 ≤ x
        · have HSV := Lib.hid (show svOf x = x - 128 from if_pos h64)
          by_cases c1 : -H ≤ x - 128
          · have HV := Lib.hid (show sintM B a bits = .ok (x.toNat + 18446744073709551616 - 128, a + 1) from by
              rw [HL.out, HS.out, HSV.out, decide_eq_true c1, decide_eq_true (by omega), Bool.true_and, if_pos rfl, if_pos h64])
            go_enter Tryz.func138, Tryz.ntmps138
            go_wp2_with (go_at_call 100; refine HT.out.mono ?_; rintro e w' ⟨rfl, rfl⟩)
            refine bodyPost_ret (results_tmp3 rfl _ _ _) rfl ?_
            rw [HV.out]
            refine ⟨rfl, ?_⟩
            show _ = _
            have e2 : IntKind.u64.wrap (x - 128) = ((x.toNat + 18446744073709551616 - 128 : Nat) : Int) := by rw [IntKind.wrap_u64]; omega
            rw [← e2]; rfl
          · have HV := Lib.hid (show sintM B a bits = .error 101 from by
              rw [HL.out, HS.out, HSV.out, decide_eq_false c1]; rfl)
            have c3 : x - 128 < -H := by omega
            go_enter Tryz.func138, Tryz.ntmps138
            go_wp2_with (go_at_call 100; refine HT.out.mono ?_; rintro e w' ⟨rfl, rfl⟩)
            refine bodyPost_ret (results_tmp3 rfl _ _ _) rfl ?_
            rw [HV.out]
            exact ⟨rfl, rfl⟩
        · have HSV := Lib.hid (show svOf x = x from if_neg h64)
          by_cases c1 : x < H
          · have HV := Lib.hid (show sintM B a bits = .ok (x.toNat, a + 1) from by
              rw [HL.out, HS.out, HSV.out, decide_eq_true c1, decide_eq_true (by omega), Bool.true_and, if_pos rfl, if_neg h64])
            go_enter Tryz.func138, Tryz.ntmps138
            go_wp2_with (go_at_call 100; refine HT.out.mono ?_; rintro e w' ⟨rfl, rfl⟩)
            refine bodyPost_ret (results_tmp3 rfl _ _ _) rfl ?_
            rw [HV.out]
            refine ⟨rfl, ?_⟩
            show _ = _
            rw [Int.toNat_of_nonneg hx0]; rfl
          · have HV := Lib.hid (show sintM B a bits = .error 101 from by
              rw [HL.out, HS.out, HSV.out, decide_eq_false c1, Bool.and_false]; rfl)
            go_enter Tryz.func138, Tryz.ntmps138
            go_wp2_with (go_at_call 100; refine HT.out.mono ?_; rintro e w' ⟨rfl, rfl⟩)
            refine bodyPost_ret (results_tmp3 rfl _ _ _) rfl ?_
            rw [HV.out]
            exact ⟨rfl, rfl⟩
      · have HS := Lib.hid (show lstS x bits = true from by unfold lstS; rw [decide_eq_true (by omega), Bool.true_or])
        by_cases h64 : 64 ≤ x
        · have HV := Lib.hid (show sintM B a bits = .ok (x.toNat + 18446744073709551616 - 128, a + 1) from by
            rw [HL.out, HS.out, if_pos rfl, if_pos h64])
          go_enter Tryz.func138, Tryz.ntmps138
          go_wp2_with fail
          refine bodyPost_ret (results_tmp3 rfl _ _ _) rfl ?_
          rw [HV.out]
          refine ⟨rfl, ?_⟩
          show _ = _
          have e2 : IntKind.u64.wrap (x - 128) = ((x.toNat + 18446744073709551616 - 128 : Nat) : Int) := by rw [IntKind.wrap_u64]; omega
          rw [← e2]; rfl
        · have HV := Lib.hid (show sintM B a bits = .ok (x.toNat, a + 1) from by
            rw [HL.out, HS.out, if_pos rfl, if_neg h64])
          go_enter Tryz.func138, Tryz.ntmps138
          go_wp2_with fail
          refine bodyPost_ret (results_tmp3 rfl _ _ _) rfl ?_
          rw [HV.out]
          refine ⟨rfl, ?_⟩
          show _ = _
          rw [Int.toNat_of_nonneg hx0]; rfl
    · by_cases h7 : bits ≤ 7
      · have HV := Lib.hid (show sintM B a bits = .error 101 from by
          unfold sintM
          rw [lebG_drop hx.out, lebG, if_neg h128, if_pos h7])
        go_enter Tryz.func138, Tryz.ntmps138
        go_wp2_with fail
        refine bodyPost_ret (results_tmp3 rfl _ _ _) rfl ?_
        rw [HV.out]
        exact ⟨rfl, rfl⟩
      · have HV := Lib.hid (sintM_step HB.out hx.out h128 h7)
        have HR := Lib.hid (IH.out (bits - 7) (by omega) (a + 1) W (by omega) (by omega) (by omega) HQ.out)
        have hcb : (((bits - 7 : Nat) : Nat) : Int) = (bits : Int) - 7 := by omega
        have hca : (((a + 1 : Nat) : Nat) : Int) = (a : Int) + 1 := by omega
        rw [hcb, hca] at HR
        clear hcb hca
        cases hu : sintM B (a + 1) (bits - 7) with
        | error e =>
          have he := sintM_err hu
          have he2 : (e != 0) = true := by simp only [bne, he]; rfl
          rw [hu] at HR HV
          clear hu he
          go_enter Tryz.func138, Tryz.ntmps138
          go_wp2_with fail
          refine HR.out.mono ?_
          rintro E w' ⟨rfl, rfl⟩
          go_wp2_with fail
          refine bodyPost_ret (results_tmp3 rfl _ _ _) rfl ?_
          rw [HV.out]
          exact ⟨rfl, rfl⟩
        | ok y =>
          obtain ⟨m, nx⟩ := y
          rw [hu] at HR HV
          clear hu
          go_enter Tryz.func138, Tryz.ntmps138
          go_wp2_with fail
          refine HR.out.mono ?_
          rintro E w' ⟨rfl, rfl⟩
          go_wp2_with fail
          refine bodyPost_ret (results_tmp3 rfl _ _ _) rfl ?_
          rw [HV.out]
          refine ⟨rfl, ?_⟩
          show _ = _
          have e2 : IntKind.u64.wrap (IntKind.u64.wrap (128 * (m : Int)) + (x - 128)) = (((128 * m + (x - 128).toNat) % 18446744073709551616 : Nat) : Int) := by rw [IntKind.wrap_u64, IntKind.wrap_u64]; omega
          rw [← e2]
          rfl
  · obtain rfl : a = B.length := by omega
    have HV := Lib.hid (show sintM B B.length bits = .error 100 from by unfold sintM; rw [lebG_nil])
    clear hQ hB
    go_enter Tryz.func138, Tryz.ntmps138
    go_wp2_with fail
    refine bodyPost_ret (results_tmp3 rfl _ _ _) rfl ?_
    rw [HV.out]
    exact ⟨rfl, rfl⟩
end Go.Proofs.YtofaiocffifhfaaGreat
end
section
namespace Go.Proofs.YtofaiocffifhfaaGreat
open Go.RowKit Go.Shelf YtofaiocffifhfaaGreatB Go.Proofs.YtofaiocffifhfaaGreatW.PrintWords
set_option maxRecDepth 100000 in
set_option maxHeartbeats 1000000 in
theorem rdUint_any (W : World) (p q : Nat) (B : List Int) (a bits : Nat) (e : Int) (hC : Rdr W p q B a e) (hB : Byts B) (hb1 : 1 ≤ bits) (hb2 : bits ≤ 64) :
    Calls Tryz.prog 38 #[.pointer (some ⟨p, 0, none⟩), .int .i64 bits] W fun E w' => E = .returned (.int .u64 (rdOf (uintM B a bits) a e).1) ∧ GoesR W w' p q B (rdOf (uintM B a bits) a e).2.1 (rdOf (uintM B a bits) a e).2.2 := by
  have HC := Lib.hid hC
  obtain ⟨A, c, c0, c1, c2, f0, f1, f2, hle, hq, hlt, ha⟩ := hC.cells
  by_cases he : e = 0
  · subst he
    have H := Lib.hid (fun X (h : ByQ X q A B) => rUint_any q A c B hB hle bits a X hb1 hb2 ha h)
    have HQ := Lib.hid hq
    cases hu : uintM B a bits with
    | error e' =>
      have he := uintM_err hu
      have he2 : (e' != 0) = true := by simp only [bne, he]; rfl
      rw [hu] at H
      have H2 := Lib.hid (fun X h => (H.out X h).mono (R' := fun E w' => E = .returned (.tuple #[.int .u64 0, .int .i64 0, .int .i64 e']) ∧ w' = X) (by rintro E w' ⟨rfl, rfl⟩; exact ⟨rfl, rfl⟩))
      clear H
      clear hC hB hq hu he
      go_enter Tryz.func38, Tryz.ntmps38
      go_wp2_with fail
      go_quiet ((go_at_call 66; exact Calls.quiet_of_same (H2.out _ (HQ.out.grown (row := none) ⟨rfl, rfl, rfl, Nat.le_refl _, fun _ _ _ => rfl⟩ (by simp)))))
      go_wp2_with fail
      go_ret
      exact ⟨rfl, GoesR.trans (GoesR.drewN HC.out _) ⟨(GoesR.drewN HC.out _).1.setE e', gset _ _ _ _⟩⟩
    | ok y =>
      obtain ⟨n, nx⟩ := y
      have hnx := (uintM_ok hu).2
      rw [hu] at H
      have H2 := Lib.hid (fun X h => (H.out X h).mono (R' := fun E w' => E = .returned (.tuple #[.int .u64 n, .int .i64 nx, .int .i64 0]) ∧ w' = X) (by rintro E w' ⟨rfl, rfl⟩; exact ⟨rfl, rfl⟩))
      clear H
      clear hC hB hq hu
      go_enter Tryz.func38, Tryz.ntmps38
      go_wp2_with fail
      go_quiet ((go_at_call 66; exact Calls.quiet_of_same (H2.out _ (HQ.out.grown (row := none) ⟨rfl, rfl, rfl, Nat.le_refl _, fun _ _ _ => rfl⟩ (by simp)))))
      go_wp2_with fail
      go_ret
      exact ⟨rfl, GoesR.trans (GoesR.drewN HC.out _) ⟨(GoesR.drewN HC.out _).1.setAt nx hnx, gset _ _ _ _⟩⟩
  · have he2 : (e != 0) = true := by simp; exact he
    have HV := Lib.hid (show rdOf (uintM B a bits) a e = (0, a, e) from by simp [rdOf, he])
    clear hC hB hq he
    go_enter Tryz.func38, Tryz.ntmps38
    go_wp2_with fail
    go_ret
    rw [HV.out]
    exact ⟨rfl, GoesR.same HC.out⟩
set_option maxRecDepth 100000 in
set_option maxHeartbeats 1000000 in
theorem rdS32_any (W : World) (p q : Nat) (B : List Int) (a : Nat) (e : Int) (hC : Rdr W p q B a e) (hB : Byts B) :
    Calls Tryz.prog 129 #[.pointer (some ⟨p, 0, none⟩), .int .i64 32] W fun E w' => E = .returned (.int .u64 (rdOf (s32M B a) a e).1) ∧ GoesR W w' p q B (rdOf (s32M B a) a e).2.1 (rdOf (s32M B a) a e).2.2 := by
  have HC := Lib.hid hC
  obtain ⟨A, c, c0, c1, c2, f0, f1, f2, hle, hq, hlt, ha⟩ := hC.cells
  by_cases he : e = 0
  · subst he
    have H := Lib.hid (fun X (h : ByQ X q A B) => rSint_any q A c B hB hle 32 a X (by omega) (by omega) ha h)
    have HQ := Lib.hid hq
    cases hu : sintM B a 32 with
    | error e' =>
      have he := sintM_err hu
      have he2 : (e' != 0) = true := by simp only [bne, he]; rfl
      rw [hu] at H
      have H2 := Lib.hid (fun X h => (H.out X h).mono (R' := fun E w' => E = .returned (.tuple #[.int .u64 0, .int .i64 0, .int .i64 e']) ∧ w' = X) (by rintro E w' ⟨rfl, rfl⟩; exact ⟨rfl, rfl⟩))
      clear H
      rw [show s32M B a = .error e' from by unfold s32M; rw [hu]]
      clear hC hB hq hu he
      go_enter Tryz.func129, Tryz.ntmps129
      go_wp2_with fail
      go_quiet ((go_at_call 138; exact Calls.quiet_of_same (H2.out _ (HQ.out.grown (row := none) ⟨rfl, rfl, rfl, Nat.le_refl _, fun _ _ _ => rfl⟩ (by simp)))))
      go_wp2_with fail
      go_ret
      exact ⟨rfl, GoesR.trans (GoesR.drewN HC.out _) ⟨(GoesR.drewN HC.out _).1.setE e', gset _ _ _ _⟩⟩
    | ok y =>
      obtain ⟨n, nx⟩ := y
      have hnx := (sintM_ok hu).2
      rw [hu] at H
      have H2 := Lib.hid (fun X h => (H.out X h).mono (R' := fun E w' => E = .returned (.tuple #[.int .u64 n, .int .i64 nx, .int .i64 0]) ∧ w' = X) (by rintro E w' ⟨rfl, rfl⟩; exact ⟨rfl, rfl⟩))
      clear H
      rw [show s32M B a = .ok (n % 4294967296, nx) from by unfold s32M; rw [hu]]
      clear hC hB hq hu
      go_enter Tryz.func129, Tryz.ntmps129
      go_wp2_with fail
      go_quiet ((go_at_call 138; exact Calls.quiet_of_same (H2.out _ (HQ.out.grown (row := none) ⟨rfl, rfl, rfl, Nat.le_refl _, fun _ _ _ => rfl⟩ (by simp)))))
      go_wp2_with fail
      go_ret
      exact ⟨rfl, GoesR.trans (GoesR.drewN HC.out _) ⟨(GoesR.drewN HC.out _).1.setAt nx hnx, gset _ _ _ _⟩⟩
  · have he2 : (e != 0) = true := by simp; exact he
    have HV := Lib.hid (show rdOf (s32M B a) a e = (0, a, e) from by simp [rdOf, he])
    clear hC hB hq he
    go_enter Tryz.func129, Tryz.ntmps129
    go_wp2_with fail
    go_ret
    rw [HV.out]
    exact ⟨rfl, GoesR.same HC.out⟩
set_option maxRecDepth 100000 in
set_option maxHeartbeats 1000000 in
theorem rdS64_any (W : World) (p q : Nat) (B : List Int) (a : Nat) (e : Int) (hC : Rdr W p q B a e) (hB : Byts B) :
    Calls Tryz.prog 129 #[.pointer (some ⟨p, 0, none⟩), .int .i64 64] W fun E w' => E = .returned (.int .u64 (rdOf (s64M B a) a e).1) ∧ GoesR W w' p q B (rdOf (s64M B a) a e).2.1 (rdOf (s64M B a) a e).2.2 := by
  have HC := Lib.hid hC
  obtain ⟨A, c, c0, c1, c2, f0, f1, f2, hle, hq, hlt, ha⟩ := hC.cells
  by_cases he : e = 0
  · subst he
    have H := Lib.hid (fun X (h : ByQ X q A B) => rSint_any q A c B hB hle 64 a X (by omega) (by omega) ha h)
    have HQ := Lib.hid hq
    cases hu : sintM B a 64 with
    | error e' =>
      have he := sintM_err hu
      have he2 : (e' != 0) = true := by simp only [bne, he]; rfl
      rw [hu] at H
      have H2 := Lib.hid (fun X h => (H.out X h).mono (R' := fun E w' => E = .returned (.tuple #[.int .u64 0, .int .i64 0, .int .i64 e']) ∧ w' = X) (by rintro E w' ⟨rfl, rfl⟩; exact ⟨rfl, rfl⟩))
      clear H
      rw [show s64M B a = .error e' from by unfold s64M; rw [hu]]
      clear hC hB hq hu he
      go_enter Tryz.func129, Tryz.ntmps129
      go_wp2_with fail
      go_quiet ((go_at_call 138; exact Calls.quiet_of_same (H2.out _ (HQ.out.grown (row := none) ⟨rfl, rfl, rfl, Nat.le_refl _, fun _ _ _ => rfl⟩ (by simp)))))
      go_wp2_with fail
      go_ret
      exact ⟨rfl, GoesR.trans (GoesR.drewN HC.out _) ⟨(GoesR.drewN HC.out _).1.setE e', gset _ _ _ _⟩⟩
    | ok y =>
      obtain ⟨n, nx⟩ := y
      have hnx := (sintM_ok hu).2
      rw [hu] at H
      have H2 := Lib.hid (fun X h => (H.out X h).mono (R' := fun E w' => E = .returned (.tuple #[.int .u64 n, .int .i64 nx, .int .i64 0]) ∧ w' = X) (by rintro E w' ⟨rfl, rfl⟩; exact ⟨rfl, rfl⟩))
      clear H
      rw [show s64M B a = .ok (n, nx) from by unfold s64M; rw [hu]]
      clear hC hB hq hu
      go_enter Tryz.func129, Tryz.ntmps129
      go_wp2_with fail
      go_quiet ((go_at_call 138; exact Calls.quiet_of_same (H2.out _ (HQ.out.grown (row := none) ⟨rfl, rfl, rfl, Nat.le_refl _, fun _ _ _ => rfl⟩ (by simp)))))
      go_wp2_with fail
      go_ret
      exact ⟨rfl, GoesR.trans (GoesR.drewN HC.out _) ⟨(GoesR.drewN HC.out _).1.setAt nx hnx, gset _ _ _ _⟩⟩
  · have he2 : (e != 0) = true := by simp; exact he
    have HV := Lib.hid (show rdOf (s64M B a) a e = (0, a, e) from by simp [rdOf, he])
    clear hC hB hq he
    go_enter Tryz.func129, Tryz.ntmps129
    go_wp2_with fail
    go_ret
    rw [HV.out]
    exact ⟨rfl, GoesR.same HC.out⟩
end Go.Proofs.YtofaiocffifhfaaGreat
end
section
namespace Go.Proofs.YtofaiocffifhfaaGreat
open Go.RowKit Go.Shelf YtofaiocffifhfaaGreatB Go.Proofs.YtofaiocffifhfaaGreatW.PrintWords
set_option maxRecDepth 100000 in
set_option maxHeartbeats 1000000 in
theorem rCount_any (W : World) (p q : Nat) (B : List Int) (a : Nat) (e : Int) (hC : Rdr W p q B a e) (hB : Byts B) :
    Calls Tryz.prog 37 #[.pointer (some ⟨p, 0, none⟩)] W fun E w' => E = .returned (.int .i64 (rdOf (countM B a) a e).1) ∧ GoesR W w' p q B (rdOf (countM B a) a e).2.1 (rdOf (countM B a) a e).2.2 := by
  have HC := Lib.hid hC
  obtain ⟨A, c, c0, c1, c2, f0, f1, f2, hle, hq, hlt, ha⟩ := hC.cells
  have H := Lib.hid (rdUint_any W p q B a 32 e hC hB (by omega) (by omega))
  by_cases he : e = 0
  · subst he
    rw [show uintM B a 32 = u32M B a from rfl] at H
    cases hu : u32M B a with
    | error e' =>
      have he := err_U32 B a e' hu
      have he2 : (e' != 0) = true := by simp only [bne, he]; rfl
      have HE := Lib.hid (show ¬ e' = 0 from by simpa using he)
      have HV := Lib.hid (show countM B a = .error e' from by unfold countM; rw [hu])
      rw [hu] at H
      clear hC hB hq hu he
      go_enter Tryz.func37, Tryz.ntmps37
      go_wp2_with fail
      refine H.out.mono ?_
      rintro E W1 ⟨rfl, hG⟩
      have hG' : GoesR W W1 p q B a e' := hG
      obtain ⟨A1, k, d0, d1, d2, l0, l1, l2, gle, gq, glt, ga⟩ := hG'.1.cells
      have HG := Lib.hid hG'
      clear hG hG' gq H
      simp only [rdOf, numV, if_pos]
      go_wp2_with fail
      refine (rBack_any _ _ _ _ _ a _ HG.out.1 ha).mono ?_
      rintro E W2 ⟨rfl, hG2⟩
      rw [if_neg HE.out] at hG2
      have HG2 := Lib.hid hG2
      clear hG2
      go_wp2_with fail
      go_ret
      rw [HV.out]
      exact ⟨rfl, HG.out.trans HG2.out⟩
    | ok y =>
      obtain ⟨n, nx⟩ := y
      have hlt := u32M_lt hB hu
      have hn := hlt.1
      rw [hu] at H
      by_cases hbig : n > 4096
      · have HV := Lib.hid (show countM B a = .error 3 from by unfold countM; rw [hu]; exact if_pos hbig)
        have hbig2 : (4096 : Int) < (n : Int) := by omega
        clear hC hB hq hu hbig hlt
        go_enter Tryz.func37, Tryz.ntmps37
        go_wp2_with fail
        refine H.out.mono ?_
        rintro E W1 ⟨rfl, hG⟩
        have hG' : GoesR W W1 p q B nx 0 := hG
        have HG := Lib.hid hG'
        clear hG hG' H
        simp only [rdOf, numV, if_pos]
        go_wp2_with fail
        refine (rFail_any _ _ _ _ _ _ 3 HG.out.1).mono ?_
        rintro E W2 ⟨rfl, hG2⟩
        have hG2' : GoesR W1 W2 p q B nx 3 := hG2
        obtain ⟨A1, k, d0, d1, d2, l0, l1, l2, gle, gq, glt, ga⟩ := hG2'.1.cells
        have HG2 := Lib.hid hG2'
        clear hG2 hG2' gq
        go_wp2_with fail
        refine (rBack_any _ _ _ _ _ a _ HG2.out.1 ha).mono ?_
        rintro E W3 ⟨rfl, hG3⟩
        have hG3' : GoesR W2 W3 p q B a 3 := hG3
        have HG3 := Lib.hid hG3'
        clear hG3 hG3'
        go_wp2_with fail
        go_ret
        rw [HV.out]
        exact ⟨rfl, (HG.out.trans HG2.out).trans HG3.out⟩
      · have HV := Lib.hid (show countM B a = .ok (n, nx) from by unfold countM; rw [hu]; exact if_neg hbig)
        have hbig2 : (n : Int) ≤ 4096 := by omega
        clear hC hB hq hu hbig hlt
        go_enter Tryz.func37, Tryz.ntmps37
        go_wp2_with fail
        refine H.out.mono ?_
        rintro E W1 ⟨rfl, hG⟩
        have hG' : GoesR W W1 p q B nx 0 := hG
        obtain ⟨A1, k, d0, d1, d2, l0, l1, l2, gle, gq, glt, ga⟩ := hG'.1.cells
        have HG := Lib.hid hG'
        clear hG hG' H gq
        simp only [rdOf, numV, if_pos]
        go_wp2_with fail
        go_ret
        rw [HV.out]
        exact ⟨rfl, HG.out⟩
  · have he2 : (e != 0) = true := by simp; exact he
    have HV := Lib.hid (show rdOf (countM B a) a e = (0, a, e) from by simp [rdOf, he])
    have HV2 := Lib.hid (show rdOf (uintM B a 32) a e = (0, a, e) from by simp [rdOf, he])
    have HE := Lib.hid he
    rw [HV2.out] at H
    clear hC hB hq he
    go_enter Tryz.func37, Tryz.ntmps37
    go_wp2_with fail
    refine H.out.mono ?_
    rintro E W1 ⟨rfl, hG⟩
    have hG' : GoesR W W1 p q B a e := hG
    obtain ⟨A1, k, d0, d1, d2, l0, l1, l2, gle, gq, glt, ga⟩ := hG'.1.cells
    have HG := Lib.hid hG'
    clear hG hG' H gq
    go_wp2_with fail
    refine (rBack_any _ _ _ _ _ a _ HG.out.1 ha).mono ?_
    rintro E W2 ⟨rfl, hG2⟩
    rw [if_neg HE.out] at hG2
    have HG2 := Lib.hid hG2
    clear hG2
    go_wp2_with fail
    go_ret
    rw [HV.out]
    exact ⟨rfl, HG.out.trans HG2.out⟩
set_option maxRecDepth 100000 in
set_option maxHeartbeats 1000000 in
theorem rAmong_any (W : World) (p q ql : Nat) (B : List Int) (a : Nat) (e e0 : Int) (AL : Option Addr) (cL : Nat) (L : List Int) (hC : Rdr W p q B a e) (hB : Byts B) (h0 : (e0 == 0) = false) (hqp : ql ≠ p) (hL : ByQ W ql AL L) (hLl : L.length ≤ 100) :
    Calls Tryz.prog 67 #[.pointer (some ⟨p, 0, none⟩), .slice AL L.length cL, .int .i64 e0] W fun E w' => E = .returned (.int .u8 (rdOf (amongM B a L e0) a e).1) ∧ GoesR W w' p q B (rdOf (amongM B a L e0) a e).2.1 (rdOf (amongM B a L e0) a e).2.2 := by
  obtain ⟨A, c, c0, c1, c2, f0, f1, f2, hle, hq, hlt, ha⟩ := hC.cells
  have H := Lib.hid (rByte_any W p q B a e hC hB)
  obtain ⟨b, hb⟩ : ∃ b, b = (rdByte B a e).1 := ⟨_, rfl⟩
  obtain ⟨a1, ha1⟩ : ∃ a1, a1 = (rdByte B a e).2.1 := ⟨_, rfl⟩
  obtain ⟨e1, he1⟩ : ∃ e1, e1 = (rdByte B a e).2.2 := ⟨_, rfl⟩
  rw [← hb, ← ha1, ← he1] at H
  have hcase : (e1 = 0 ∧ e = 0 ∧ (amongM B a L e0 = if b ∈ L then .ok (b.toNat, a + 1) else .error e0) ∧ a1 = a + 1 ∧ 0 ≤ b) ∨ (¬ e1 = 0 ∧ a1 = a ∧ rdOf (amongM B a L e0) a e = (0, a, e1)) := by
    unfold rdByte at hb ha1 he1
    by_cases he : e = 0
    · subst he
      unfold amongM
      cases hx : B[a]? with
      | none => rw [hx] at he1 ha1; simp at he1 ha1; exact .inr ⟨by rw [he1]; decide, ha1, by rw [he1]; rfl⟩
      | some x =>
        rw [hx] at hb ha1 he1
        simp at hb ha1 he1
        subst hb
        exact .inl ⟨he1, rfl, rfl, ha1, (hB.get hx).1⟩
    · rw [if_neg he] at hb ha1 he1
      exact .inr ⟨by rw [he1]; exact he, ha1, by rw [rdOf, if_neg he, he1]⟩
  have HC := Lib.hid hcase
  have H0 := Lib.hid h0
  clear hb ha1 he1 hC hB hcase h0 hq
  go_enter Tryz.func67, Tryz.ntmps67
  go_wp2_with fail
  refine H.out.mono ?_
  rintro E W1 ⟨rfl, hG⟩
  have HL1 := Lib.hid (hL.grown hG.2 (by simpa using hqp))
  obtain ⟨A1, k, d0, d1, d2, l0, l1, l2, gle, gq, glt, ga⟩ := hG.1.cells
  have HG := Lib.hid hG
  clear hG H gq hL c0 c1 c2 f0 f1 f2
  go_wp2_with fail
  rcases HC.out with ⟨rfl, rfl, h1, rfl, h3⟩ | ⟨h1, rfl, h2⟩
  · have HH1 := Lib.hid h1
    clear HC h1
    go_loop [9] (fun k => ∃ j : Nat, j ≤ L.length ∧ k = .int .i64 j ∧ Hid (∀ y ∈ L.take j, ¬ y = b)) (fun k => L.length - (intOf k).toNat)
    case atStart => exact ⟨0, Nat.zero_le _, rfl, by intro y hy; simp at hy⟩
    case round =>
      obtain ⟨j, hj, rfl, hno⟩ := hrel
      by_cases hlt : j < L.length
      · obtain ⟨o, x, rfl, hx, hc⟩ := HL1.out.at_ j hlt
        by_cases hxb : x = b
        · have hxb2 : (x == b) = true := by simpa using hxb
          have HM := Lib.hid (show b ∈ L from by rw [← hxb]; exact List.mem_of_getElem? hx.out)
          clear hxb
          go_wp2_with fail
          go_ret
          rw [HH1.out, if_pos HM.out]
          exact ⟨by show _ = Ending.returned (Value.int .u8 ((b.toNat : Nat) : Int)); rw [Int.toNat_of_nonneg h3]; rfl, HG.out⟩
        · have hxb2 : (x == b) = false := by simpa using hxb
          have HN := Lib.hid (take_all_succ hno.out hx.out hxb)
          clear hxb
          go_wp2_with fail
          go_round
          case rel => exact ⟨j + 1, by omega, by go_num, HN⟩
          case measure => simp [intOf]; omega
      · obtain rfl : j = L.length := by omega
        have HNO := Lib.hid (show ¬ b ∈ L from fun h => by have := hno.out b; rw [List.take_length] at this; exact this h rfl)
        go_wp2_with fail
        refine (rFail_any _ _ _ _ _ _ e0 HG.out.1).mono ?_
        rintro E W2 ⟨rfl, hG2⟩
        rw [failE, if_pos rfl] at hG2
        have HG2 := Lib.hid hG2
        clear hG2
        go_wp2_with fail
        refine (rBack_any _ _ _ _ _ a _ HG2.out.1 ha).mono ?_
        rintro E W3 ⟨rfl, hG3⟩
        have hne := H0.out
        rw [if_neg (by simpa using hne)] at hG3
        have HG3 := Lib.hid hG3
        clear hG3 hne
        go_wp2_with fail
        go_ret
        rw [HH1.out, if_neg HNO.out]
        exact ⟨rfl, (HG.out.trans HG2.out).trans HG3.out⟩
  · have HH2 := Lib.hid h2
    have HE1 := Lib.hid h1
    have he1 : (e1 == 0) = false := by simpa using h1
    clear HC h2 h1
    go_loop [9] (fun k => ∃ j : Nat, j ≤ L.length ∧ k = .int .i64 j) (fun k => L.length - (intOf k).toNat)
    case atStart => exact ⟨0, Nat.zero_le _, rfl⟩
    case round =>
      obtain ⟨j, hj, rfl⟩ := hrel
      by_cases hlt : j < L.length
      · obtain ⟨o, x, rfl, hx, hc⟩ := HL1.out.at_ j hlt
        by_cases hxb : x = b
        all_goals
          first | (have hxb2 : (x == b) = true := by simpa using hxb) | (have hxb2 : (x == b) = false := by simpa using hxb)
          clear hxb
          go_wp2_with fail
          go_round
          case rel => exact ⟨j + 1, by omega, by go_num⟩
          case measure => simp [intOf]; omega
      · obtain rfl : j = L.length := by omega
        go_wp2_with fail
        refine (rFail_any _ _ _ _ _ _ e0 HG.out.1).mono ?_
        rintro E W2 ⟨rfl, hG2⟩
        rw [failE, if_neg HE1.out] at hG2
        have HG2 := Lib.hid hG2
        clear hG2
        go_wp2_with fail
        refine (rBack_any _ _ _ _ _ a1 _ HG2.out.1 ha).mono ?_
        rintro E W3 ⟨rfl, hG3⟩
        rw [if_neg HE1.out] at hG3
        have HG3 := Lib.hid hG3
        clear hG3
        go_wp2_with fail
        go_ret
        rw [HH2.out]
        exact ⟨rfl, (HG.out.trans HG2.out).trans HG3.out⟩
end Go.Proofs.YtofaiocffifhfaaGreat
end
section
namespace Go.Proofs.YtofaiocffifhfaaGreat
open Go.RowKit Go.Shelf YtofaiocffifhfaaGreatB Go.Proofs.YtofaiocffifhfaaGreatW.PrintWords
theorem GoesR.of_alloc {W W' : World} {p q : Nat} {B : List Int} {a : Nat} {e : Int} {o : Obj} (h : GoesR (W.alloc o) W' p q B a e) : GoesR W W' p q B a e := ⟨h.1, (World.grownBy_alloc W o _).trans h.2⟩
theorem resM_of (B : List Int) (a : Nat) (e : Int) : (rdOf (resM B a) a e) = (if (rdOf (amongM B a [127, 126, 125, 124, 64] 106) a e).1 = 64 then 0 else (rdOf (amongM B a [127, 126, 125, 124, 64] 106) a e).1, (rdOf (amongM B a [127, 126, 125, 124, 64] 106) a e).2) := by
  unfold resM rdOf
  rcases amongM B a [127, 126, 125, 124, 64] 106 with e' | ⟨n, nx⟩
  · by_cases h : e = 0 <;> simp [h, numV, numA, numE]
  · by_cases h : e = 0
    · by_cases h2 : n = 64
      · simp [h, h2, numV, numA, numE]
      · have h3 : ¬ (n : Int) = 64 := by omega
        simp [h, h2, h3, numV, numA, numE]
    · simp [h]
set_option maxRecDepth 100000 in
theorem rResults_any (W : World) (p q : Nat) (B : List Int) (a : Nat) (e : Int) (hC : Rdr W p q B a e) (hB : Byts B) :
    Calls Tryz.prog 127 #[.pointer (some ⟨p, 0, none⟩)] W fun E w' => E = .returned (.int .u8 (rdOf (resM B a) a e).1) ∧ GoesR W w' p q B (rdOf (resM B a) a e).2.1 (rdOf (resM B a) a e).2.2 := by
  have hplt := hC.lt
  have H := Lib.hid (rAmong_any _ p q W.heap.size B a e 106 (some ⟨W.heap.size, 0, none⟩) 5 [127, 126, 125, 124, 64] (hC.alloc (.cells (([127, 126, 125, 124, 64] : List Int).map (Value.int .u8)).toArray 5)) hB rfl (by omega) (lit_ByQ W [127, 126, 125, 124, 64] 5) (by decide))
  have HV := Lib.hid (resM_of B a e)
  generalize rdOf (amongM B a [127, 126, 125, 124, 64] 106) a e = t at *
  obtain ⟨v, a', e'⟩ := t
  clear hC hB
  by_cases h64 : v = 64
  · subst h64
    rw [if_pos rfl] at HV
    go_enter Tryz.func127, Tryz.ntmps127
    go_wp2_with fail
    refine H.out.mono ?_
    rintro E W1 ⟨rfl, hG⟩
    have HG := Lib.hid hG
    clear hG H
    go_wp2_with fail
    go_ret
    rw [HV.out]
    exact ⟨rfl, HG.out.of_alloc⟩
  · rw [if_neg h64] at HV
    have hv2 : (v == 64) = false := by simpa using h64
    clear h64
    go_enter Tryz.func127, Tryz.ntmps127
    go_wp2_with fail
    refine H.out.mono ?_
    rintro E W1 ⟨rfl, hG⟩
    have HG := Lib.hid hG
    clear hG H
    go_wp2_with fail
    go_ret
    rw [HV.out]
    exact ⟨rfl, HG.out.of_alloc⟩
/-- 256 to the j, modulo 2^64. -/
def unitV (j : Nat) : Int := (((2 ^ (8 * j)) % 18446744073709551616 : Nat) : Int)
theorem unitV_succ (j : Nat) : IntKind.u64.wrap (256 * unitV j) = unitV (j + 1) := by
  unfold unitV
  rw [IntKind.wrap_u64, show 8 * (j + 1) = 8 * j + 8 from by omega, Nat.pow_add, show (2 : Nat) ^ 8 = 256 from rfl]
  generalize 2 ^ (8 * j) = t
  omega
theorem unitV_small (j : Nat) (h : j ≤ 7) : unitV j = ((2 ^ (8 * j) : Nat) : Int) := by
  unfold unitV
  have : 2 ^ (8 * j) ≤ 2 ^ 56 := Nat.pow_le_pow_right (by omega) (by omega)
  rw [Nat.mod_eq_of_lt (by omega)]
/-- Behind j bytes of a number. -/
def FixR (W wr : World) (p q : Nat) (B : List Int) (a n : Nat) (e : Int) (j : Nat) (v : Int) : Prop :=
  (e = 0 ∧ a + j ≤ B.length ∧ GoesR W wr p q B (a + j) 0 ∧ v = leN ((B.drop a).take j)) ∨ (∃ a' e', GoesR W wr p q B a' e' ∧ ¬ e' = 0 ∧ rdOf (fixM B a n) a e = (0, a, e'))
theorem FixR.step {W wr : World} {p q : Nat} {B : List Int} {a n : Nat} {e : Int} {j : Nat} {v : Int} (hB : Byts B) (hj : j < n) (hn : n ≤ 8) (h : FixR W wr p q B a n e j v) :
    ∃ a' e', Rdr wr p q B a' e' ∧ 0 ≤ (rdByte B a' e').1 ∧ (rdByte B a' e').1 ≤ 255 ∧ (∀ W2, GoesR wr W2 p q B (rdByte B a' e').2.1 (rdByte B a' e').2.2 → FixR W W2 p q B a n e (j + 1) (IntKind.u64.wrap (v + IntKind.u64.wrap ((rdByte B a' e').1 * unitV j)))) := by
  rcases h with ⟨rfl, h1, h2, rfl⟩ | ⟨a', e', h1, h2, h3⟩
  · refine ⟨a + j, 0, h2.1, ?_⟩
    rcases Nat.lt_or_ge (a + j) B.length with hlt | hge
    · have hx : B[a + j]? = some B[a + j] := List.getElem?_eq_getElem hlt
      have hxb := hB.get hx
      generalize B[a + j] = x at *
      have hr : rdByte B (a + j) 0 = (x, a + j + 1, 0) := by simp [rdByte, hx]
      rw [hr]
      refine ⟨hxb.1, hxb.2, fun W2 hG => .inl ⟨rfl, by omega, h2.trans hG, ?_⟩⟩
      have hs := leN_snoc ((B.drop a).take j) x
      rw [List.length_take, List.length_drop, Nat.min_eq_left (by omega)] at hs
      have ht : (B.drop a).take (j + 1) = (B.drop a).take j ++ [x] := by rw [List.take_add_one, List.getElem?_drop, hx]; rfl
      have hb2 := leN_lt ((B.drop a).take j) (fun y hy => hB.2 y (List.mem_of_mem_drop (List.mem_of_mem_take hy)))
      rw [List.length_take, List.length_drop, Nat.min_eq_left (by omega)] at hb2
      rw [ht, hs, unitV_small j (by omega)]
      have hp : 2 ^ (8 * j) ≤ 2 ^ 56 := Nat.pow_le_pow_right (by omega) (by omega)
      have hm : x.toNat * 2 ^ (8 * j) ≤ 255 * 2 ^ (8 * j) := Nat.mul_le_mul_right _ (by omega)
      have e1 : x * ((2 ^ (8 * j) : Nat) : Int) = ((x.toNat * 2 ^ (8 * j) : Nat) : Int) := by rw [Int.natCast_mul, Int.toNat_of_nonneg hxb.1]
      rw [e1, IntKind.wrap_u64, IntKind.wrap_u64]
      generalize x.toNat * 2 ^ (8 * j) = y at *
      generalize leN ((B.drop a).take j) = l at *
      generalize 2 ^ (8 * j) = t at *
      omega
    · have hr : rdByte B (a + j) 0 = (0, a + j, 100) := by simp [rdByte, List.getElem?_eq_none hge]
      rw [hr]
      refine ⟨by simp, by simp, fun W2 hG => .inr ⟨a + j, 100, h2.trans hG, by decide, ?_⟩⟩
      have : fixM B a n = .error 100 := if_neg (by omega)
      rw [this]; rfl
  · refine ⟨a', e', h1.1, ?_⟩
    have hr : rdByte B a' e' = (0, a', e') := by simp [rdByte, h2]
    rw [hr]
    exact ⟨by simp, by simp, fun W2 hG => .inr ⟨a', e', h1.trans hG, h2, h3⟩⟩
set_option maxRecDepth 100000 in
set_option maxHeartbeats 2000000 in
theorem rFixed_4 (W : World) (p q : Nat) (B : List Int) (a : Nat) (e : Int) (hC : Rdr W p q B a e) (hB : Byts B) :
    Calls Tryz.prog 130 #[.pointer (some ⟨p, 0, none⟩), .int .i64 4] W fun E w' => E = .returned (.int .u64 (rdOf (fixM B a 4) a e).1) ∧ GoesR W w' p q B (rdOf (fixM B a 4) a e).2.1 (rdOf (fixM B a 4) a e).2.2 := by
  obtain ⟨A, c, c0, c1, c2, f0, f1, f2, hle, hq, hlt, ha⟩ := hC.cells
  have hl := hB.1
  have HB := Lib.hid hB
  have H0 := Lib.hid (show FixR W W p q B a 4 e 0 0 from by
    by_cases he : e = 0
    · subst he
      exact .inl ⟨rfl, by omega, GoesR.same hC, by simp [leN]⟩
    · exact .inr ⟨a, e, GoesR.same hC, he, by simp [rdOf, he]⟩)
  clear hC hB hq
  go_enter Tryz.func130, Tryz.ntmps130
  go_wp2_with fail
  clear c0 c1 c2 f0 f1 f2
  go_loopw [6, 7, 8] (fun x u k wr => ∃ (j : Nat) (v : Int), Hid (j ≤ 4) ∧ k = .int .i64 j ∧ x = .int .u64 v ∧ u = .int .u64 (unitV j) ∧ Hid (FixR W wr p q B a 4 e j v)) (fun _ _ k _ => 4 - (intOf k).toNat)
  case atStart => exact ⟨0, 0, by simp [Hid], rfl, rfl, rfl, H0⟩
  case round =>
    obtain ⟨j, v, hjn, rfl, rfl, rfl, hF⟩ := hrel
    have hj8 : (j : Int) ≤ 4 := by have := hjn.out; omega
    by_cases hlt : j < 4
    · have hlt2 : (j : Int) < 4 := by omega
      obtain ⟨a', e', hR, hb0, hb1, hst⟩ := FixR.step HB.out hlt (by omega) hF.out
      have H := Lib.hid (rByte_any wr p q B a' e' hR HB.out)
      have HS := Lib.hid hst
      have HU := Lib.hid (unitV_succ j)
      generalize rdByte B a' e' = t at *
      obtain ⟨b, a2, e2⟩ := t
      generalize hun : unitV j = un at *
      simp only at hb0 hb1 H
      clear hR hst hun
      go_wp2_with fail
      refine H.out.mono ?_
      rintro E W2 ⟨rfl, hG⟩
      have HF := Lib.hid (HS.out W2 hG)
      clear hG H HS
      go_wp2_with fail
      go_roundw
      case rel => exact ⟨j + 1, _, by show _ ≤ _; omega, by go_num, rfl, by rw [HU.out], HF⟩
      case measure => simp [intOf]; omega
    · obtain rfl : j = 4 := by have := hjn.out; omega
      rcases hF.out with ⟨rfl, h1, h2, rfl⟩ | ⟨a', e', h1, h2, h3⟩
      · have HV := Lib.hid (show fixM B a 4 = .ok (leN ((B.drop a).take 4), a + 4) from if_pos h1)
        obtain ⟨A1, k, d0, d1, d2, l0, l1, l2, gle, gq, glt, ga⟩ := h2.1.cells
        have H2 := Lib.hid h2
        generalize leN ((B.drop a).take 4) = V at *
        generalize unitV 4 = un at *
        clear h2 gq hF
        go_wp2_with fail
        go_ret
        rw [HV.out]
        exact ⟨rfl, H2.out⟩
      · have he2 : (e' != 0) = true := by simp; exact h2
        obtain ⟨A1, k, d0, d1, d2, l0, l1, l2, gle, gq, glt, ga⟩ := h1.1.cells
        have H1 := Lib.hid h1
        have H3 := Lib.hid h3
        have HE := Lib.hid h2
        generalize unitV 4 = un at *
        clear h1 h3 h2 gq hF
        go_wp2_with fail
        refine (rBack_any _ _ _ _ _ a _ H1.out.1 ha).mono ?_
        rintro E W3 ⟨rfl, hG3⟩
        rw [if_neg HE.out] at hG3
        have HG3 := Lib.hid hG3
        clear hG3
        go_wp2_with fail
        go_ret
        rw [H3.out]
        exact ⟨rfl, H1.out.trans HG3.out⟩
set_option maxRecDepth 100000 in
set_option maxHeartbeats 2000000 in
theorem rFixed_8 (W : World) (p q : Nat) (B : List Int) (a : Nat) (e : Int) (hC : Rdr W p q B a e) (hB : Byts B) :
    Calls Tryz.prog 130 #[.pointer (some ⟨p, 0, none⟩), .int .i64 8] W fun E w' => E = .returned (.int .u64 (rdOf (fixM B a 8) a e).1) ∧ GoesR W w' p q B (rdOf (fixM B a 8) a e).2.1 (rdOf (fixM B a 8) a e).2.2 := by
  obtain ⟨A, c, c0, c1, c2, f0, f1, f2, hle, hq, hlt, ha⟩ := hC.cells
  have hl := hB.1
  have HB := Lib.hid hB
  have H0 := Lib.hid (show FixR W W p q B a 8 e 0 0 from by
    by_cases he : e = 0
    · subst he
      exact .inl ⟨rfl, by omega, GoesR.same hC, by simp [leN]⟩
    · exact .inr ⟨a, e, GoesR.same hC, he, by simp [rdOf, he]⟩)
  clear hC hB hq
  go_enter Tryz.func130, Tryz.ntmps130
  go_wp2_with fail
  clear c0 c1 c2 f0 f1 f2
  go_loopw [6, 7, 8] (fun x u k wr => ∃ (j : Nat) (v : Int), Hid (j ≤ 8) ∧ k = .int .i64 j ∧ x = .int .u64 v ∧ u = .int .u64 (unitV j) ∧ Hid (FixR W wr p q B a 8 e j v)) (fun _ _ k _ => 8 - (intOf k).toNat)
  case atStart => exact ⟨0, 0, by simp [Hid], rfl, rfl, rfl, H0⟩
  case round =>
    obtain ⟨j, v, hjn, rfl, rfl, rfl, hF⟩ := hrel
    have hj8 : (j : Int) ≤ 8 := by have := hjn.out; omega
    by_cases hlt : j < 8
    · have hlt2 : (j : Int) < 8 := by omega
      obtain ⟨a', e', hR, hb0, hb1, hst⟩ := FixR.step HB.out hlt (by omega) hF.out
      have H := Lib.hid (rByte_any wr p q B a' e' hR HB.out)
      have HS := Lib.hid hst
      have HU := Lib.hid (unitV_succ j)
      generalize rdByte B a' e' = t at *
      obtain ⟨b, a2, e2⟩ := t
      generalize hun : unitV j = un at *
      simp only at hb0 hb1 H
      clear hR hst hun
      go_wp2_with fail
      refine H.out.mono ?_
      rintro E W2 ⟨rfl, hG⟩
      have HF := Lib.hid (HS.out W2 hG)
      clear hG H HS
      go_wp2_with fail
      go_roundw
      case rel => exact ⟨j + 1, _, by show _ ≤ _; omega, by go_num, rfl, by rw [HU.out], HF⟩
      case measure => simp [intOf]; omega
    · obtain rfl : j = 8 := by have := hjn.out; omega
      rcases hF.out with ⟨rfl, h1, h2, rfl⟩ | ⟨a', e', h1, h2, h3⟩
      · have HV := Lib.hid (show fixM B a 8 = .ok (leN ((B.drop a).take 8), a + 8) from if_pos h1)
        obtain ⟨A1, k, d0, d1, d2, l0, l1, l2, gle, gq, glt, ga⟩ := h2.1.cells
        have H2 := Lib.hid h2
        generalize leN ((B.drop a).take 8) = V at *
        generalize unitV 8 = un at *
        clear h2 gq hF
        go_wp2_with fail
        go_ret
        rw [HV.out]
        exact ⟨rfl, H2.out⟩
      · have he2 : (e' != 0) = true := by simp; exact h2
        obtain ⟨A1, k, d0, d1, d2, l0, l1, l2, gle, gq, glt, ga⟩ := h1.1.cells
        have H1 := Lib.hid h1
        have H3 := Lib.hid h3
        have HE := Lib.hid h2
        generalize unitV 8 = un at *
        clear h1 h3 h2 gq hF
        go_wp2_with fail
        refine (rBack_any _ _ _ _ _ a _ H1.out.1 ha).mono ?_
        rintro E W3 ⟨rfl, hG3⟩
        rw [if_neg HE.out] at hG3
        have HG3 := Lib.hid hG3
        clear hG3
        go_wp2_with fail
        go_ret
        rw [H3.out]
        exact ⟨rfl, H1.out.trans HG3.out⟩
end Go.Proofs.YtofaiocffifhfaaGreat
end
section
namespace Go.Proofs.YtofaiocffifhfaaGreat
open Go.RowKit Go.Shelf YtofaiocffifhfaaGreatB Go.Proofs.YtofaiocffifhfaaGreatW.PrintWords
def lenG (g : Nat) : Nat := [11, 11, 6, 6, 18, 18, 14, 14, 25].getD g 0
def cumG (g : Nat) : Nat := [0, 11, 22, 28, 34, 52, 70, 84, 98, 123].getD g 0
theorem cumG_succ (g : Nat) (hg : g ≤ 8) : cumG (g + 1) = cumG g + lenG g := by
  have : g = 0 ∨ g = 1 ∨ g = 2 ∨ g = 3 ∨ g = 4 ∨ g = 5 ∨ g = 6 ∨ g = 7 ∨ g = 8 := by omega
  rcases this with rfl | rfl | rfl | rfl | rfl | rfl | rfl | rfl | rfl <;> rfl
theorem lenG_le (g : Nat) (hg : g ≤ 8) : lenG g ≤ 25 := by
  have : g = 0 ∨ g = 1 ∨ g = 2 ∨ g = 3 ∨ g = 4 ∨ g = 5 ∨ g = 6 ∨ g = 7 ∨ g = 8 := by omega
  rcases this with rfl | rfl | rfl | rfl | rfl | rfl | rfl | rfl | rfl <;> decide
def numOp (op : Int) : Bool := decide (69 ≤ op ∧ op ≤ 191 ∨ 64512 ≤ op ∧ op ≤ 64519)
def lCodes : List Int := [0, 1, 2, 3, 4, 5, 11, 12, 13, 14, 15, 16, 17, 26, 27, 32, 33, 34, 35, 36, 63, 64, 65, 66, 67, 68]
def lImms : List Int := [0, 0, 1, 1, 1, 12, 12, 2, 2, 3, 0, 4, 5, 0, 0, 4, 4, 4, 4, 4, 7, 7, 8, 9, 10, 11]
def IntRow (W : World) (A : Option Addr) (L : List Int) : Prop := ∃ g, A = some ⟨g, 0, none⟩ ∧ ∀ j x, L[j]? = some x → W.cell? ⟨g, j, none⟩ = some (.int .i64 x)
set_option maxRecDepth 100000 in
theorem codes_any (W : World) : Calls Tryz.prog 135 #[] W fun E w' => (∃ A, E = .returned (.slice A 26 26) ∧ IntRow w' A lCodes) ∧ Below W.heap.size W w' := by
  go_enter Tryz.func135, Tryz.ntmps135
  go_wp2_with fail
  go_ret
  exact ⟨⟨_, rfl, W.heap.size, rfl, fun j x hx => ((Blk.new W (lCodes.map (Value.int .i64)).toArray 3).cell j).trans (by simp [hx])⟩, (Below.refl _ _).alloc (Nat.le_refl _) _⟩
set_option maxRecDepth 100000 in
theorem imms_any (W : World) : Calls Tryz.prog 136 #[] W fun E w' => (∃ A, E = .returned (.slice A 26 26) ∧ IntRow w' A lImms) ∧ Below W.heap.size W w' := by
  go_enter Tryz.func136, Tryz.ntmps136
  go_wp2_with fail
  go_ret
  exact ⟨⟨_, rfl, W.heap.size, rfl, fun j x hx => ((Blk.new W (lImms.map (Value.int .i64)).toArray 3).cell j).trans (by simp [hx])⟩, (Below.refl _ _).alloc (Nat.le_refl _) _⟩
def rImmV (op : Int) : Int := if (immM op).2 then (immM op).1 else -1
theorem rImm_code : ∀ j : Nat, j < 26 → rImmV (lCodes.getD j 0) = lImms.getD j 0 := by decide
theorem rImm_no (op : Int) (h : ∀ y ∈ lCodes, ¬ y = op) (h2 : ¬ (40 ≤ op ∧ op ≤ 62)) : rImmV op = if numOp op then 0 else -1 := by
  have h' : ∀ x ∈ lCodes, ¬ op = x := fun x hx e => h x hx e.symm
  simp only [lCodes, List.mem_cons, List.mem_nil_iff, or_false, forall_eq_or_imp, forall_eq] at h'
  unfold rImmV immM numOp
  simp [h', h2]
end Go.Proofs.YtofaiocffifhfaaGreat
end
section
namespace Go.Proofs.YtofaiocffifhfaaGreatB
open Go.RowKit
def okStr : Value → Bool | .string s => !s.toList.isEmpty && decide (s.size ≤ 100) | _ => false
/-- A row of words, none of them empty. -/
def StrRow (W : World) (A : Option Addr) (n : Nat) (t : TypeId) : Prop := ∃ g cs, A = some ⟨g, 0, none⟩ ∧ Blk W g cs t ∧ cs.size = n ∧ cs.all okStr = true
theorem StrRow.at_ {W : World} {A : Option Addr} {n : Nat} {t : TypeId} (h : StrRow W A n t) (i : Nat) (hi : i < n) : ∃ g s, A = some ⟨g, 0, none⟩ ∧ W.cell? ⟨g, i, none⟩ = some (.string s) ∧ s.toList.isEmpty = false ∧ s.size ≤ 100 := by
  obtain ⟨g, cs, rfl, hb, hs, ha⟩ := h
  have hx : cs[i]? = some cs[i] := Array.getElem?_eq_getElem (by omega)
  have hk : okStr cs[i] = true := by
    rw [Array.all_eq_true] at ha
    exact ha i (by omega)
  generalize cs[i] = v at *
  cases v <;> simp [okStr] at hk
  exact ⟨g, _, rfl, by rw [hb.cell]; exact hx, by simpa using hk.1, hk.2⟩
theorem StrRow.below {W W' : World} {A : Option Addr} {n : Nat} {t : TypeId} (h : StrRow W A n t) (hb : Below W.heap.size W W') : StrRow W' A n t := by
  obtain ⟨g, cs, e, h1, h2, h3⟩ := h
  exact ⟨g, cs, e, h1.below hb h1.lt, h2, h3⟩
end Go.Proofs.YtofaiocffifhfaaGreatB
namespace Go.Proofs.YtofaiocffifhfaaGreat
open Go.RowKit Go.Shelf YtofaiocffifhfaaGreatB Go.Proofs.YtofaiocffifhfaaGreatW.PrintWords
set_option maxRecDepth 100000 in
theorem relations_any (W : World) : Calls Tryz.prog 152 #[] W fun E w' => (∃ A, E = .returned (.slice A 11 11) ∧ StrRow w' A 11 9) ∧ Below W.heap.size W w' := by
  go_enter Tryz.func152, Tryz.ntmps152
  go_wp2_with fail
  go_ret
  exact ⟨⟨_, rfl, _, _, rfl, Blk.new _ _ _, rfl, by decide +kernel⟩, (Below.refl _ _).alloc (Nat.le_refl _) _⟩
set_option maxRecDepth 100000 in
theorem floats_any (W : World) : Calls Tryz.prog 153 #[] W fun E w' => (∃ A, E = .returned (.slice A 6 6) ∧ StrRow w' A 6 9) ∧ Below W.heap.size W w' := by
  go_enter Tryz.func153, Tryz.ntmps153
  go_wp2_with fail
  go_ret
  exact ⟨⟨_, rfl, _, _, rfl, Blk.new _ _ _, rfl, by decide +kernel⟩, (Below.refl _ _).alloc (Nat.le_refl _) _⟩
set_option maxRecDepth 100000 in
theorem wholes_any (W : World) : Calls Tryz.prog 154 #[] W fun E w' => (∃ A, E = .returned (.slice A 18 18) ∧ StrRow w' A 18 9) ∧ Below W.heap.size W w' := by
  go_enter Tryz.func154, Tryz.ntmps154
  go_wp2_with fail
  go_ret
  exact ⟨⟨_, rfl, _, _, rfl, Blk.new _ _ _, rfl, by decide +kernel⟩, (Below.refl _ _).alloc (Nat.le_refl _) _⟩
set_option maxRecDepth 100000 in
theorem doubles_any (W : World) : Calls Tryz.prog 155 #[] W fun E w' => (∃ A, E = .returned (.slice A 14 14) ∧ StrRow w' A 14 9) ∧ Below W.heap.size W w' := by
  go_enter Tryz.func155, Tryz.ntmps155
  go_wp2_with fail
  go_ret
  exact ⟨⟨_, rfl, _, _, rfl, Blk.new _ _ _, rfl, by decide +kernel⟩, (Below.refl _ _).alloc (Nat.le_refl _) _⟩
set_option maxRecDepth 100000 in
theorem turns_any (W : World) : Calls Tryz.prog 156 #[] W fun E w' => (∃ A, E = .returned (.slice A 25 25) ∧ StrRow w' A 25 9) ∧ Below W.heap.size W w' := by
  go_enter Tryz.func156, Tryz.ntmps156
  go_wp2_with fail
  go_ret
  exact ⟨⟨_, rfl, _, _, rfl, Blk.new _ _ _, rfl, by decide +kernel⟩, (Below.refl _ _).alloc (Nat.le_refl _) _⟩
set_option maxRecDepth 100000 in
theorem sats_any (W : World) : Calls Tryz.prog 142 #[] W fun E w' => (∃ A, E = .returned (.slice A 8 8) ∧ StrRow w' A 8 9) ∧ Below W.heap.size W w' := by
  go_enter Tryz.func142, Tryz.ntmps142
  go_wp2_with fail
  go_ret
  exact ⟨⟨_, rfl, _, _, rfl, Blk.new _ _ _, rfl, by decide +kernel⟩, (Below.refl _ _).alloc (Nat.le_refl _) _⟩
/-- What stands ahead of each group's words. -/
def gFirst : Array Value := #[.string ⟨#[105, 51, 50, 46]⟩, .string ⟨#[105, 54, 52, 46]⟩, .string ⟨#[102, 51, 50, 46]⟩, .string ⟨#[102, 54, 52, 46]⟩, .string ⟨#[105, 51, 50, 46]⟩, .string ⟨#[105, 54, 52, 46]⟩, .string ⟨#[102, 51, 50, 46]⟩, .string ⟨#[102, 54, 52, 46]⟩, .string ⟨#[]⟩]
def GroupPost (W : World) (n : Nat) (E : Ending) (w' : World) : Prop := (∃ f A, E = .returned (.tuple #[.string f, .slice A n n]) ∧ f.size ≤ 100 ∧ StrRow w' A n 9) ∧ Below W.heap.size W w'
set_option maxRecDepth 100000 in
set_option maxHeartbeats 1000000 in
theorem group_0 (W : World) : Calls Tryz.prog 143 #[.int .i64 0] W (GroupPost W 11) := by
  go_enter Tryz.func143, Tryz.ntmps143
  go_wp2_with fail
  have hsz := World.size_alloc W (.cells gFirst 9)
  have hB0 := (Below.refl W.heap.size W).alloc (Nat.le_refl _) (.cells gFirst 9)
  have c0 : (W.alloc (.cells gFirst 9)).cell? ⟨W.heap.size, 0, none⟩ = gFirst[0]? := by rw [(Blk.new W gFirst 9).cell]
  obtain ⟨f, hf, hfs⟩ : ∃ f, gFirst[0]? = some (.string f) ∧ f.size ≤ 100 := ⟨_, rfl, by decide⟩
  rw [hf] at c0
  change Code.wp _ _ _ _ (W.alloc (.cells gFirst 9))
  generalize W.alloc (.cells gFirst 9) = W0 at *
  have hB0' := Lib.hid hB0
  have hz := Lib.hid hsz
  clear hf hB0 hsz
  go_region_held3 (fun w' => w'.cell? ⟨W.heap.size, 0, none⟩ = some (.string f) ∧ Below W0.heap.size W0 w')
    (first | exact ⟨c0, (Below.refl _ _).drew⟩ | exact ⟨pw_cell_below (w := W0.drew) hB3 c0, ((Below.refl _ _).drew).trans hB3⟩)
    (first | (go_at_call 152; refine (relations_any _).mono ?_; rintro E w3 ⟨⟨A, rfl, hS3⟩, hB3⟩))
  all_goals
    rename_i hS
    obtain ⟨d0, hB4⟩ := hS
    have HS3 := Lib.hid hS3
    have HB := Lib.hid (hB0'.out.trans (hB4.mono (by have := hz.out; omega)))
    clear hS3 hB3 hB4
    go_wp2_with fail
    go_ret2
    exact ⟨⟨f, A, rfl, hfs, HS3.out⟩, HB.out⟩
set_option maxRecDepth 100000 in
set_option maxHeartbeats 1000000 in
theorem group_1 (W : World) : Calls Tryz.prog 143 #[.int .i64 1] W (GroupPost W 11) := by
  go_enter Tryz.func143, Tryz.ntmps143
  go_wp2_with fail
  have hsz := World.size_alloc W (.cells gFirst 9)
  have hB0 := (Below.refl W.heap.size W).alloc (Nat.le_refl _) (.cells gFirst 9)
  have c0 : (W.alloc (.cells gFirst 9)).cell? ⟨W.heap.size, 1, none⟩ = gFirst[1]? := by rw [(Blk.new W gFirst 9).cell]
  obtain ⟨f, hf, hfs⟩ : ∃ f, gFirst[1]? = some (.string f) ∧ f.size ≤ 100 := ⟨_, rfl, by decide⟩
  rw [hf] at c0
  change Code.wp _ _ _ _ (W.alloc (.cells gFirst 9))
  generalize W.alloc (.cells gFirst 9) = W0 at *
  have hB0' := Lib.hid hB0
  have hz := Lib.hid hsz
  clear hf hB0 hsz
  go_region_held3 (fun w' => w'.cell? ⟨W.heap.size, 1, none⟩ = some (.string f) ∧ Below W0.heap.size W0 w')
    (first | exact ⟨c0, (Below.refl _ _).drew⟩ | exact ⟨pw_cell_below (w := W0.drew) hB3 c0, ((Below.refl _ _).drew).trans hB3⟩)
    (first | (go_at_call 152; refine (relations_any _).mono ?_; rintro E w3 ⟨⟨A, rfl, hS3⟩, hB3⟩))
  all_goals
    rename_i hS
    obtain ⟨d0, hB4⟩ := hS
    have HS3 := Lib.hid hS3
    have HB := Lib.hid (hB0'.out.trans (hB4.mono (by have := hz.out; omega)))
    clear hS3 hB3 hB4
    go_wp2_with fail
    go_ret2
    exact ⟨⟨f, A, rfl, hfs, HS3.out⟩, HB.out⟩
set_option maxRecDepth 100000 in
set_option maxHeartbeats 1000000 in
theorem group_2 (W : World) : Calls Tryz.prog 143 #[.int .i64 2] W (GroupPost W 6) := by
  go_enter Tryz.func143, Tryz.ntmps143
  go_wp2_with fail
  have hsz := World.size_alloc W (.cells gFirst 9)
  have hB0 := (Below.refl W.heap.size W).alloc (Nat.le_refl _) (.cells gFirst 9)
  have c0 : (W.alloc (.cells gFirst 9)).cell? ⟨W.heap.size, 2, none⟩ = gFirst[2]? := by rw [(Blk.new W gFirst 9).cell]
  obtain ⟨f, hf, hfs⟩ : ∃ f, gFirst[2]? = some (.string f) ∧ f.size ≤ 100 := ⟨_, rfl, by decide⟩
  rw [hf] at c0
  change Code.wp _ _ _ _ (W.alloc (.cells gFirst 9))
  generalize W.alloc (.cells gFirst 9) = W0 at *
  have hB0' := Lib.hid hB0
  have hz := Lib.hid hsz
  clear hf hB0 hsz
  go_region_held3 (fun w' => w'.cell? ⟨W.heap.size, 2, none⟩ = some (.string f) ∧ Below W0.heap.size W0 w')
    (first | exact ⟨c0, (Below.refl _ _).drew⟩ | exact ⟨pw_cell_below (w := W0.drew) hB3 c0, ((Below.refl _ _).drew).trans hB3⟩)
    (first | (go_at_call 153; refine (floats_any _).mono ?_; rintro E w3 ⟨⟨A, rfl, hS3⟩, hB3⟩))
  all_goals
    rename_i hS
    obtain ⟨d0, hB4⟩ := hS
    have HS3 := Lib.hid hS3
    have HB := Lib.hid (hB0'.out.trans (hB4.mono (by have := hz.out; omega)))
    clear hS3 hB3 hB4
    go_wp2_with fail
    go_ret2
    exact ⟨⟨f, A, rfl, hfs, HS3.out⟩, HB.out⟩
set_option maxRecDepth 100000 in
set_option maxHeartbeats 1000000 in
theorem group_3 (W : World) : Calls Tryz.prog 143 #[.int .i64 3] W (GroupPost W 6) := by
  go_enter Tryz.func143, Tryz.ntmps143
  go_wp2_with fail
  have hsz := World.size_alloc W (.cells gFirst 9)
  have hB0 := (Below.refl W.heap.size W).alloc (Nat.le_refl _) (.cells gFirst 9)
  have c0 : (W.alloc (.cells gFirst 9)).cell? ⟨W.heap.size, 3, none⟩ = gFirst[3]? := by rw [(Blk.new W gFirst 9).cell]
  obtain ⟨f, hf, hfs⟩ : ∃ f, gFirst[3]? = some (.string f) ∧ f.size ≤ 100 := ⟨_, rfl, by decide⟩
  rw [hf] at c0
  change Code.wp _ _ _ _ (W.alloc (.cells gFirst 9))
  generalize W.alloc (.cells gFirst 9) = W0 at *
  have hB0' := Lib.hid hB0
  have hz := Lib.hid hsz
  clear hf hB0 hsz
  go_region_held3 (fun w' => w'.cell? ⟨W.heap.size, 3, none⟩ = some (.string f) ∧ Below W0.heap.size W0 w')
    (first | exact ⟨c0, (Below.refl _ _).drew⟩ | exact ⟨pw_cell_below (w := W0.drew) hB3 c0, ((Below.refl _ _).drew).trans hB3⟩)
    (first | (go_at_call 153; refine (floats_any _).mono ?_; rintro E w3 ⟨⟨A, rfl, hS3⟩, hB3⟩))
  all_goals
    rename_i hS
    obtain ⟨d0, hB4⟩ := hS
    have HS3 := Lib.hid hS3
    have HB := Lib.hid (hB0'.out.trans (hB4.mono (by have := hz.out; omega)))
    clear hS3 hB3 hB4
    go_wp2_with fail
    go_ret2
    exact ⟨⟨f, A, rfl, hfs, HS3.out⟩, HB.out⟩
set_option maxRecDepth 100000 in
set_option maxHeartbeats 1000000 in
theorem group_4 (W : World) : Calls Tryz.prog 143 #[.int .i64 4] W (GroupPost W 18) := by
  go_enter Tryz.func143, Tryz.ntmps143
  go_wp2_with fail
  have hsz := World.size_alloc W (.cells gFirst 9)
  have hB0 := (Below.refl W.heap.size W).alloc (Nat.le_refl _) (.cells gFirst 9)
  have c0 : (W.alloc (.cells gFirst 9)).cell? ⟨W.heap.size, 4, none⟩ = gFirst[4]? := by rw [(Blk.new W gFirst 9).cell]
  obtain ⟨f, hf, hfs⟩ : ∃ f, gFirst[4]? = some (.string f) ∧ f.size ≤ 100 := ⟨_, rfl, by decide⟩
  rw [hf] at c0
  change Code.wp _ _ _ _ (W.alloc (.cells gFirst 9))
  generalize W.alloc (.cells gFirst 9) = W0 at *
  have hB0' := Lib.hid hB0
  have hz := Lib.hid hsz
  clear hf hB0 hsz
  go_region_held3 (fun w' => w'.cell? ⟨W.heap.size, 4, none⟩ = some (.string f) ∧ Below W0.heap.size W0 w')
    (first | exact ⟨c0, (Below.refl _ _).drew⟩ | exact ⟨pw_cell_below (w := W0.drew) hB3 c0, ((Below.refl _ _).drew).trans hB3⟩)
    (first | (go_at_call 154; refine (wholes_any _).mono ?_; rintro E w3 ⟨⟨A, rfl, hS3⟩, hB3⟩))
  all_goals
    rename_i hS
    obtain ⟨d0, hB4⟩ := hS
    have HS3 := Lib.hid hS3
    have HB := Lib.hid (hB0'.out.trans (hB4.mono (by have := hz.out; omega)))
    clear hS3 hB3 hB4
    go_wp2_with fail
    go_ret2
    exact ⟨⟨f, A, rfl, hfs, HS3.out⟩, HB.out⟩
set_option maxRecDepth 100000 in
set_option maxHeartbeats 1000000 in
theorem group_5 (W : World) : Calls Tryz.prog 143 #[.int .i64 5] W (GroupPost W 18) := by
  go_enter Tryz.func143, Tryz.ntmps143
  go_wp2_with fail
  have hsz := World.size_alloc W (.cells gFirst 9)
  have hB0 := (Below.refl W.heap.size W).alloc (Nat.le_refl _) (.cells gFirst 9)
  have c0 : (W.alloc (.cells gFirst 9)).cell? ⟨W.heap.size, 5, none⟩ = gFirst[5]? := by rw [(Blk.new W gFirst 9).cell]
  obtain ⟨f, hf, hfs⟩ : ∃ f, gFirst[5]? = some (.string f) ∧ f.size ≤ 100 := ⟨_, rfl, by decide⟩
  rw [hf] at c0
  change Code.wp _ _ _ _ (W.alloc (.cells gFirst 9))
  generalize W.alloc (.cells gFirst 9) = W0 at *
  have hB0' := Lib.hid hB0
  have hz := Lib.hid hsz
  clear hf hB0 hsz
  go_region_held3 (fun w' => w'.cell? ⟨W.heap.size, 5, none⟩ = some (.string f) ∧ Below W0.heap.size W0 w')
    (first | exact ⟨c0, (Below.refl _ _).drew⟩ | exact ⟨pw_cell_below (w := W0.drew) hB3 c0, ((Below.refl _ _).drew).trans hB3⟩)
    (first | (go_at_call 154; refine (wholes_any _).mono ?_; rintro E w3 ⟨⟨A, rfl, hS3⟩, hB3⟩))
  all_goals
    rename_i hS
    obtain ⟨d0, hB4⟩ := hS
    have HS3 := Lib.hid hS3
    have HB := Lib.hid (hB0'.out.trans (hB4.mono (by have := hz.out; omega)))
    clear hS3 hB3 hB4
    go_wp2_with fail
    go_ret2
    exact ⟨⟨f, A, rfl, hfs, HS3.out⟩, HB.out⟩
set_option maxRecDepth 100000 in
set_option maxHeartbeats 1000000 in
theorem group_6 (W : World) : Calls Tryz.prog 143 #[.int .i64 6] W (GroupPost W 14) := by
  go_enter Tryz.func143, Tryz.ntmps143
  go_wp2_with fail
  have hsz := World.size_alloc W (.cells gFirst 9)
  have hB0 := (Below.refl W.heap.size W).alloc (Nat.le_refl _) (.cells gFirst 9)
  have c0 : (W.alloc (.cells gFirst 9)).cell? ⟨W.heap.size, 6, none⟩ = gFirst[6]? := by rw [(Blk.new W gFirst 9).cell]
  obtain ⟨f, hf, hfs⟩ : ∃ f, gFirst[6]? = some (.string f) ∧ f.size ≤ 100 := ⟨_, rfl, by decide⟩
  rw [hf] at c0
  change Code.wp _ _ _ _ (W.alloc (.cells gFirst 9))
  generalize W.alloc (.cells gFirst 9) = W0 at *
  have hB0' := Lib.hid hB0
  have hz := Lib.hid hsz
  clear hf hB0 hsz
  go_region_held3 (fun w' => w'.cell? ⟨W.heap.size, 6, none⟩ = some (.string f) ∧ Below W0.heap.size W0 w')
    (first | exact ⟨c0, (Below.refl _ _).drew⟩ | exact ⟨pw_cell_below (w := W0.drew) hB3 c0, ((Below.refl _ _).drew).trans hB3⟩)
    (first | (go_at_call 155; refine (doubles_any _).mono ?_; rintro E w3 ⟨⟨A, rfl, hS3⟩, hB3⟩))
  all_goals
    rename_i hS
    obtain ⟨d0, hB4⟩ := hS
    have HS3 := Lib.hid hS3
    have HB := Lib.hid (hB0'.out.trans (hB4.mono (by have := hz.out; omega)))
    clear hS3 hB3 hB4
    go_wp2_with fail
    go_ret2
    exact ⟨⟨f, A, rfl, hfs, HS3.out⟩, HB.out⟩
set_option maxRecDepth 100000 in
set_option maxHeartbeats 1000000 in
theorem group_7 (W : World) : Calls Tryz.prog 143 #[.int .i64 7] W (GroupPost W 14) := by
  go_enter Tryz.func143, Tryz.ntmps143
  go_wp2_with fail
  have hsz := World.size_alloc W (.cells gFirst 9)
  have hB0 := (Below.refl W.heap.size W).alloc (Nat.le_refl _) (.cells gFirst 9)
  have c0 : (W.alloc (.cells gFirst 9)).cell? ⟨W.heap.size, 7, none⟩ = gFirst[7]? := by rw [(Blk.new W gFirst 9).cell]
  obtain ⟨f, hf, hfs⟩ : ∃ f, gFirst[7]? = some (.string f) ∧ f.size ≤ 100 := ⟨_, rfl, by decide⟩
  rw [hf] at c0
  change Code.wp _ _ _ _ (W.alloc (.cells gFirst 9))
  generalize W.alloc (.cells gFirst 9) = W0 at *
  have hB0' := Lib.hid hB0
  have hz := Lib.hid hsz
  clear hf hB0 hsz
  go_region_held3 (fun w' => w'.cell? ⟨W.heap.size, 7, none⟩ = some (.string f) ∧ Below W0.heap.size W0 w')
    (first | exact ⟨c0, (Below.refl _ _).drew⟩ | exact ⟨pw_cell_below (w := W0.drew) hB3 c0, ((Below.refl _ _).drew).trans hB3⟩)
    (first | (go_at_call 155; refine (doubles_any _).mono ?_; rintro E w3 ⟨⟨A, rfl, hS3⟩, hB3⟩))
  all_goals
    rename_i hS
    obtain ⟨d0, hB4⟩ := hS
    have HS3 := Lib.hid hS3
    have HB := Lib.hid (hB0'.out.trans (hB4.mono (by have := hz.out; omega)))
    clear hS3 hB3 hB4
    go_wp2_with fail
    go_ret2
    exact ⟨⟨f, A, rfl, hfs, HS3.out⟩, HB.out⟩
set_option maxRecDepth 100000 in
set_option maxHeartbeats 1000000 in
theorem group_8 (W : World) : Calls Tryz.prog 143 #[.int .i64 8] W (GroupPost W 25) := by
  go_enter Tryz.func143, Tryz.ntmps143
  go_wp2_with fail
  have hsz := World.size_alloc W (.cells gFirst 9)
  have hB0 := (Below.refl W.heap.size W).alloc (Nat.le_refl _) (.cells gFirst 9)
  have c0 : (W.alloc (.cells gFirst 9)).cell? ⟨W.heap.size, 8, none⟩ = gFirst[8]? := by rw [(Blk.new W gFirst 9).cell]
  obtain ⟨f, hf, hfs⟩ : ∃ f, gFirst[8]? = some (.string f) ∧ f.size ≤ 100 := ⟨_, rfl, by decide⟩
  rw [hf] at c0
  change Code.wp _ _ _ _ (W.alloc (.cells gFirst 9))
  generalize W.alloc (.cells gFirst 9) = W0 at *
  have hB0' := Lib.hid hB0
  have hz := Lib.hid hsz
  clear hf hB0 hsz
  go_region_held3 (fun w' => w'.cell? ⟨W.heap.size, 8, none⟩ = some (.string f) ∧ Below W0.heap.size W0 w')
    (first | exact ⟨c0, (Below.refl _ _).drew⟩ | exact ⟨pw_cell_below (w := W0.drew) hB3 c0, ((Below.refl _ _).drew).trans hB3⟩)
    (first | (go_at_call 156; refine (turns_any _).mono ?_; rintro E w3 ⟨⟨A, rfl, hS3⟩, hB3⟩))
  all_goals
    rename_i hS
    obtain ⟨d0, hB4⟩ := hS
    have HS3 := Lib.hid hS3
    have HB := Lib.hid (hB0'.out.trans (hB4.mono (by have := hz.out; omega)))
    clear hS3 hB3 hB4
    go_wp2_with fail
    go_ret2
    exact ⟨⟨f, A, rfl, hfs, HS3.out⟩, HB.out⟩
end Go.Proofs.YtofaiocffifhfaaGreat
end
section
namespace Go.Proofs.YtofaiocffifhfaaGreat
open Go.RowKit Go.Shelf YtofaiocffifhfaaGreatB Go.Proofs.YtofaiocffifhfaaGreatW.PrintWords
theorem group_any (W : World) (g : Nat) (hg : g ≤ 8) : Calls Tryz.prog 143 #[.int .i64 g] W (GroupPost W (lenG g)) := by
  have : g = 0 ∨ g = 1 ∨ g = 2 ∨ g = 3 ∨ g = 4 ∨ g = 5 ∨ g = 6 ∨ g = 7 ∨ g = 8 := by omega
  rcases this with rfl | rfl | rfl | rfl | rfl | rfl | rfl | rfl | rfl
  · exact group_0 W
  · exact group_1 W
  · exact group_2 W
  · exact group_3 W
  · exact group_4 W
  · exact group_5 W
  · exact group_6 W
  · exact group_7 W
  · exact group_8 W
theorem app_ne (f s : ByteArray) (h : s.toList.isEmpty = false) : (f ++ s).toList.isEmpty = !true := by
  rw [ByteArray.toList_eq] at h ⊢
  rw [ByteArray.data_append, Array.toList_append]
  cases hs : s.data.toList with
  | nil => rw [hs] at h; cases h
  | cons a r => simp
def RNamePost (W : World) (b : Bool) (E : Ending) (w' : World) : Prop := (∃ s, E = .returned (.string s) ∧ s.toList.isEmpty = !b) ∧ Below W.heap.size W w'
set_option maxRecDepth 100000 in
theorem rName_sat (W : World) (op : Int) (h0 : 64512 ≤ op) (h1 : op ≤ 64519) : Calls Tryz.prog 137 #[.int .i64 op] W (RNamePost W true) := by
  have hw0 : 0 ≤ op - 64512 := by omega
  have hw1 : op - 64512 < 8 := by omega
  go_enter Tryz.func137, Tryz.ntmps137
  go_wp2_with fail
  refine (sats_any _).mono ?_
  rintro E W1 ⟨⟨A, rfl, hS⟩, hB⟩
  obtain ⟨g, s, rfl, hc, hs, hss⟩ := hS.at_ (op - 64512).toNat (by omega)
  have HB := Lib.hid hB
  have HS := Lib.hid hs
  clear hS hB hs
  go_wp2_with fail
  go_ret
  exact ⟨⟨s, rfl, HS.out⟩, HB.out⟩
set_option maxRecDepth 100000 in
theorem rName_none (W : World) (op : Int) (h0 : 0 ≤ op) (h1 : op ≤ 5000000000) (h2 : op < 69 ∨ 191 < op) (h3 : op < 64512 ∨ 64519 < op) : Calls Tryz.prog 137 #[.int .i64 op] W (RNamePost W false) := by
  rcases h2 with h2 | h2
  all_goals
    rcases h3 with h3 | h3
    all_goals
      first
        | (exfalso; omega)
        | (go_enter Tryz.func137, Tryz.ntmps137
           go_wp2_with fail
           go_ret
           exact ⟨⟨_, rfl, by rw [ByteArray.toList_eq]; rfl⟩, Below.refl _ _⟩)
set_option maxRecDepth 100000 in
set_option maxHeartbeats 1000000 in
theorem rName_num (W : World) (op : Int) (h0 : 69 ≤ op) (h1 : op ≤ 191) : Calls Tryz.prog 137 #[.int .i64 op] W (RNamePost W true) := by
  go_enter Tryz.func137, Tryz.ntmps137
  go_wp2_with fail
  go_loopw [3, 4] (fun i g wr => ∃ j : Nat, j ≤ 9 ∧ g = .int .i64 j ∧ i = .int .i64 (op - 69 - cumG j) ∧ Hid ((cumG j : Int) ≤ op - 69) ∧ Below W.heap.size W wr) (fun _ g _ => 9 - (intOf g).toNat)
  case atStart => exact ⟨0, by omega, rfl, by simp [cumG], by show _ ≤ _; simp [cumG]; omega, Below.refl _ _⟩
  case round =>
    obtain ⟨j, hj, rfl, rfl, hcu, hB⟩ := hrel
    by_cases hlt : j < 9
    · have HG := Lib.hid (group_any wr j (by omega))
      have HS := Lib.hid (cumG_succ j (by omega))
      have hle := lenG_le j (by omega)
      obtain ⟨k, hk⟩ : ∃ k : Nat, op - 69 - cumG j = (k : Int) := ⟨(op - 69 - cumG j).toNat, by have := hcu.out; omega⟩
      have HK := Lib.hid hk
      rw [hk]
      have hk2 : (k : Int) ≤ 122 := by omega
      generalize lenG j = n at *
      generalize cumG j = cu at *
      clear hk hcu
      have HB := Lib.hid hB
      clear hB
      by_cases hkn : k < n
      · have hkn2 : (k : Int) < (n : Int) := by omega
        go_wp2_with fail
        refine HG.out.mono ?_
        rintro E W1 ⟨⟨f, A, rfl, hfs, hS⟩, hB1⟩
        obtain ⟨gg, s, rfl, hc, hs, hss⟩ := hS.at_ k hkn
        have HB2 := Lib.hid (HB.out.trans (hB1.mono HB.out.size))
        have HS2 := Lib.hid hs
        clear hS hB1 hs HG
        go_wp2_with fail
        go_ret
        exact ⟨⟨f ++ s, rfl, app_ne f s HS2.out⟩, HB2.out⟩
      · have hkn2 : (n : Int) ≤ (k : Int) := by omega
        go_wp2_with fail
        refine HG.out.mono ?_
        rintro E W1 ⟨⟨f, A, rfl, hfs, hS⟩, hB1⟩
        have HB2 := Lib.hid (HB.out.trans (hB1.mono HB.out.size))
        clear hS hB1 HG
        go_wp2_with fail
        go_roundw
        case rel => exact ⟨j + 1, by omega, by go_num, by rw [HS.out]; congr 1; have := HK.out; omega, by show _ ≤ _; rw [HS.out]; have := HK.out; omega, HB2.out⟩
        case measure => simp [intOf]; omega
    · exfalso
      obtain rfl : j = 9 := by omega
      have h9 : (cumG 9 : Int) = 123 := rfl
      have := hcu.out
      omega
theorem rName_any (W : World) (op : Int) (h0 : 0 ≤ op) (h1 : op ≤ 5000000000) : Calls Tryz.prog 137 #[.int .i64 op] W (RNamePost W (numOp op)) := by
  by_cases c1 : 69 ≤ op ∧ op ≤ 191
  · rw [show numOp op = true from decide_eq_true (.inl c1)]; exact rName_num W op c1.1 c1.2
  by_cases c2 : 64512 ≤ op ∧ op ≤ 64519
  · rw [show numOp op = true from decide_eq_true (.inr c2)]; exact rName_sat W op c2.1 c2.2
  rw [show numOp op = false from decide_eq_false (by omega)]; exact rName_none W op h0 h1 (by omega) (by omega)
set_option maxRecDepth 100000 in
set_option maxHeartbeats 1000000 in
theorem rImm_any (W : World) (op : Int) (h0 : 0 ≤ op) (h1 : op ≤ 5000000000) : Calls Tryz.prog 126 #[.int .i64 op] W fun E w' => E = .returned (.int .i64 (rImmV op)) ∧ Below W.heap.size W w' := by
  go_enter Tryz.func126, Tryz.ntmps126
  go_wp2_with fail
  refine (codes_any _).mono ?_
  rintro E W1 ⟨⟨A, rfl, hL⟩, hB1⟩
  have HL := Lib.hid hL
  have HB1 := Lib.hid hB1
  clear hL hB1
  go_wp2_with fail
  go_loop [4] (fun k => ∃ j : Nat, j ≤ 26 ∧ k = .int .i64 j ∧ Hid (∀ y ∈ lCodes.take j, ¬ y = op)) (fun k => 26 - (intOf k).toNat)
  case atStart => exact ⟨0, by omega, rfl, by intro y hy; simp at hy⟩
  case round =>
    obtain ⟨j, hj, rfl, hno⟩ := hrel
    by_cases hlt : j < 26
    · have hlt2 : (j : Int) < 26 := by omega
      have hx : lCodes[j]? = some (lCodes.getD j 0) := by rw [List.getD_eq_getElem?_getD, List.getElem?_eq_getElem (show j < lCodes.length from hlt)]; rfl
      have HI := Lib.hid (rImm_code j hlt)
      obtain ⟨g, rfl, hc⟩ := HL.out
      have c0 := hc j _ hx
      have HX := Lib.hid hx
      generalize lCodes.getD j 0 = x at *
      clear hc hx
      by_cases hxo : x = op
      · have hxb : (x == op) = true := by simpa using hxo
        rw [hxo] at HI
        clear hxo
        go_wp2_with fail
        refine (imms_any _).mono ?_
        rintro E W2 ⟨⟨A2, rfl, hL2⟩, hB2⟩
        obtain ⟨g2, rfl, hc2⟩ := hL2
        have hy : lImms[j]? = some (lImms.getD j 0) := by rw [List.getD_eq_getElem?_getD, List.getElem?_eq_getElem (show j < lImms.length from hlt)]; rfl
        have c2 := hc2 j _ hy
        have HB2 := Lib.hid (HB1.out.trans (hB2.mono HB1.out.size))
        generalize lImms.getD j 0 = y at *
        clear hc2 hy hB2
        go_wp2_with fail
        go_ret
        rw [HI.out]
        exact ⟨rfl, HB2.out⟩
      · have hxb : (x == op) = false := by simpa using hxo
        have HN := Lib.hid (take_all_succ hno.out HX.out hxo)
        clear hxo
        go_wp2_with fail
        go_round
        case rel => exact ⟨j + 1, by omega, by go_num, HN⟩
        case measure => simp [intOf]; omega
    · obtain rfl : j = 26 := by omega
      have hall : ∀ y ∈ lCodes, ¬ y = op := hno.out
      by_cases hm : 40 ≤ op ∧ op ≤ 62
      · obtain ⟨hm0, hm1⟩ := hm
        have HV := Lib.hid (show rImmV op = 6 from by
          have h' : ∀ x ∈ lCodes, ¬ op = x := fun x hx e => hall x hx e.symm
          simp only [lCodes, List.mem_cons, List.mem_nil_iff, or_false, forall_eq_or_imp, forall_eq] at h'
          unfold rImmV immM
          simp [h', hm0, hm1])
        clear hall
        go_wp2_with fail
        go_ret
        rw [HV.out]
        exact ⟨rfl, HB1.out⟩
      · have HV := Lib.hid (rImm_no op hall hm)
        have HN := Lib.hid (rName_any W1 op h0 h1)
        clear hall
        generalize numOp op = b at *
        by_cases hm0 : 40 ≤ op
        all_goals
          have hm1 : 62 < op ∨ op < 40 := by omega
          cases b
          all_goals
            go_wp2_with fail
            refine HN.out.mono ?_
            rintro E W2 ⟨⟨s, rfl, hs⟩, hB2⟩
            have HB2 := Lib.hid (HB1.out.trans (hB2.mono HB1.out.size))
            simp only [Bool.not_true, Bool.not_false] at hs
            clear hB2
            go_wp2_with fail
            go_ret
            rw [HV.out]
            exact ⟨rfl, HB2.out⟩
end Go.Proofs.YtofaiocffifhfaaGreat
end
section
namespace Go.Proofs.YtofaiocffifhfaaGreat
open Go.RowKit Go.Shelf YtofaiocffifhfaaGreatB Go.Proofs.YtofaiocffifhfaaGreatW.PrintWords
/-- The reader of instructions, at R over the cursor at p. -/
def Rp (W : World) (R p : Nat) (sat : Bool) (deep : Int) : Prop := Blk W R #[.pointer (some ⟨p, 0, none⟩), .bool sat, .int .i64 deep] 218
theorem Rp.cells {W : World} {R p : Nat} {sat : Bool} {deep : Int} (h : Rp W R p sat deep) : W.cell? ⟨R, 0, none⟩ = some (.pointer (some ⟨p, 0, none⟩)) ∧ W.cell? ⟨R, 1, none⟩ = some (.bool sat) ∧ W.cell? ⟨R, 2, none⟩ = some (.int .i64 deep) ∧ W.frozen? ⟨R, 2, none⟩ = false ∧ R < W.heap.size :=
  ⟨by rw [h.cell]; rfl, by rw [h.cell]; rfl, by rw [h.cell]; rfl, h.frozen 2, h.lt⟩
theorem Rp.goes {W W' : World} {R p q : Nat} {sat : Bool} {deep : Int} {B : List Int} {a : Nat} {e : Int} (h : Rp W R p sat deep) (hR : R ≠ p) (hG : Goes W W' p q B a e) : Rp W' R p sat deep := Blk.grown h hG.2 (by simpa using hR)
theorem rgood_any (W : World) (R p q : Nat) (sat : Bool) (deep : Int) (B : List Int) (a : Nat) (e : Int) (b : Bool) (hR : Rp W R p sat deep) (hC : Cur W p q B a e) (hb : (e == 0) = b) :
    Calls Tryz.prog 134 #[.pointer (some ⟨R, 0, none⟩)] W fun E w' => E = .returned (.bool b) ∧ W = w' := by
  obtain ⟨r0, r1, r2, rf, rlt⟩ := hR.cells
  have H := Lib.hid (err_any W p q B a e hC)
  have HB := Lib.hid hb
  clear hR hC hb
  go_enter Tryz.func134, Tryz.ntmps134
  go_wp2_with fail
  refine H.out.mono ?_
  rintro E w' ⟨rfl, rfl⟩
  go_wp2_with fail
  go_ret
  exact ⟨by rw [← HB.out]; rfl, rfl⟩
def peekM (B : List Int) (a : Nat) (e : Int) : Int × Int := if e = 0 then (match B[a]? with | some x => (x, 0) | none => (0, 100)) else (0, e)
theorem peek_byte (B : List Int) (a : Nat) (e : Int) : (rdByte B a e).1 = (peekM B a e).1 ∧ (rdByte B a e).2.2 = (peekM B a e).2 := by
  unfold rdByte peekM
  by_cases he : e = 0
  · simp only [he, if_true]; cases B[a]? <;> exact ⟨rfl, rfl⟩
  · simp only [he, if_false, and_self]
theorem peek_fail (B : List Int) (a : Nat) (e : Int) : failE e (peekM B a e).2 = (peekM B a e).2 := by
  unfold failE peekM
  by_cases he : e = 0
  · simp only [he, if_true]
  · simp only [he, if_false]
theorem Cur.copy {W : World} {p q : Nat} {B : List Int} {a : Nat} {e : Int} {A : Option Addr} {c : Nat} (hC : Cur W p q B a e) (hc0 : W.cell? ⟨p, 0, none⟩ = some (.slice A B.length c)) :
    ∃ q', Cur (W.alloc (.cells #[.slice A B.length c, .int .i64 a, .int .i64 e] 124)) W.heap.size q' B a e := by
  obtain ⟨h0, h1, A', c', h2, h3, h4⟩ := hC
  have he : some (Value.slice A B.length c) = some (Value.slice A' B.length c') := by rw [← hc0, h3.cell]; rfl
  simp only [Option.some.injEq, Value.slice.injEq] at he
  obtain ⟨rfl, _, rfl⟩ := he
  rcases Nat.eq_zero_or_pos B.length with hz | hz
  · exact ⟨W.heap.size + 1, by omega, h1, A, c, h2, Blk.new _ _ _, fun hp => by omega⟩
  · have hql : q < W.heap.size := by
      obtain ⟨o, e, hcell⟩ := h4 hz
      exact World.block_lt_of_cell? _ _ (hcell 0 _ (List.getElem?_eq_getElem hz))
    exact ⟨q, by omega, h1, A, c, h2, Blk.new _ _ _, h4.grown (World.grownBy_alloc W _ none) (by simp)⟩
theorem goes_below {W W1 W2 : World} {p q c' q' : Nat} {B : List Int} {a a2 : Nat} {e e2 : Int} (hC : Cur W p q B a e) (h0 : Below W.heap.size W W1) (h : Goes W1 W2 c' q' B a2 e2) (hc : W.heap.size ≤ c') : Goes W W2 p q B a e := by
  have hb := h0.grown h.2 h0.size (fun k e => by cases e; exact hc)
  exact ⟨hC.below hb, grown_below hb _⟩
set_option maxRecDepth 100000 in
set_option maxHeartbeats 1000000 in
theorem peek_any (W : World) (R p q : Nat) (sat : Bool) (deep : Int) (B : List Int) (a : Nat) (e : Int) (hR : Rp W R p sat deep) (hRp : R ≠ p) (hC : Cur W p q B a e) (hB : Byts B) :
    Calls Tryz.prog 140 #[.pointer (some ⟨R, 0, none⟩)] W fun E w' => E = .returned (.int .u8 (peekM B a e).1) ∧ Goes W w' p q B a (peekM B a e).2 := by
  obtain ⟨r0, r1, r2, rf, rlt⟩ := hR.cells
  obtain ⟨A, c, c0, c1, c2, f0, f1, f2, hle, hq, hlt, ha⟩ := hC.cells
  obtain ⟨q', hC1⟩ := hC.copy c0
  have HByte := Lib.hid (Byte_any _ W.heap.size q' B a e hC1 hB)
  rw [(peek_byte B a e).1, (peek_byte B a e).2] at HByte
  have HPF := Lib.hid (peek_fail B a e)
  generalize peekM B a e = t at *
  obtain ⟨v, e2⟩ := t
  have HC := Lib.hid hC
  have HR := Lib.hid hR
  generalize (rdByte B a e).2.1 = a2 at *
  clear hC hq hC1 hB hR
  go_enter Tryz.func140, Tryz.ntmps140
  go_wp2_with fail
  refine HByte.out.mono ?_
  rintro E W1 ⟨rfl, hG⟩
  have HG := Lib.hid (goes_below HC.out ((Below.refl _ _).alloc (Nat.le_refl _) _) hG (Nat.le_refl _))
  have HGc := Lib.hid hG.1
  clear HByte hG
  go_wp2_with fail
  refine (err_any _ _ _ _ _ _ HGc.out).mono ?_
  rintro E w' ⟨rfl, rfl⟩
  by_cases he : e2 = 0
  · subst he
    go_wp2_with fail
    go_ret
    have hz : e = 0 := by
      have := HPF.out
      unfold failE at this
      by_cases h : e = 0
      · exact h
      · simp only [h, if_false] at this
    rw [hz] at HG
    exact ⟨rfl, HG.out⟩
  · have he2 : (e2 != 0) = true := by simp; exact he
    have he3 := Lib.hid (beq_eq_false_iff_ne.2 he)
    have HR1 := Lib.hid (HR.out.goes hRp HG.out)
    obtain ⟨s0, s1, s2, sf, slt⟩ := HR1.out.cells
    have HEd := Lib.hid (err_any W1.drew _ _ _ _ _ (Goes.drewN HGc.out 1).1)
    have HFd := Lib.hid (Fail_any W1.drew _ _ _ _ _ e2 (Goes.drewN HG.out.1 1).1 he3.out)
    clear he r0 r1 r2 rf
    go_wp2_with fail
    go_region_held3 (fun w' => w'.cell? ⟨R, 0, none⟩ = some (.pointer (some ⟨p, 0, none⟩)))
      (first | exact s0 | exact hS0)
      (first
        | (go_at_call 15; refine HEd.out.mono ?_; rintro E w3 ⟨rfl, rfl⟩)
        | (go_at_call 36; refine HFd.out.mono ?_; rintro E w4 ⟨rfl, hG4⟩; have hS0 : w4.cell? ⟨R, 0, none⟩ = some (.pointer (some ⟨p, 0, none⟩)) := by rw [(HR1.out.drew.grown hG4.2 (by simpa using hRp)).cell]; rfl))
    have HG4 := Lib.hid (show Goes W1.drew w4 p q B a e2 from by have := hG4; rw [HPF.out] at this; exact this)
    clear hG4 hS0
    go_wp2_with fail
    go_ret
    exact ⟨rfl, (HG.out.trans (Goes.drewN HG.out.1 1)).trans HG4.out⟩
end Go.Proofs.YtofaiocffifhfaaGreat
end
section
namespace Go.Proofs.YtofaiocffifhfaaGreat
open Go.RowKit Go.Shelf YtofaiocffifhfaaGreatB Go.Proofs.YtofaiocffifhfaaGreatW.PrintWords
def secondM (B : List Int) (a : Nat) (e : Int) : Int × Nat × Int := let r := rdOf (u32M B a) a e; (64512 + r.1, r.2.1, if r.1 > 7 then failE r.2.2 108 else r.2.2)
theorem u32_bound (B : List Int) (a : Nat) (e : Int) (hB : Byts B) : 0 ≤ (rdOf (u32M B a) a e).1 ∧ (rdOf (u32M B a) a e).1 ≤ 4294967295 := by
  unfold rdOf
  by_cases he : e = 0
  · rw [if_pos he]
    cases hu : u32M B a with
    | error e' => simp [numV]
    | ok y =>
      obtain ⟨n, nx⟩ := y
      have := u32M_lt hB hu
      simp only [numV]
      omega
  · rw [if_neg he]; simp
set_option maxRecDepth 100000 in
theorem second_any (W : World) (R p q : Nat) (sat : Bool) (deep : Int) (B : List Int) (a : Nat) (e : Int) (hR : Rp W R p sat deep) (hRp : R ≠ p) (hC : Cur W p q B a e) (hB : Byts B) :
    Calls Tryz.prog 158 #[.pointer (some ⟨R, 0, none⟩)] W fun E w' => E = .returned (.int .i64 (secondM B a e).1) ∧ Goes W w' p q B (secondM B a e).2.1 (secondM B a e).2.2 := by
  obtain ⟨r0, r1, r2, rf, rlt⟩ := hR.cells
  have H := Lib.hid (U32_any W p q B a e hC hB)
  have hb := u32_bound B a e hB
  have HV := Lib.hid (show secondM B a e = (64512 + (rdOf (u32M B a) a e).1, (rdOf (u32M B a) a e).2.1, if (rdOf (u32M B a) a e).1 > 7 then failE (rdOf (u32M B a) a e).2.2 108 else (rdOf (u32M B a) a e).2.2) from rfl)
  generalize rdOf (u32M B a) a e = t at *
  obtain ⟨n, a', e'⟩ := t
  obtain ⟨hb0, hb1⟩ := hb
  have HR := Lib.hid hR
  clear hC hB hR
  by_cases h7 : n > 7
  · have hn : (7 : Int) < n := h7
    rw [if_pos h7] at HV
    clear h7
    go_enter Tryz.func158, Tryz.ntmps158
    go_wp2_with fail
    refine H.out.mono ?_
    rintro E W1 ⟨rfl, hG⟩
    obtain ⟨s0, s1, s2, sf, slt⟩ := (HR.out.goes hRp hG).cells
    have HG := Lib.hid hG
    clear hG H
    go_wp2_with fail
    refine (Fail_any _ _ _ _ _ _ 108 HG.out.1 rfl).mono ?_
    rintro E W2 ⟨rfl, hG2⟩
    have HG2 := Lib.hid hG2
    clear hG2
    go_wp2_with fail
    go_ret
    rw [HV.out]
    exact ⟨rfl, HG.out.trans HG2.out⟩
  · have hn : n ≤ 7 := by omega
    rw [if_neg h7] at HV
    clear h7
    go_enter Tryz.func158, Tryz.ntmps158
    go_wp2_with fail
    refine H.out.mono ?_
    rintro E W1 ⟨rfl, hG⟩
    have HG := Lib.hid hG
    clear hG H
    go_wp2_with fail
    go_ret
    rw [HV.out]
    exact ⟨rfl, HG.out⟩
def opM (sat : Bool) (B : List Int) (a : Nat) (e : Int) : Int × Nat × Int :=
  if (peekM B a e).2 = 0 then (if (peekM B a e).1 = 252 ∧ sat = true then secondM B (a + 1) 0 else if (immM (peekM B a e).1).2 = true then ((peekM B a e).1, a + 1, 0) else (0, a, 108)) else (0, a, (peekM B a e).2)
theorem peek_good {B : List Int} {a : Nat} {e x : Int} (h : peekM B a e = (x, 0)) : e = 0 ∧ B[a]? = some x := by
  unfold peekM at h
  by_cases he : e = 0
  · rw [if_pos he] at h
    cases hx : B[a]? with
    | none => rw [hx] at h; simp at h
    | some y => rw [hx] at h; simp at h; exact ⟨he, by rw [h]⟩
  · rw [if_neg he] at h
    simp at h
    exact absurd h.2 he
set_option maxRecDepth 100000 in
set_option maxHeartbeats 1000000 in
theorem op_any (W : World) (R p q : Nat) (sat : Bool) (deep : Int) (B : List Int) (a : Nat) (e : Int) (hR : Rp W R p sat deep) (hRp : R ≠ p) (hC : Cur W p q B a e) (hB : Byts B) :
    Calls Tryz.prog 145 #[.pointer (some ⟨R, 0, none⟩)] W fun E w' => E = .returned (.int .i64 (opM sat B a e).1) ∧ Goes W w' p q B (opM sat B a e).2.1 (opM sat B a e).2.2 := by
  have H := Lib.hid (peek_any W R p q sat deep B a e hR hRp hC hB)
  have HR := Lib.hid hR
  have HB := Lib.hid hB
  have hopm : opM sat B a e = if (peekM B a e).2 = 0 then (if (peekM B a e).1 = 252 ∧ sat = true then secondM B (a + 1) 0 else if (immM (peekM B a e).1).2 = true then ((peekM B a e).1, a + 1, 0) else (0, a, 108)) else (0, a, (peekM B a e).2) := rfl
  have hpg := fun x => peek_good (B := B) (a := a) (e := e) (x := x)
  generalize peekM B a e = t at *
  obtain ⟨x, e1⟩ := t
  clear hR hC
  by_cases he : e1 = 0
  · subst he
    rw [if_pos rfl] at hopm
    obtain ⟨rfl, hx⟩ := hpg x rfl
    have hxb := hB.get hx
    have hx0 := hxb.1
    have hx1 := hxb.2
    have HM := Lib.hid (Imm_any · x hx0 (by omega))
    have HBy := Lib.hid (show rdByte B a 0 = (x, a + 1, 0) from by simp [rdByte, hx])
    clear hpg hx hB hxb
    by_cases hs : x = 252 ∧ sat = true
    · obtain ⟨rfl, rfl⟩ := hs
      rw [if_pos ⟨rfl, rfl⟩] at hopm
      have HV := Lib.hid hopm
      clear hopm
      go_enter Tryz.func145, Tryz.ntmps145
      go_wp2_with fail
      refine H.out.mono ?_
      rintro E W1 ⟨rfl, hG⟩
      have HR1 := Lib.hid (HR.out.goes hRp hG)
      have HG := Lib.hid hG
      clear hG H
      go_wp2_with fail
      refine (rgood_any _ _ _ _ _ _ _ _ _ true HR1.out HG.out.1 rfl).mono ?_
      rintro E w' ⟨rfl, rfl⟩
      go_wp2_with fail
      refine (HM.out _).mono ?_
      rintro E W2 ⟨rfl, hB2⟩
      have HG2 := Lib.hid (show Goes W1 W2 p q B a 0 from ⟨HG.out.1.below hB2, grown_below hB2 _⟩)
      have HR2 := Lib.hid (HR1.out.goes hRp HG2.out)
      obtain ⟨s0, s1, s2, sf, slt⟩ := HR2.out.cells
      clear hB2
      go_wp2_with fail
      refine (Byte_any _ _ _ _ _ _ HG2.out.1 HB.out).mono ?_
      rintro E W3 ⟨rfl, hG3⟩
      rw [HBy.out] at hG3
      have HR3 := Lib.hid (HR2.out.goes hRp hG3)
      have HG3 := Lib.hid hG3
      clear hG3
      go_wp2_with fail
      refine (second_any _ _ _ _ _ _ _ _ _ HR3.out hRp HG3.out.1 HB.out).mono ?_
      rintro E W4 ⟨rfl, hG4⟩
      have HG4 := Lib.hid hG4
      clear hG4
      go_wp2_with fail
      go_ret
      rw [HV.out]
      exact ⟨rfl, ((HG.out.trans HG2.out).trans HG3.out).trans HG4.out⟩
    · rw [if_neg hs] at hopm
      by_cases h252 : x = 252
      · obtain rfl : sat = false := by
          cases sat
          · rfl
          · exact absurd ⟨h252, rfl⟩ hs
        subst h252
        rw [show immM 252 = (0, false) from by decide] at hopm HM
        have HV := Lib.hid (show opM false B a 0 = (0, a, 108) from hopm)
        clear hopm hs
        go_enter Tryz.func145, Tryz.ntmps145
        go_wp2_with fail
        refine H.out.mono ?_
        rintro E W1 ⟨rfl, hG⟩
        have HR1 := Lib.hid (HR.out.goes hRp hG)
        have HG := Lib.hid hG
        clear hG
        go_wp2_with fail
        refine (rgood_any _ _ _ _ _ _ _ _ _ true HR1.out HG.out.1 rfl).mono ?_
        rintro E w' ⟨rfl, rfl⟩
        go_wp2_with fail
        refine (HM.out _).mono ?_
        rintro E W2 ⟨rfl, hB2⟩
        have HG2 := Lib.hid (show Goes W1 W2 p q B a 0 from ⟨HG.out.1.below hB2, grown_below hB2 _⟩)
        have HR2 := Lib.hid (HR1.out.goes hRp HG2.out)
        obtain ⟨s0, s1, s2, sf, slt⟩ := HR2.out.cells
        clear hB2
        go_wp2_with fail
        refine (Fail_any _ _ _ _ _ _ 108 HG2.out.1 rfl).mono ?_
        rintro E W3 ⟨rfl, hG3⟩
        have HG3 := Lib.hid hG3
        clear hG3
        go_wp2_with fail
        go_ret
        rw [HV.out]
        exact ⟨rfl, (HG.out.trans HG2.out).trans HG3.out⟩
      · have hsx : (x == 252) = false := by simpa using h252
        have HV := Lib.hid hopm
        clear hopm hs h252
        generalize immM x = im at *
        obtain ⟨iv, ib⟩ := im
        cases ib
        · have HV := Lib.hid (show opM sat B a 0 = (0, a, 108) from HV.out)
          go_enter Tryz.func145, Tryz.ntmps145
          go_wp2_with fail
          refine H.out.mono ?_
          rintro E W1 ⟨rfl, hG⟩
          have HR1 := Lib.hid (HR.out.goes hRp hG)
          have HG := Lib.hid hG
          clear hG
          go_wp2_with fail
          refine (rgood_any _ _ _ _ _ _ _ _ _ true HR1.out HG.out.1 rfl).mono ?_
          rintro E w' ⟨rfl, rfl⟩
          go_wp2_with fail
          refine (HM.out _).mono ?_
          rintro E W2 ⟨rfl, hB2⟩
          have HG2 := Lib.hid (show Goes W1 W2 p q B a 0 from ⟨HG.out.1.below hB2, grown_below hB2 _⟩)
          have HR2 := Lib.hid (HR1.out.goes hRp HG2.out)
          obtain ⟨s0, s1, s2, sf, slt⟩ := HR2.out.cells
          clear hB2
          go_wp2_with fail
          refine (Fail_any _ _ _ _ _ _ 108 HG2.out.1 rfl).mono ?_
          rintro E W3 ⟨rfl, hG3⟩
          have HG3 := Lib.hid hG3
          clear hG3
          go_wp2_with fail
          go_ret
          rw [HV.out]
          exact ⟨rfl, (HG.out.trans HG2.out).trans HG3.out⟩
        · have HV := Lib.hid (show opM sat B a 0 = (x, a + 1, 0) from HV.out)
          go_enter Tryz.func145, Tryz.ntmps145
          go_wp2_with fail
          refine H.out.mono ?_
          rintro E W1 ⟨rfl, hG⟩
          have HR1 := Lib.hid (HR.out.goes hRp hG)
          have HG := Lib.hid hG
          clear hG
          go_wp2_with fail
          refine (rgood_any _ _ _ _ _ _ _ _ _ true HR1.out HG.out.1 rfl).mono ?_
          rintro E w' ⟨rfl, rfl⟩
          go_wp2_with fail
          refine (HM.out _).mono ?_
          rintro E W2 ⟨rfl, hB2⟩
          have HG2 := Lib.hid (show Goes W1 W2 p q B a 0 from ⟨HG.out.1.below hB2, grown_below hB2 _⟩)
          have HR2 := Lib.hid (HR1.out.goes hRp HG2.out)
          obtain ⟨s0, s1, s2, sf, slt⟩ := HR2.out.cells
          clear hB2
          go_wp2_with fail
          refine (Byte_any _ _ _ _ _ _ HG2.out.1 HB.out).mono ?_
          rintro E W3 ⟨rfl, hG3⟩
          rw [HBy.out] at hG3
          have HG3 := Lib.hid hG3
          clear hG3
          go_wp2_with fail
          go_ret
          rw [HV.out]
          exact ⟨rfl, (HG.out.trans HG2.out).trans HG3.out⟩
  · rw [if_neg he] at hopm
    have HV := Lib.hid hopm
    have he2 := Lib.hid (beq_eq_false_iff_ne.2 he)
    clear hopm hpg hB he
    go_enter Tryz.func145, Tryz.ntmps145
    go_wp2_with fail
    refine H.out.mono ?_
    rintro E W1 ⟨rfl, hG⟩
    have HR1 := Lib.hid (HR.out.goes hRp hG)
    have HG := Lib.hid hG
    clear hG
    go_wp2_with fail
    refine (rgood_any _ _ _ _ _ _ _ _ _ false HR1.out HG.out.1 he2.out).mono ?_
    rintro E w' ⟨rfl, rfl⟩
    go_wp2_with fail
    go_ret
    rw [HV.out]
    exact ⟨rfl, HG.out⟩
end Go.Proofs.YtofaiocffifhfaaGreat
end
section
namespace Go.Proofs.YtofaiocffifhfaaGreat
open Go.RowKit Go.Shelf YtofaiocffifhfaaGreatB Go.Proofs.YtofaiocffifhfaaGreatW.PrintWords
def zeroM (B : List Int) (a : Nat) (e : Int) : Nat × Int := if e = 0 then (match B[a]? with | none => (a, 100) | some x => if x = 0 then (a + 1, 0) else (a + 1, 107)) else (a, e)
set_option maxRecDepth 100000 in
set_option maxHeartbeats 1000000 in
theorem zero_any (W : World) (R p q : Nat) (sat : Bool) (deep : Int) (B : List Int) (a : Nat) (e : Int) (hR : Rp W R p sat deep) (hRp : R ≠ p) (hC : Cur W p q B a e) (hB : Byts B) :
    Calls Tryz.prog 148 #[.pointer (some ⟨R, 0, none⟩)] W fun E w' => E = .returned (.tuple #[]) ∧ Goes W w' p q B (zeroM B a e).1 (zeroM B a e).2 := by
  obtain ⟨r0, r1, r2, rf, rlt⟩ := hR.cells
  have HA := Lib.hid (at_any W p q B a e hC)
  have H := Lib.hid (Byte_any W p q B a e hC hB)
  have HR := Lib.hid hR
  by_cases hx : e = 0 ∧ ∃ x, B[a]? = some x ∧ ¬ x = 0
  · obtain ⟨rfl, x, hx, hx0⟩ := hx
    have HV := Lib.hid (show zeroM B a 0 = (a + 1, 107) from by simp [zeroM, hx, hx0])
    have hby : rdByte B a 0 = (x, a + 1, 0) := by simp [rdByte, hx]
    rw [hby] at H
    have hxb : (x != 0) = true := by simp; exact hx0
    clear hC hB hR hx hx0 hby
    go_enter Tryz.func148, Tryz.ntmps148
    go_wp2_with fail
    refine HA.out.mono ?_
    rintro E w' ⟨rfl, rfl⟩
    go_wp2_with fail
    refine H.out.mono ?_
    rintro E W1 ⟨rfl, hG⟩
    have hG' : Goes W W1 p q B (a + 1) 0 := hG
    have HR1 := Lib.hid (HR.out.goes hRp hG')
    obtain ⟨s0, s1, s2, sf, slt⟩ := HR1.out.cells
    have HG := Lib.hid hG'
    clear hG hG' H
    go_wp2_with fail
    refine (at_any _ _ _ _ _ _ HG.out.1).mono ?_
    rintro E w' ⟨rfl, rfl⟩
    go_wp2_with fail
    refine (Fail_any _ _ _ _ _ _ 107 HG.out.1 rfl).mono ?_
    rintro E W3 ⟨rfl, hG3⟩
    have HG3 := Lib.hid hG3
    clear hG3
    go_wp2_with fail
    go_end0
    rw [HV.out]
    exact ⟨rfl, HG.out.trans HG3.out⟩
  · have HV := Lib.hid (show (rdByte B a e).1 = 0 ∧ zeroM B a e = (rdByte B a e).2 from by
      unfold rdByte zeroM
      by_cases he : e = 0
      · simp only [he, if_true]
        cases hb : B[a]? with
        | none => exact ⟨rfl, rfl⟩
        | some x =>
          have h0 : x = 0 := Classical.byContradiction fun h => hx ⟨he, x, hb, h⟩
          subst h0
          exact ⟨rfl, rfl⟩
      · simp only [he, if_false, and_self])
    generalize rdByte B a e = t at *
    obtain ⟨v, a', e'⟩ := t
    obtain ⟨h1, h2⟩ := HV.out
    simp only at h1
    subst h1
    have H2 := Lib.hid h2
    clear hC hB hR hx h2 HV
    go_enter Tryz.func148, Tryz.ntmps148
    go_wp2_with fail
    refine HA.out.mono ?_
    rintro E w' ⟨rfl, rfl⟩
    go_wp2_with fail
    refine H.out.mono ?_
    rintro E W1 ⟨rfl, hG⟩
    have HG := Lib.hid hG
    clear hG H
    go_wp2_with fail
    go_end0
    rw [H2.out]
    exact ⟨rfl, HG.out⟩
/-- So many labels. -/
def labM (B : List Int) : Nat → Nat → Int → List Int → List Int × Nat × Int
  | 0, a, e, acc => (acc, a, e)
  | k + 1, a, e, acc => if e = 0 then labM B k (rdOf (u32M B a) a 0).2.1 (rdOf (u32M B a) a 0).2.2 (acc ++ [(rdOf (u32M B a) a 0).1]) else (acc, a, e)
theorem labM_bad (B : List Int) (k a : Nat) (e : Int) (acc : List Int) (he : ¬ e = 0) : labM B k a e acc = (acc, a, e) := by
  cases k with
  | zero => rfl
  | succ k => rw [labM, if_neg he]
def labelsM (B : List Int) (a : Nat) (e : Int) : List Int × Nat × Int := labM B (rdOf (countM B a) a e).1.toNat (rdOf (countM B a) a e).2.1 (rdOf (countM B a) a e).2.2 []
theorem count_bound (B : List Int) (a : Nat) (e : Int) (hB : Byts B) : 0 ≤ (rdOf (countM B a) a e).1 ∧ (rdOf (countM B a) a e).1 ≤ 4096 := by
  unfold rdOf
  by_cases he : e = 0
  · rw [if_pos he]
    cases hu : countM B a with
    | error e' => simp [numV]
    | ok y =>
      obtain ⟨n, nx⟩ := y
      have := countM_ok hB hu
      simp only [numV]
      omega
  · rw [if_neg he]; simp
theorem infoU : (Tryz.prog.info? 30).map (fun i => (i.zero, i.size, i.bytes)) = some (some (.int .u32 0), 1, 4) := by kernel_rfl
theorem fk_u32 {W : World} {ok : Nat → Prop} {x : Int} (h0 : 0 ≤ x) (h1 : x ≤ 4294967295) : FK (rng .u32) W ok x [.int .u32 x] := fun _ _ => ⟨rfl, by simp [Lit.wf, IntKind.min, IntKind.max, IntKind.signed, IntKind.bits]; omega⟩
theorem lab_goes {W W2 w1 : World} {p q : Nat} {B : List Int} {a a0 : Nat} {e e0 : Int} {row : Option Nat} (hC : Cur W p q B a0 e0) (h : Goes W W2 p q B a e) (hg : W2.grownBy w1 row) (hr : ∀ k, row = some k → W.heap.size ≤ k) : Goes W w1 p q B a e := by
  have hb : ∀ k, k < W.heap.size → w1.heap[k]? = W2.heap[k]? := fun k hk => hg.block k (Nat.lt_of_lt_of_le hk h.2.size) (fun e => by have := hr k e.symm; omega)
  have hp := hC.lt
  refine ⟨?_, ⟨hg.os.trans h.2.os, hg.tape.trans h.2.tape, hg.output.trans h.2.output, Nat.le_trans h.2.size hg.size, fun k hk hne => (hb k hk).trans (h.2.block k hk hne)⟩⟩
  rcases Nat.eq_zero_or_pos B.length with hz | hz
  · obtain ⟨h0, h1, A, c, h2, h3, h4⟩ := h.1
    exact ⟨h0, h1, A, c, h2, h3.grown hg (fun e => by have := hr p e.symm; omega), fun hp => by omega⟩
  · obtain ⟨_, _, A, c, _, _, h4⟩ := hC
    obtain ⟨o, _, hcell⟩ := h4 hz
    have hq := World.block_lt_of_cell? _ _ (hcell 0 _ (List.getElem?_eq_getElem hz))
    exact h.1.grown hg (fun e => by have := hr p e.symm; omega) (fun e => by have := hr q e.symm; simp only at hq; omega)
def LabPost (W : World) (p q : Nat) (B : List Int) (r : List Int × Nat × Int) (E : Ending) (w' : World) : Prop :=
  (∃ A c, E = .returned (.slice A r.1.length c) ∧ r.1.length ≤ c ∧ FC (rng .u32) w' (fun k => W.heap.size ≤ k) A r.1) ∧ Goes W w' p q B r.2.1 r.2.2
set_option maxRecDepth 100000 in
set_option maxHeartbeats 2000000 in
theorem labels_any (W : World) (R p q : Nat) (sat : Bool) (deep : Int) (B : List Int) (a : Nat) (e : Int) (hR : Rp W R p sat deep) (hRp : R ≠ p) (hC : Cur W p q B a e) (hB : Byts B) :
    Calls Tryz.prog 147 #[.pointer (some ⟨R, 0, none⟩)] W (LabPost W p q B (labelsM B a e)) := by
  obtain ⟨r0, r1, r2, rf, rlt⟩ := hR.cells
  have hplt := hC.lt
  have H := Lib.hid (Count_any W p q B a e hC hB)
  have hb := count_bound B a e hB
  have HV := Lib.hid (show labelsM B a e = labM B (rdOf (countM B a) a e).1.toNat (rdOf (countM B a) a e).2.1 (rdOf (countM B a) a e).2.2 [] from rfl)
  have HR := Lib.hid hR
  have HB := Lib.hid hB
  have HC0 := Lib.hid hC
  generalize rdOf (countM B a) a e = t at *
  obtain ⟨ni, a0, e0⟩ := t
  obtain ⟨n, rfl⟩ := Int.eq_ofNat_of_zero_le hb.1
  have hn : (n : Int) ≤ 4096 := hb.2
  rw [show ((n : Int).toNat) = n from Int.toNat_natCast n] at HV
  clear hC hB hR hb
  go_enter Tryz.func147, Tryz.ntmps147
  go_wp2_with fail
  refine H.out.mono ?_
  rintro E W1 ⟨rfl, hG⟩
  have hG' : Goes W W1 p q B a0 e0 := hG
  have HG0 := Lib.hid hG'
  clear hG hG' H r0 r1 r2 rf
  go_wp2_with fail
  go_loopw [3, 5] (fun v i wr => ∃ (j a1 : Nat) (e1 : Int) (xs : List Int), j ≤ n ∧ i = .int .i64 j ∧ xs.length = j ∧ Own (rng .u32) 30 wr W.heap.size (fun k => W.heap.size ≤ k) v xs ∧ Goes W wr p q B a1 e1 ∧ Hid (labelsM B a e = labM B (n - j) a1 e1 xs)) (fun _ i _ => n - (intOf i).toNat)
  case atStart => exact ⟨0, a0, e0, [], Nat.zero_le _, rfl, rfl, Own.nil, HG0.out, HV.out⟩
  case round =>
    obtain ⟨j, a1, e1, xs, hj, rfl, hxl, hown, hGo, hlab⟩ := hrel
    have hsz := hGo.2.size
    have HX := Lib.hid hxl
    have HR1 := Lib.hid (HR.out.goes hRp hGo)
    obtain ⟨s0, s1, s2, sf, slt⟩ := HR1.out.cells
    have HGo := Lib.hid hGo
    have HO := Lib.hid hown
    clear hxl hGo hown
    by_cases hfin : j < n ∧ e1 = 0
    · obtain ⟨hlt, rfl⟩ := hfin
      have hlt2 : (j : Int) < (n : Int) := by omega
      have hub := u32_bound B a1 0 HB.out
      have HU := Lib.hid (U32_any wr p q B a1 0 HGo.out.1 HB.out)
      have HL := Lib.hid (show labelsM B a e = labM B (n - (j + 1)) (rdOf (u32M B a1) a1 0).2.1 (rdOf (u32M B a1) a1 0).2.2 (xs ++ [(rdOf (u32M B a1) a1 0).1]) from by
        rw [hlab.out, show n - j = n - (j + 1) + 1 from by omega, labM, if_pos rfl])
      generalize rdOf (u32M B a1) a1 0 = t at *
      obtain ⟨x, a2, e2⟩ := t
      obtain ⟨hx0, hx1⟩ := hub
      go_wp2_with fail
      refine (rgood_any _ _ _ _ _ _ _ _ _ true HR1.out HGo.out.1 rfl).mono ?_
      rintro E w' ⟨rfl, rfl⟩
      go_wp2_with fail
      refine HU.out.mono ?_
      rintro E W2 ⟨rfl, hG2⟩
      have hG2' : Goes wr W2 p q B a2 e2 := hG2
      have hob : ∀ k, u3.ownBlock = some k → W.heap.size ≤ k := fun k hk => (HO.out.block hk).1
      have hO2 : Own (rng .u32) 30 W2 W.heap.size (fun k => W.heap.size ≤ k) u3 xs := HO.out.grown hG2'.2 (by
        cases hv : u3.ownBlock with
        | none => exact .inl rfl
        | some k => right; intro h; injection h with h; have := hob k hv; omega) (fun k hk h => by injection h with h; omega)
      have HGt := Lib.hid (HGo.out.trans hG2')
      have hsz2 := HGt.out.2.size
      have hxl := HX.out
      clear hG2 hG2' HU
      have hO3 := Lib.hid hO2
      clear hO2 hob
      go_wp2_with (at_builtin; refine Own.append (d := rng .u32) W.heap.size rfl (.tmp 20) (.tmp 26) 69 30 (.int .u32 0) 4 rfl Tryz.underlying69 infoU rfl (by decide) (by decide) u3 xs x [.int .u32 x] (fun k => W.heap.size ≤ k) rfl rfl (fk_u32 hx0 hx1) hO3.out hsz2 (by omega) ?_; intro v1 w1 hown1 hg1 hat1)
      have hg1' : W2.grownBy w1 u3.ownBlock := hg1
      have HO4 := Lib.hid hown1
      have HG4 := Lib.hid (show Goes W w1 p q B a2 e2 from lab_goes HC0.out HGt.out hg1' (fun k hk => (hO3.out.block hk).1))
      clear hown1 hg1 hg1' hat1 hxl
      go_wp2_with fail
      go_roundw
      case rel => exact ⟨j + 1, a2, e2, xs ++ [x], by omega, by go_num, by rw [List.length_append, HX.out]; rfl, HO4.out, HG4.out, HL⟩
      case measure => simp [intOf]; omega
    · have HL := Lib.hid (show labelsM B a e = (xs, a1, e1) from by
        by_cases he : e1 = 0
        · have : j = n := by omega
          rw [hlab.out, this, Nat.sub_self]; rfl
        · rw [hlab.out, labM_bad _ _ _ _ _ he])
      obtain ⟨A, c, rfl, hle, hF⟩ := HO.out.reads
      have HF := Lib.hid (hF.mono (ok' := fun k => W.heap.size ≤ k) (fun k hk => hk.elim id id))
      clear hF
      by_cases hlt : j < n
      · have he : ¬ e1 = 0 := fun h => hfin ⟨hlt, h⟩
        have he2 := Lib.hid (beq_eq_false_iff_ne.2 he)
        clear hfin he
        go_wp2_with fail
        refine (rgood_any _ _ _ _ _ _ _ _ _ false HR1.out HGo.out.1 he2.out).mono ?_
        rintro E w' ⟨rfl, rfl⟩
        go_wp2_with fail
        go_ret
        rw [HL.out]
        exact ⟨⟨A, c, rfl, hle, HF.out⟩, HGo.out⟩
      · obtain rfl : j = n := by omega
        clear hfin
        go_wp2_with fail
        go_ret
        rw [HL.out]
        exact ⟨⟨A, c, rfl, hle, HF.out⟩, HGo.out⟩
end Go.Proofs.YtofaiocffifhfaaGreat
end
section
namespace Go.Proofs.YtofaiocffifhfaaGreat
open Go.RowKit Go.Shelf YtofaiocffifhfaaGreatB Go.Proofs.YtofaiocffifhfaaGreatW.PrintWords
def leafI (op : Int) : Ins := .mk op 0 0 0 0 [] [] [] false
/-- Behind an opcode: what stands there; bk: a block's instructions, one block deeper. -/
def bodyM (bk : Bool → Nat → Int → List Ins × Int × Nat × Int) (B : List Int) (op i : Int) (a : Nat) : Ins × Nat × Int :=
  if i = 1 then
    let t := rdOf (resM B a) a 0
    let r := bk (op == 4) t.2.1 t.2.2
    if r.2.1 = 5 then
      let s := bk false r.2.2.1 r.2.2.2
      (.mk op t.1 0 0 0 [] r.1 s.1 true, s.2.2.1, s.2.2.2)
    else (.mk op t.1 0 0 0 [] r.1 [] false, r.2.2.1, r.2.2.2)
  else if i = 2 ∨ i = 4 then
    let t := rdOf (u32M B a) a 0
    (.mk op 0 t.1 0 0 [] [] [] false, t.2.1, t.2.2)
  else if i = 3 then
    let l := labelsM B a 0
    let t := rdOf (u32M B l.2.1) l.2.1 l.2.2
    (.mk op 0 t.1 0 0 l.1 [] [] false, t.2.1, t.2.2)
  else if i = 5 then
    let t := rdOf (u32M B a) a 0
    (.mk op 0 t.1 0 0 [] [] [] false, zeroM B t.2.1 t.2.2)
  else if i = 6 then
    let t := rdOf (u32M B a) a 0
    let u := rdOf (u32M B t.2.1) t.2.1 t.2.2
    (.mk op 0 t.1 u.1 0 [] [] [] false, u.2.1, u.2.2)
  else if i = 7 then (leafI op, zeroM B a 0)
  else if i = 8 then
    let t := rdOf (s32M B a) a 0
    (.mk op 0 0 0 t.1 [] [] [] false, t.2.1, t.2.2)
  else if i = 9 then
    let t := rdOf (s64M B a) a 0
    (.mk op 0 0 0 t.1 [] [] [] false, t.2.1, t.2.2)
  else if i = 10 then
    let t := rdOf (fixM B a 4) a 0
    (.mk op 0 0 0 t.1 [] [] [] false, t.2.1, t.2.2)
  else if i = 11 then
    let t := rdOf (fixM B a 8) a 0
    (.mk op 0 0 0 t.1 [] [] [] false, t.2.1, t.2.2)
  else (leafI op, a, 0)
/-- The failure with which an opcode is read: too deep. -/
def deepE (B : List Int) (deep a : Nat) (e : Int) : Int := if (immM (peekM B a e).1).1 = 1 ∧ 64 ≤ deep ∧ (peekM B a e).2 = 0 then 3 else (peekM B a e).2
/-- An instruction. -/
def insM (bk : Bool → Nat → Int → List Ins × Int × Nat × Int) (sat : Bool) (B : List Int) (deep a : Nat) (e : Int) : Ins × Nat × Int :=
  let o := opM sat B a (deepE B deep a e)
  if o.2.2 = 0 then bodyM bk B o.1 (immM o.1).1 o.2.1 else (leafI 0, o.2.1, o.2.2)
/-- A block's instructions, those behind acc; which byte ended it. -/
def blkM (sat : Bool) (B : List Int) : Nat → Nat → Bool → Nat → Int → List Ins → List Ins × Int × Nat × Int
  | 0, _, _, a, e, _ => ([], 0, a, e)
  | f + 1, deep, may, a, e, acc =>
    if e = 0 then
      match B[a]? with
      | none => ([], 0, a, 100)
      | some b =>
        if b = 11 then (acc, 11, a + 1, 0)
        else if b = 5 then (if may then (acc, 5, a + 1, 0) else ([], 0, a, 108))
        else
          let r := insM (fun m a' e' => blkM sat B f (deep + 1) m a' e' []) sat B deep a 0
          if r.2.2 = 0 then blkM sat B f deep may r.2.1 0 (acc ++ [r.1]) else ([], 0, r.2.1, r.2.2)
    else ([], 0, a, e)
-- What is read lies behind.
theorem rdOf_ge {r : Except Int (Nat × Nat)} {a : Nat} {e : Int} (hr : ∀ n nx, r = .ok (n, nx) → a ≤ nx) (h : (rdOf r a e).2.2 = 0) : a ≤ (rdOf r a e).2.1 ∧ e = 0 := by
  unfold rdOf at h ⊢
  by_cases he : e = 0
  · rw [if_pos he] at h ⊢
    rcases r with e' | ⟨n, nx⟩
    · exact ⟨Nat.le_refl _, he⟩
    · exact ⟨hr n nx rfl, he⟩
  · rw [if_neg he] at h
    exact absurd h he
theorem u32_ge {B : List Int} {a : Nat} {e : Int} (hB : Byts B) (h : (rdOf (u32M B a) a e).2.2 = 0) : a ≤ (rdOf (u32M B a) a e).2.1 ∧ e = 0 := rdOf_ge (fun n nx hh => by have := u32M_lt hB hh; omega) h
theorem s32_ge {B : List Int} {a : Nat} {e : Int} (h : (rdOf (s32M B a) a e).2.2 = 0) : a ≤ (rdOf (s32M B a) a e).2.1 ∧ e = 0 := rdOf_ge (fun n nx hh => by
  unfold s32M at hh
  cases hs : sintM B a 32 with
  | error e => rw [hs] at hh; cases hh
  | ok y => obtain ⟨m, k⟩ := y; rw [hs] at hh; cases hh; have := sintM_ok hs; omega) h
theorem s64_ge {B : List Int} {a : Nat} {e : Int} (h : (rdOf (s64M B a) a e).2.2 = 0) : a ≤ (rdOf (s64M B a) a e).2.1 ∧ e = 0 := rdOf_ge (fun n nx hh => by have := sintM_ok hh; omega) h
theorem fix_ge {B : List Int} {a n : Nat} {e : Int} (h : (rdOf (fixM B a n) a e).2.2 = 0) : a ≤ (rdOf (fixM B a n) a e).2.1 ∧ e = 0 := rdOf_ge (fun m nx hh => by have := fixM_ok hh; omega) h
theorem count_ge {B : List Int} {a : Nat} {e : Int} (hB : Byts B) (h : (rdOf (countM B a) a e).2.2 = 0) : a ≤ (rdOf (countM B a) a e).2.1 ∧ e = 0 := rdOf_ge (fun m nx hh => by have := countM_ok hB hh; omega) h
theorem res_ge {B : List Int} {a : Nat} {e : Int} (h : (rdOf (resM B a) a e).2.2 = 0) : a ≤ (rdOf (resM B a) a e).2.1 ∧ e = 0 := rdOf_ge (fun m nx hh => by
  unfold resM amongM at hh
  cases hx : B[a]? with
  | none => rw [hx] at hh; cases hh
  | some x =>
    rw [hx] at hh
    simp only at hh
    split at hh
    · cases hh
    next h => split at h <;> cases h; cases hh; omega) h
theorem zero_ge {B : List Int} {a : Nat} {e : Int} (h : (zeroM B a e).2 = 0) : a ≤ (zeroM B a e).1 ∧ e = 0 := by
  unfold zeroM at h ⊢
  by_cases he : e = 0
  · rw [if_pos he] at h ⊢
    refine ⟨?_, he⟩
    cases B[a]? with
    | none => exact Nat.le_refl _
    | some x => simp only; split <;> simp
  · rw [if_neg he] at h
    exact absurd h he
theorem lab_ge {B : List Int} (hB : Byts B) : ∀ (k a : Nat) (e : Int) (acc : List Int), (labM B k a e acc).2.2 = 0 → a ≤ (labM B k a e acc).2.1 ∧ e = 0
  | 0, a, e, acc, h => ⟨Nat.le_refl _, h⟩
  | k + 1, a, e, acc, h => by
    rw [labM] at h ⊢
    by_cases he : e = 0
    · rw [if_pos he] at h ⊢
      have ih := lab_ge hB k _ _ _ h
      have := u32_ge hB ih.2
      exact ⟨by omega, he⟩
    · rw [if_neg he] at h
      exact absurd h he
theorem labels_ge {B : List Int} {a : Nat} {e : Int} (hB : Byts B) (h : (labelsM B a e).2.2 = 0) : a ≤ (labelsM B a e).2.1 ∧ e = 0 := by
  unfold labelsM at h ⊢
  have h1 := lab_ge hB _ _ _ _ h
  have h2 := count_ge hB h1.2
  exact ⟨by omega, h2.2⟩
def BkGe (bk : Bool → Nat → Int → List Ins × Int × Nat × Int) : Prop := ∀ m a e, (bk m a e).2.2.2 = 0 → a ≤ (bk m a e).2.2.1 ∧ e = 0
theorem body_ge {bk : Bool → Nat → Int → List Ins × Int × Nat × Int} {B : List Int} {op i : Int} {a : Nat} (hB : Byts B) (hbk : BkGe bk) (h : (bodyM bk B op i a).2.2 = 0) : a ≤ (bodyM bk B op i a).2.1 := by
  unfold bodyM at h ⊢
  simp only at h ⊢
  by_cases h1 : i = 1
  · simp only [h1, if_true] at h ⊢
    split at h
    next h5 =>
      rw [if_pos h5]
      have g3 := hbk _ _ _ h
      have g2 := hbk _ _ _ g3.2
      have g1 := res_ge g2.2
      simp only at g3 ⊢
      omega
    next h5 =>
      rw [if_neg h5]
      have g2 := hbk _ _ _ h
      have g1 := res_ge g2.2
      simp only at g2 ⊢
      omega
  · simp only [h1, if_false] at h ⊢
    split at h
    next c => rw [if_pos c]; exact (u32_ge hB h).1
    next c =>
    rw [if_neg c]
    split at h
    next c => rw [if_pos c]; have g2 := u32_ge hB h; have g1 := labels_ge hB g2.2; simp only at g2 ⊢; omega
    next c =>
    rw [if_neg c]
    split at h
    next c => rw [if_pos c]; have g2 := zero_ge h; have g1 := u32_ge hB g2.2; simp only at g2 ⊢; omega
    next c =>
    rw [if_neg c]
    split at h
    next c => rw [if_pos c]; have g2 := u32_ge hB h; have g1 := u32_ge hB g2.2; simp only at g2 ⊢; omega
    next c =>
    rw [if_neg c]
    split at h
    next c => rw [if_pos c]; exact (zero_ge h).1
    next c =>
    rw [if_neg c]
    split at h
    next c => rw [if_pos c]; exact (s32_ge h).1
    next c =>
    rw [if_neg c]
    split at h
    next c => rw [if_pos c]; exact (s64_ge h).1
    next c =>
    rw [if_neg c]
    split at h
    next c => rw [if_pos c]; exact (fix_ge h).1
    next c =>
    rw [if_neg c]
    split at h
    next c => rw [if_pos c]; exact (fix_ge h).1
    next c => rw [if_neg c]; exact Nat.le_refl _
theorem op_ge {sat : Bool} {B : List Int} {a : Nat} {e : Int} (hB : Byts B) (h : (opM sat B a e).2.2 = 0) : a + 1 ≤ (opM sat B a e).2.1 ∧ e = 0 ∧ ∃ x, B[a]? = some x := by
  unfold opM at h ⊢
  by_cases hp : (peekM B a e).2 = 0
  · obtain ⟨x, hx⟩ : ∃ x, peekM B a e = (x, 0) := ⟨(peekM B a e).1, by rw [← hp]⟩
    have hg := peek_good hx
    rw [if_pos hp] at h ⊢
    split at h
    next c =>
      rw [if_pos c]
      unfold secondM at h ⊢
      simp only at h ⊢
      have : (rdOf (u32M B (a + 1)) (a + 1) 0).2.2 = 0 := by
        split at h
        · unfold failE at h; split at h
          · cases h
          · assumption
        · exact h
      exact ⟨(u32_ge hB this).1, hg.1, x, hg.2⟩
    next c =>
      rw [if_neg c]
      split at h
      next c2 => rw [if_pos c2]; exact ⟨Nat.le_refl _, hg.1, x, hg.2⟩
      next c2 => cases h
  · rw [if_neg hp] at h
    exact absurd h hp
theorem ins_ge {bk : Bool → Nat → Int → List Ins × Int × Nat × Int} {sat : Bool} {B : List Int} {deep a : Nat} {e : Int} (hB : Byts B) (hbk : BkGe bk) (h : (insM bk sat B deep a e).2.2 = 0) : a + 1 ≤ (insM bk sat B deep a e).2.1 := by
  unfold insM at h ⊢
  simp only at h ⊢
  split at h
  next c =>
    rw [if_pos c]
    have g1 := (op_ge hB c).1
    have g2 := body_ge hB hbk h
    omega
  next c => exact absurd h c
theorem blk_ge {sat : Bool} {B : List Int} (hB : Byts B) : ∀ (f deep : Nat) (may : Bool) (a : Nat) (e : Int) (acc : List Ins), (blkM sat B f deep may a e acc).2.2.2 = 0 → a ≤ (blkM sat B f deep may a e acc).2.2.1 ∧ e = 0
  | 0, deep, may, a, e, acc, h => ⟨Nat.le_refl _, h⟩
  | f + 1, deep, may, a, e, acc, h => by
    rw [blkM] at h ⊢
    by_cases he : e = 0
    · rw [if_pos he] at h ⊢
      refine ⟨?_, he⟩
      cases hx : B[a]? with
      | none => exact Nat.le_refl _
      | some b =>
        rw [hx] at h
        simp only at h ⊢
        split at h
        next c => rw [if_pos c]; simp
        next c =>
        rw [if_neg c]
        split at h
        next c2 =>
          rw [if_pos c2]
          split at h
          next c3 => rw [if_pos c3]; simp
          next c3 => cases h
        next c2 =>
        rw [if_neg c2]
        split at h
        next c3 =>
          rw [if_pos c3]
          have g1 := ins_ge hB (fun m a' e' => blk_ge hB f (deep + 1) m a' e' []) c3
          have g2 := blk_ge hB f deep may _ _ _ h
          omega
        next c3 => exact absurd h c3
    · rw [if_neg he] at h
      exact absurd h he
end Go.Proofs.YtofaiocffifhfaaGreat
end
