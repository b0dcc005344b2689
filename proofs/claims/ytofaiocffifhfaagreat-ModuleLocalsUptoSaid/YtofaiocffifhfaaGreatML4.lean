/- Lemmas towards this claim's statement: what the functions named here come to, each under the conditions that it states itself. -/
import Derived.Test.YtofaiocffifhfaaGreatML3
section
namespace Go.Proofs.YtofaiocffifhfaaGreat
open Go.RowKit Go.Shelf YtofaiocffifhfaaGreatB Go.Proofs.YtofaiocffifhfaaGreatW.PrintWords
/-- The cells of a cursor. -/
def RdrB (W : World) (p q : Nat) (A : Option Addr) (c : Nat) (B : List Int) (a : Nat) (e : Int) : Prop :=
  Blk W p #[.slice A B.length c, .int .i64 a, .int .i64 e] 57 ∧ ByQ W q A B
/-- A cursor at p over the bytes B: its place, the first failure. -/
def Rdr (W : World) (p q : Nat) (B : List Int) (a : Nat) (e : Int) : Prop := p ≠ q ∧ a ≤ B.length ∧ ∃ A c, B.length ≤ c ∧ RdrB W p q A c B a e
theorem Rdr.grown {W W' : World} {p q : Nat} {B : List Int} {a : Nat} {e : Int} (h : Rdr W p q B a e) {row : Option Nat} (hg : W.grownBy W' row) (hp : some p ≠ row) (hq : some q ≠ row) : Rdr W' p q B a e := by
  obtain ⟨h0, h1, A, c, h2, h3, h4⟩ := h
  exact ⟨h0, h1, A, c, h2, h3.grown hg hp, h4.grown hg hq⟩
theorem Rdr.below {W W' : World} {p q : Nat} {B : List Int} {a : Nat} {e : Int} (h : Rdr W p q B a e) (hb : Below W.heap.size W W') : Rdr W' p q B a e := h.grown (grown_below hb none) (by simp) (by simp)
theorem Rdr.alloc {W : World} {p q : Nat} {B : List Int} {a : Nat} {e : Int} (h : Rdr W p q B a e) (o : Obj) : Rdr (W.alloc o) p q B a e := h.grown (World.grownBy_alloc W o none) (by simp) (by simp)
theorem Rdr.lt {W : World} {p q : Nat} {B : List Int} {a : Nat} {e : Int} (h : Rdr W p q B a e) : p < W.heap.size := by
  obtain ⟨_, _, A, c, _, h3, _⟩ := h
  exact h3.lt
theorem Rdr.set {W : World} {p q : Nat} {B : List Int} {a : Nat} {e : Int} (h : Rdr W p q B a e) (a' : Nat) (e' : Int) (ha : a' ≤ B.length) : Rdr ((W.setCell ⟨p, 2, none⟩ (.int .i64 e')).setCell ⟨p, 1, none⟩ (.int .i64 a')) p q B a' e' := by
  obtain ⟨h0, h1, A, c, h2, h3, h4⟩ := h
  refine ⟨h0, ha, A, c, h2, ?_, ?_⟩
  · have := (h3.set 2 (.int .i64 e')).set 1 (.int .i64 a')
    simpa using this
  · exact (h4.grown (gset W p 2 (.int .i64 e')) (fun e => h0 (by injection e with e; exact e.symm))).grown (gset _ p 1 (.int .i64 a')) (fun e => h0 (by injection e with e; exact e.symm))
theorem Rdr.setE {W : World} {p q : Nat} {B : List Int} {a : Nat} {e : Int} (h : Rdr W p q B a e) (e' : Int) : Rdr (W.setCell ⟨p, 2, none⟩ (.int .i64 e')) p q B a e' := by
  obtain ⟨h0, h1, A, c, h2, h3, h4⟩ := h
  refine ⟨h0, h1, A, c, h2, ?_, ?_⟩
  · have := h3.set 2 (.int .i64 e')
    simpa using this
  · exact h4.grown (gset _ p 2 (.int .i64 e')) (fun e => h0 (by injection e with e; exact e.symm))
theorem Rdr.setAt {W : World} {p q : Nat} {B : List Int} {a : Nat} {e : Int} (h : Rdr W p q B a e) (a' : Nat) (ha : a' ≤ B.length) : Rdr (W.setCell ⟨p, 1, none⟩ (.int .i64 a')) p q B a' e := by
  obtain ⟨h0, h1, A, c, h2, h3, h4⟩ := h
  refine ⟨h0, ha, A, c, h2, ?_, ?_⟩
  · have := h3.set 1 (.int .i64 a')
    simpa using this
  · exact h4.grown (gset _ p 1 (.int .i64 a')) (fun e => h0 (by injection e with e; exact e.symm))
/-- What a reading call does to the world. -/
def GoesR (W W' : World) (p q : Nat) (B : List Int) (a : Nat) (e : Int) : Prop := Rdr W' p q B a e ∧ W.grownBy W' (some p)
theorem GoesR.same {W : World} {p q : Nat} {B : List Int} {a : Nat} {e : Int} (h : Rdr W p q B a e) : GoesR W W p q B a e := ⟨h, World.grownBy.refl W _⟩
theorem GoesR.drewN {W : World} {p q : Nat} {B : List Int} {a : Nat} {e : Int} (h : Rdr W p q B a e) (m : Nat) : GoesR W (W.drewN m) p q B a e := ⟨h.below ⟨rfl, rfl, rfl, Nat.le_refl _, fun _ _ => rfl⟩, ⟨rfl, rfl, rfl, Nat.le_refl _, fun _ _ _ => rfl⟩⟩
theorem GoesR.trans {W W1 W2 : World} {p q : Nat} {B : List Int} {a a' : Nat} {e e' : Int} (h : GoesR W W1 p q B a e) (h' : GoesR W1 W2 p q B a' e') : GoesR W W2 p q B a' e' := ⟨h'.1, h.2.trans h'.2⟩
/-- The three cells of a cursor, as a walk wants them. -/
theorem Rdr.cells {W : World} {p q : Nat} {B : List Int} {a : Nat} {e : Int} (h : Rdr W p q B a e) :
    ∃ A c, W.cell? ⟨p, 0, none⟩ = some (.slice A B.length c) ∧ W.cell? ⟨p, 1, none⟩ = some (.int .i64 a) ∧ W.cell? ⟨p, 2, none⟩ = some (.int .i64 e) ∧ W.frozen? ⟨p, 0, none⟩ = false ∧ W.frozen? ⟨p, 1, none⟩ = false ∧ W.frozen? ⟨p, 2, none⟩ = false ∧ B.length ≤ c ∧ ByQ W q A B ∧ p < W.heap.size ∧ a ≤ B.length := by
  obtain ⟨h0, h1, A, c, h2, h3, h4⟩ := h
  exact ⟨A, c, by rw [h3.cell]; rfl, by rw [h3.cell]; rfl, by rw [h3.cell]; rfl, h3.frozen 0, h3.frozen 1, h3.frozen 2, h2, h4, h3.lt, h1⟩
theorem rByte_any (W : World) (p q : Nat) (B : List Int) (a : Nat) (e : Int) (hC : Rdr W p q B a e) (hB : Byts B) :
    Calls Tryz.prog 19 #[.pointer (some ⟨p, 0, none⟩)] W fun E w' => E = .returned (.int .u8 (rdByte B a e).1) ∧ GoesR W w' p q B (rdByte B a e).2.1 (rdByte B a e).2.2 := by
  have hl := hB.1
  have HC := Lib.hid hC
  obtain ⟨A, c, c0, c1, c2, f0, f1, f2, hle, hq, hlt, ha⟩ := hC.cells
  by_cases he : e = 0
  · subst he
    rcases Nat.lt_or_ge a B.length with hlt2 | hge
    · obtain ⟨o, x, rfl, hx, hc⟩ := hq.at_ a hlt2
      have HV := Lib.hid (show rdByte B a 0 = (x, a + 1, 0) from by simp [rdByte, hx.out])
      have hpq : p ≠ q := hC.1
      have hlt3 : (a : Int) < (B.length : Int) := by omega
      have hw1 : IntKind.i64.wrap ((a : Int) + 1 - 1) = a := by rw [IntKind.wrap_i64]; omega
      have H2 := Lib.hid (fun X (h : Rdr X p q B a 0) => show Rdr (X.setCell ⟨p, 1, none⟩ (.int .i64 ((a : Int) + 1))) p q B (a + 1) 0 from by rw [show (a : Int) + 1 = ((a + 1 : Nat) : Int) from rfl]; exact h.setAt (a + 1) (by omega))
      clear hC hB hq hx
      go_enter Tryz.func19, Tryz.ntmps19
      go_wp2_with fail
      go_quiet (fail)
      go_wp2_with fail
      go_quiet (fail)
      go_wp2_with fail
      go_ret
      rw [HV.out]
      exact ⟨rfl, GoesR.trans (GoesR.trans (GoesR.drewN HC.out _) ⟨H2.out _ (GoesR.drewN HC.out _).1, gset _ _ _ _⟩) (GoesR.drewN (H2.out _ (GoesR.drewN HC.out _).1) _)⟩
    · obtain rfl : a = B.length := by omega
      have HV := Lib.hid (show rdByte B B.length 0 = (0, B.length, 100) from by simp [rdByte])
      have h2 := Lib.hid (hC.setE 100)
      clear hC hB hq
      go_enter Tryz.func19, Tryz.ntmps19
      go_wp2_with fail
      go_quiet (fail)
      go_wp2_with fail
      go_ret
      rw [HV.out]
      exact ⟨rfl, GoesR.trans ⟨h2.out, gset _ _ _ _⟩ (GoesR.drewN h2.out _)⟩
  · have he2 : (e != 0) = true := by simp; exact he
    have HV := Lib.hid (show rdByte B a e = (0, a, e) from by simp [rdByte, he])
    clear hC hB hq he
    go_enter Tryz.func19, Tryz.ntmps19
    go_wp2_with fail
    go_ret
    rw [HV.out]
    exact ⟨rfl, GoesR.same HC.out⟩
/-- Reader.Fail. -/
theorem rFail_any (W : World) (p q : Nat) (B : List Int) (a : Nat) (e e' : Int) (hC : Rdr W p q B a e) :
    Calls Tryz.prog 20 #[.pointer (some ⟨p, 0, none⟩), .int .i64 e'] W fun E w' => E = .returned (.tuple #[]) ∧ GoesR W w' p q B a (failE e e') := by
  have HC := Lib.hid hC
  obtain ⟨A, c, c0, c1, c2, f0, f1, f2, hle, hq, hlt, ha⟩ := hC.cells
  by_cases he : e = 0
  · subst he
    have h2 := Lib.hid (hC.setE e')
    rw [failE, if_pos rfl]
    clear hC hq
    go_enter Tryz.func20, Tryz.ntmps20
    go_wp2_with fail
    go_end0
    exact ⟨rfl, h2.out, gset _ _ _ _⟩
  · have he2 : (e == 0) = false := by simpa using he
    rw [failE, if_neg he]
    clear hC hq he
    go_enter Tryz.func20, Tryz.ntmps20
    go_wp2_with fail
    go_end0
    exact ⟨rfl, GoesR.same HC.out⟩
theorem rBack_any (W : World) (p q : Nat) (B : List Int) (a a' : Nat) (e : Int) (hC : Rdr W p q B a e) (ha' : a' ≤ B.length) :
    Calls Tryz.prog 65 #[.pointer (some ⟨p, 0, none⟩), .int .i64 a'] W fun E w' => E = .returned (.tuple #[]) ∧ GoesR W w' p q B (if e = 0 then a else a') e := by
  have HC := Lib.hid hC
  obtain ⟨A, c, c0, c1, c2, f0, f1, f2, hle, hq, hlt, ha⟩ := hC.cells
  by_cases he : e = 0
  · subst he
    rw [if_pos rfl]
    clear hC hq
    go_enter Tryz.func65, Tryz.ntmps65
    go_wp2_with fail
    go_end0
    exact ⟨rfl, GoesR.same HC.out⟩
  · have he2 : (e != 0) = true := by simp; exact he
    have h2 := Lib.hid (hC.setAt a' ha')
    rw [if_neg he]
    clear hC hq he
    go_enter Tryz.func65, Tryz.ntmps65
    go_wp2_with fail
    go_end0
    exact ⟨rfl, h2.out, gset _ _ _ _⟩
end Go.Proofs.YtofaiocffifhfaaGreat
end
section
namespace Go.Proofs.YtofaiocffifhfaaGreat
open Go.RowKit Go.Shelf YtofaiocffifhfaaGreatB Go.Proofs.YtofaiocffifhfaaGreatW.PrintWords
def twoV (n : Nat) : Int := ((2 ^ n : Nat) : Int)
theorem two_any (W : World) (n : Nat) (hn : n ≤ 63) : Calls Tryz.prog 100 #[.int .i64 n] W fun E w' => E = .returned (.int .u64 (twoV n)) ∧ W = w' := by
  go_enter Tryz.func100, Tryz.ntmps100
  go_wp2_with fail
  go_loop [3, 4] (fun u k => ∃ j : Nat, j ≤ n ∧ k = .int .i64 j ∧ u = .int .u64 (twoV j)) (fun _ k => n - (intOf k).toNat)
  case atStart => exact ⟨0, Nat.zero_le _, rfl, rfl⟩
  case round =>
    obtain ⟨j, hj, rfl, rfl⟩ := hrel
    by_cases hlt : j < n
    · have h1 : 2 ^ j ≤ 2 ^ 62 := Nat.pow_le_pow_right (by omega) (by omega)
      have HP := Lib.hid (show twoV (j + 1) = 2 * twoV j from by unfold twoV; rw [Nat.pow_succ, Nat.mul_comm, Int.natCast_mul]; rfl)
      have h2 : twoV j ≤ 4611686018427387904 := by unfold twoV; generalize 2 ^ j = t at *; omega
      have h3 : 0 ≤ twoV j := Int.natCast_nonneg _
      clear h1
      generalize twoV j = t at *
      go_wp2_with fail
      go_round
      case rel => exact ⟨j + 1, by omega, by go_num, by rw [HP.out]⟩
      case measure => simp [intOf]; omega
    · obtain rfl : j = n := by omega
      obtain ⟨t, ht⟩ : ∃ t, twoV j = t := ⟨_, rfl⟩
      rw [ht]
      have HT := Lib.hid ht
      clear ht
      go_wp2_with fail
      go_ret
      exact ⟨by rw [HT.out]; rfl, rfl⟩
/-- What the document's reader of numbers answers. -/
def RNumPost (W : World) (r : Except Int (Nat × Nat)) (E : Ending) (w' : World) : Prop :=
  W = w' ∧ (match r with
  | .error e => E = .returned (.tuple #[.int .u64 0, .int .i64 0, .int .i64 e])
  | .ok (n, nx) => E = .returned (.tuple #[.int .u64 (n : Int), .int .i64 (nx : Int), .int .i64 0]))
theorem uintM_step {B : List Int} {a bits : Nat} {x : Int} (hB : Byts B) (hx : B[a]? = some x) (hb : bits ≤ 64) (h1 : ¬ x < 128) (h2 : ¬ bits ≤ 7) :
    uintM B a bits = match uintM B (a + 1) (bits - 7) with | .error e => .error e | .ok (m, nx) => .ok ((x - 128).toNat + 128 * m, nx) := by
  unfold uintM
  rw [lebG_drop hx, lebG, if_neg h1, if_neg h2]
  cases hr : lebG lstU (B.drop (a + 1)) (bits - 7) with
  | error e => rfl
  | ok y =>
    obtain ⟨m, h, c⟩ := y
    have hm := lstU_bound _ _ _ _ _ (by omega) (fun x hx => hB.2 x (List.mem_of_mem_drop hx)) hr
    have hp : 2 ^ (bits - 7) ≤ 2 ^ 57 := Nat.pow_le_pow_right (by omega) (by omega)
    have hxb := hB.get hx
    simp only [Except.ok.injEq, Prod.mk.injEq]
    refine ⟨?_, by omega⟩
    rw [Nat.mod_eq_of_lt (a := m) (by omega), Nat.mod_eq_of_lt (by omega)]
theorem uintM_lt {B : List Int} {a bits n nx : Nat} (hB : Byts B) (hb1 : 1 ≤ bits) (hb : bits ≤ 64) (h : uintM B a bits = .ok (n, nx)) : n < 2 ^ bits := by
  unfold uintM at h
  cases hr : lebG lstU (B.drop a) bits with
  | error e => rw [hr] at h; cases h
  | ok y =>
    obtain ⟨m, hh, c⟩ := y
    rw [hr] at h
    cases h
    have := lstU_bound _ _ _ _ _ hb1 (fun x hx => hB.2 x (List.mem_of_mem_drop hx)) hr
    exact Nat.lt_of_le_of_lt (Nat.mod_le _ _) this
set_option maxRecDepth 100000 in
set_option maxHeartbeats 2000000 in
theorem rUint_any (q : Nat) (A : Option Addr) (c : Nat) (B : List Int) (hB : Byts B) (hc : B.length ≤ c) : ∀ (bits a : Nat) (W : World), 1 ≤ bits → bits ≤ 64 → a ≤ B.length → ByQ W q A B →
    Calls Tryz.prog 66 #[.slice A B.length c, .int .i64 a, .int .i64 bits] W (RNumPost W (uintM B a bits)) := by
  intro bits
  induction bits using Nat.strongRecOn with
  | ind bits ih =>
  intro a W hb1 hb2 ha hQ
  have IH := Lib.hid ih
  have hl := hB.1
  clear ih
  rcases Nat.lt_or_ge a B.length with hlt | hge
  · obtain ⟨o, x, rfl, hx, hcc⟩ := hQ.at_ a hlt
    have hxb := hB.get hx.out
    have hx0 := hxb.1
    have hx1 := hxb.2
    have hlt3 : (a : Int) < (B.length : Int) := by omega
    have HQ := Lib.hid hQ
    have HB := Lib.hid hB
    clear hQ hB hxb
    by_cases h128 : x < 128
    · by_cases h7 : bits < 7
      · by_cases hge : x < twoV bits
        · have HV := Lib.hid (show uintM B a bits = .ok (x.toNat, a + 1) from by
            unfold uintM
            rw [lebG_drop hx.out, lebG, if_pos h128, if_pos (by simp only [lstU, Int.toNat_natCast, Bool.or_eq_true, decide_eq_true_eq]; right; unfold twoV at hge; rw [Int.natCast_pow] at hge; exact hge)]
            show Except.ok (x.toNat % 18446744073709551616, a + 1) = _
            rw [Nat.mod_eq_of_lt (by omega)])
          have HT := Lib.hid (two_any W bits (by omega))
          generalize twoV bits = t at *
          go_enter Tryz.func66, Tryz.ntmps66
          go_wp2_with (go_at_call 100; refine HT.out.mono ?_; rintro e w' ⟨rfl, rfl⟩)
          refine bodyPost_ret (results_tmp3 rfl _ _ _) rfl ?_
          rw [HV.out]
          exact ⟨rfl, by show _ = _; rw [Int.toNat_of_nonneg hx0]; rfl⟩
        · have HV := Lib.hid (show uintM B a bits = .error 101 from by
            unfold uintM
            rw [lebG_drop hx.out, lebG, if_pos h128, if_neg (by simp only [lstU, Int.toNat_natCast, Bool.or_eq_true, decide_eq_true_eq, not_or]; unfold twoV at hge; rw [Int.natCast_pow] at hge; exact ⟨by omega, hge⟩)])
          have HT := Lib.hid (two_any W bits (by omega))
          generalize twoV bits = t at *
          go_enter Tryz.func66, Tryz.ntmps66
          go_wp2_with (go_at_call 100; refine HT.out.mono ?_; rintro e w' ⟨rfl, rfl⟩)
          refine bodyPost_ret (results_tmp3 rfl _ _ _) rfl ?_
          rw [HV.out]
          exact ⟨rfl, rfl⟩
      · have HV := Lib.hid (show uintM B a bits = .ok (x.toNat, a + 1) from by
          unfold uintM
          rw [lebG_drop hx.out, lebG, if_pos h128, if_pos (by simp only [lstU, Bool.or_eq_true, decide_eq_true_eq]; left; omega)]
          show Except.ok (x.toNat % 18446744073709551616, a + 1) = _
          rw [Nat.mod_eq_of_lt (by omega)])
        go_enter Tryz.func66, Tryz.ntmps66
        go_wp2_with fail
        refine bodyPost_ret (results_tmp3 rfl _ _ _) rfl ?_
        rw [HV.out]
        exact ⟨rfl, by show _ = _; rw [Int.toNat_of_nonneg hx0]; rfl⟩
    · by_cases h7 : bits ≤ 7
      · have HV := Lib.hid (show uintM B a bits = .error 101 from by
          unfold uintM
          rw [lebG_drop hx.out, lebG, if_neg h128, if_pos h7])
        go_enter Tryz.func66, Tryz.ntmps66
        go_wp2_with fail
        refine bodyPost_ret (results_tmp3 rfl _ _ _) rfl ?_
        rw [HV.out]
        exact ⟨rfl, rfl⟩
      · have HV := Lib.hid (uintM_step HB.out hx.out hb2 h128 h7)
        have HR := Lib.hid (IH.out (bits - 7) (by omega) (a + 1) W (by omega) (by omega) (by omega) HQ.out)
        have hcb : (((bits - 7 : Nat) : Nat) : Int) = (bits : Int) - 7 := by omega
        have hca : (((a + 1 : Nat) : Nat) : Int) = (a : Int) + 1 := by omega
        rw [hcb, hca] at HR
        have HL := Lib.hid (fun m nx => uintM_lt (a := a + 1) (bits := bits - 7) (n := m) (nx := nx) HB.out (by omega) (by omega))
        have hp : 2 ^ (bits - 7) ≤ 2 ^ 57 := Nat.pow_le_pow_right (by omega) (by omega)
        have HPP := Lib.hid hp
        clear hcb hca hp
        cases hu : uintM B (a + 1) (bits - 7) with
        | error e =>
          have he := uintM_err hu
          have he2 : (e != 0) = true := by simp only [bne, he]; rfl
          rw [hu] at HR HV
          clear hu he
          go_enter Tryz.func66, Tryz.ntmps66
          go_wp2_with fail
          refine HR.out.mono ?_
          rintro E w' ⟨rfl, rfl⟩
          go_wp2_with fail
          refine bodyPost_ret (results_tmp3 rfl _ _ _) rfl ?_
          rw [HV.out]
          exact ⟨rfl, rfl⟩
        | ok y =>
          obtain ⟨m, nx⟩ := y
          have hm : (m : Int) ≤ 144115188075855871 := by have h1 := HL.out m nx hu; have := HPP.out; omega
          rw [hu] at HR HV
          clear hu
          go_enter Tryz.func66, Tryz.ntmps66
          go_wp2_with fail
          refine HR.out.mono ?_
          rintro E w' ⟨rfl, rfl⟩
          go_wp2_with fail
          refine bodyPost_ret (results_tmp3 rfl _ _ _) rfl ?_
          rw [HV.out]
          refine ⟨rfl, ?_⟩
          show _ = _
          have e1 : (((x - 128).toNat + 128 * m : Nat) : Int) = x - 128 + 128 * m := by omega
          have e2 : IntKind.u64.wrap (x - 128 + IntKind.u64.wrap (128 * (m : Int))) = x - 128 + 128 * m := by rw [IntKind.wrap_u64, IntKind.wrap_u64]; omega
          rw [e1, ← e2]
          rfl
  · obtain rfl : a = B.length := by omega
    have HV := Lib.hid (show uintM B B.length bits = .error 100 from by unfold uintM; rw [lebG_nil])
    clear hQ hB
    go_enter Tryz.func66, Tryz.ntmps66
    go_wp2_with fail
    refine bodyPost_ret (results_tmp3 rfl _ _ _) rfl ?_
    rw [HV.out]
    exact ⟨rfl, rfl⟩
end Go.Proofs.YtofaiocffifhfaaGreat
end
section
namespace Go.Proofs.YtofaiocffifhfaaGreat
open Go.RowKit Go.Shelf YtofaiocffifhfaaGreatB Go.Proofs.YtofaiocffifhfaaGreatW.PrintWords
theorem sgn_step (m h y : Nat) (hm : m < 2 ^ h) (h7 : 1 ≤ h) (hy : y < 128) : (128 * sgnV m h + y) % 18446744073709551616 = sgnV (y + 128 * m) (h + 7) := by
  obtain ⟨k, rfl⟩ : ∃ k, h = k + 1 := ⟨h - 1, by omega⟩
  unfold sgnV
  have e1 : 2 ^ (k + 1 + 7) = 256 * 2 ^ k := by rw [show k + 1 + 7 = k + 8 from by omega, Nat.pow_add]; rw [show (2 : Nat) ^ 8 = 256 from rfl, Nat.mul_comm]
  have e2 : 2 ^ (k + 1) = 2 * 2 ^ k := by rw [Nat.pow_succ, Nat.mul_comm]
  have e3 : 2 ^ (k + 1 + 7 - 1) = 128 * 2 ^ k := by rw [show k + 1 + 7 - 1 = k + 7 from by omega, Nat.pow_add]; rw [show (2 : Nat) ^ 7 = 128 from rfl, Nat.mul_comm]
  rw [show k + 1 - 1 = k from rfl, e1, e2, e3]
  rw [e2] at hm
  by_cases h64 : k + 1 + 7 < 64
  · have hp : 2 ^ k ≤ 2 ^ 55 := Nat.pow_le_pow_right (by omega) (by omega)
    generalize 2 ^ k = t at *
    by_cases hn : t ≤ m
    · rw [if_pos ⟨by omega, hn⟩, if_pos ⟨h64, by omega⟩]; omega
    · rw [if_neg (fun h => hn h.2), if_neg (fun h => by omega)]; omega
  · rw [if_neg (show ¬ (k + 1 + 7 < 64 ∧ 128 * 2 ^ k ≤ y + 128 * m) from fun h => h64 h.1)]
    obtain ⟨u, hu⟩ : ∃ u, 256 * 2 ^ k = 18446744073709551616 * u := ⟨2 ^ (k - 56), by rw [show (256 : Nat) = 2 ^ 8 from rfl, show (18446744073709551616 : Nat) = 2 ^ 64 from rfl, ← Nat.pow_add, ← Nat.pow_add]; congr 1; omega⟩
    by_cases hn : k + 1 < 64 ∧ 2 ^ k ≤ m
    · rw [if_pos hn]
      have hp : 2 ^ k ≤ 2 ^ 62 := Nat.pow_le_pow_right (by omega) (by omega)
      generalize 2 ^ k = t at *
      omega
    · rw [if_neg hn]; omega
theorem sintM_step {B : List Int} {a bits : Nat} {x : Int} (hB : Byts B) (hx : B[a]? = some x) (h1 : ¬ x < 128) (h2 : ¬ bits ≤ 7) :
    sintM B a bits = match sintM B (a + 1) (bits - 7) with | .error e => .error e | .ok (m, nx) => .ok ((128 * m + (x - 128).toNat) % 18446744073709551616, nx) := by
  unfold sintM
  rw [lebG_drop hx, lebG, if_neg h1, if_neg h2]
  cases hr : lebG lstS (B.drop (a + 1)) (bits - 7) with
  | error e => rfl
  | ok y =>
    obtain ⟨m, h, c⟩ := y
    have hm := lebG_bound _ _ _ _ _ (by omega) (fun x hx => hB.2 x (List.mem_of_mem_drop hx)) hr
    have hxb := hB.get hx
    simp only [Except.ok.injEq, Prod.mk.injEq]
    exact ⟨(sgn_step m h (x - 128).toNat hm.1 (by omega) (by omega)).symm, by omega⟩
theorem sgnV_lt (m h : Nat) (hm : m < 2 ^ h) : sgnV m h < 18446744073709551616 := by
  unfold sgnV
  split
  next hc =>
    have hp : 2 ^ h ≤ 2 ^ 63 := Nat.pow_le_pow_right (by omega) (by omega)
    generalize 2 ^ h = t at *
    omega
  · exact Nat.mod_lt _ (by omega)
theorem sintM_lt {B : List Int} {a bits n nx : Nat} (hB : Byts B) (hb1 : 1 ≤ bits) (h : sintM B a bits = .ok (n, nx)) : n < 18446744073709551616 := by
  unfold sintM at h
  cases hr : lebG lstS (B.drop a) bits with
  | error e => rw [hr] at h; cases h
  | ok y =>
    obtain ⟨m, hh, c⟩ := y
    rw [hr] at h
    cases h
    exact sgnV_lt _ _ (lebG_bound _ _ _ _ _ hb1 (fun x hx => hB.2 x (List.mem_of_mem_drop hx)) hr).1
theorem sintM_last {B : List Int} {a bits : Nat} {x : Int} (hx : B[a]? = some x) (hx0 : 0 ≤ x) (h1 : x < 128) : sintM B a bits = if lstS x bits then .ok (if 64 ≤ x then x.toNat + 18446744073709551616 - 128 else x.toNat, a + 1) else .error 101 := by
  unfold sintM
  rw [lebG_drop hx, lebG, if_pos h1]
  cases lstS x bits with
  | false => rfl
  | true =>
    show Except.ok (sgnV x.toNat 7, a + 1) = _
    rw [if_pos rfl, sgnV, show (2 : Nat) ^ 7 = 128 from rfl, show (2 : Nat) ^ (7 - 1) = 64 from rfl]
    by_cases h64 : 64 ≤ x
    · rw [if_pos ⟨by omega, by omega⟩, if_pos h64]
    · rw [if_neg (fun h => h64 (by omega)), if_neg h64, Nat.mod_eq_of_lt (by omega)]
set_option maxRecDepth 100000 in
set_option maxHeartbeats 4000000 in
theorem rSint_any (q : Nat) (A : Option Addr) (c : Nat) (B : List Int) (hB : Byts B) (hc : B.length ≤ c) : ∀ (bits a : Nat) (W : World), 1 ≤ bits → bits ≤ 64 → a ≤ B.length → ByQ W q A B →
    Calls Tryz.prog 138 #[.slice A B.length c, .int .i64 a, .int .i64 bits] W (RNumPost W (sintM B a bits)) := by
  intro bits
  induction bits using Nat.strongRecOn with
  | ind bits ih =>
  intro a W hb1 hb2 ha hQ
  have IH := Lib.hid ih
  have hl := hB.1
  clear ih
  rcases Nat.lt_or_ge a B.length with hlt | hge
  · obtain ⟨o, x, rfl, hx, hcc⟩ := hQ.at_ a hlt
    have hxb := hB.get hx.out
    have hx0 := hxb.1
    have hx1 := hxb.2
    have hlt3 : (a : Int) < (B.length : Int) := by omega
    have HQ := Lib.hid hQ
    have HB := Lib.hid hB
    clear hQ hB hxb
    by_cases h128 : x < 128
    · have HL := Lib.hid (sintM_last (bits := bits) hx.out hx0 h128)
      by_cases h7 : bits < 7
      · have HT := Lib.hid (two_any W (bits - 1) (by omega))
        have hcb : (((bits - 1 : Nat) : Nat) : Int) = (bits : Int) - 1 := by omega
        rw [hcb] at HT
        have hH1 : 1 ≤ twoV (bits - 1) := by have := Nat.two_pow_pos (bits - 1); unfold twoV; omega
        have hH2 : twoV (bits - 1) ≤ 32 := by
          have : 2 ^ (bits - 1) ≤ 2 ^ 5 := Nat.pow_le_pow_right (by omega) (by omega)
          unfold twoV; omega
        have HS := Lib.hid (show lstS x bits = (decide (-(twoV (bits - 1)) ≤ svOf x) && decide (svOf x < twoV (bits - 1))) from by
          have e : (2 : Int) ^ ((bits : Int) - 1).toNat = twoV (bits - 1) := by rw [show ((bits : Int) - 1).toNat = bits - 1 from by omega]; unfold twoV; rw [Int.natCast_pow]; rfl
          unfold lstS
          rw [e, decide_eq_false (by omega), Bool.false_or])
        generalize twoV (bits - 1) = H at *
        clear hcb
        by_cases h64 : 64 ≤ x
        · have HSV := Lib.hid (show svOf x = x - 128 from if_pos h64)
          by_cases c1 : -H ≤ x - 128
          · have HV := Lib.hid (show sintM B a bits = .ok (x.toNat + 18446744073709551616 - 128, a + 1) from by
              rw [HL.out, HS.out, HSV.out, decide_eq_true c1, decide_eq_true (by omega), Bool.true_and, if_pos rfl, if_pos h64])
            go_enter Tryz.func138, Tryz.ntmps138
            go_wp2_with (go_at_call 100; refine HT.out.mono ?_; rintro e w' ⟨rfl, rfl⟩)
            refine bodyPost_ret (results_tmp3 rfl _ _ _) rfl ?_
            rw [HV.out]
            refine ⟨rfl, ?_⟩
            show _ = _
            have e2 : IntKind.u64.wrap (x - 128) = ((x.toNat + 18446744073709551616 - 128 : Nat) : Int) := by rw [IntKind.wrap_u64]; omega
            rw [← e2]; rfl
          · have HV := Lib.hid (show sintM B a bits = .error 101 from by
              rw [HL.out, HS.out, HSV.out, decide_eq_false c1]; rfl)
            have c3 : x - 128 < -H := by omega
            go_enter Tryz.func138, Tryz.ntmps138
            go_wp2_with (go_at_call 100; refine HT.out.mono ?_; rintro e w' ⟨rfl, rfl⟩)
            refine bodyPost_ret (results_tmp3 rfl _ _ _) rfl ?_
            rw [HV.out]
            exact ⟨rfl, rfl⟩
        · have HSV := Lib.hid (show svOf x = x from if_neg h64)
          by_cases c1 : x < H
          · have HV := Lib.hid (show sintM B a bits = .ok (x.toNat, a + 1) from by
              rw [HL.out, HS.out, HSV.out, decide_eq_true c1, decide_eq_true (by omega), Bool.true_and, if_pos rfl, if_neg h64])
            go_enter Tryz.func138, Tryz.ntmps138
            go_wp2_with (go_at_call 100; refine HT.out.mono ?_; rintro e w' ⟨rfl, rfl⟩)
            refine bodyPost_ret (results_tmp3 rfl _ _ _) rfl ?_
            rw [HV.out]
            refine ⟨rfl, ?_⟩
            show _ = _
            rw [Int.toNat_of_nonneg hx0]; rfl
          · have HV := Lib.hid (show sintM B a bits = .error 101 from by
              rw [HL.out, HS.out, HSV.out, decide_eq_false c1, Bool.and_false]; rfl)
            go_enter Tryz.func138, Tryz.ntmps138
            go_wp2_with (go_at_call 100; refine HT.out.mono ?_; rintro e w' ⟨rfl, rfl⟩)
            refine bodyPost_ret (results_tmp3 rfl _ _ _) rfl ?_
            rw [HV.out]
            exact ⟨rfl, rfl⟩
      · have HS := Lib.hid (show lstS x bits = true from by unfold lstS; rw [decide_eq_true (by omega), Bool.true_or])
        by_cases h64 : 64 ≤ x
        · have HV := Lib.hid (show sintM B a bits = .ok (x.toNat + 18446744073709551616 - 128, a + 1) from by
            rw [HL.out, HS.out, if_pos rfl, if_pos h64])
          go_enter Tryz.func138, Tryz.ntmps138
          go_wp2_with fail
          refine bodyPost_ret (results_tmp3 rfl _ _ _) rfl ?_
          rw [HV.out]
          refine ⟨rfl, ?_⟩
          show _ = _
          have e2 : IntKind.u64.wrap (x - 128) = ((x.toNat + 18446744073709551616 - 128 : Nat) : Int) := by rw [IntKind.wrap_u64]; omega
          rw [← e2]; rfl
        · have HV := Lib.hid (show sintM B a bits = .ok (x.toNat, a + 1) from by
            rw [HL.out, HS.out, if_pos rfl, if_neg h64])
          go_enter Tryz.func138, Tryz.ntmps138
          go_wp2_with fail
          refine bodyPost_ret (results_tmp3 rfl _ _ _) rfl ?_
          rw [HV.out]
          refine ⟨rfl, ?_⟩
          show _ = _
          rw [Int.toNat_of_nonneg hx0]; rfl
    · by_cases h7 : bits ≤ 7
      · have HV := Lib.hid (show sintM B a bits = .error 101 from by
          unfold sintM
          rw [lebG_drop hx.out, lebG, if_neg h128, if_pos h7])
        go_enter Tryz.func138, Tryz.ntmps138
        go_wp2_with fail
        refine bodyPost_ret (results_tmp3 rfl _ _ _) rfl ?_
        rw [HV.out]
        exact ⟨rfl, rfl⟩
      · have HV := Lib.hid (sintM_step HB.out hx.out h128 h7)
        have HR := Lib.hid (IH.out (bits - 7) (by omega) (a + 1) W (by omega) (by omega) (by omega) HQ.out)
        have hcb : (((bits - 7 : Nat) : Nat) : Int) = (bits : Int) - 7 := by omega
        have hca : (((a + 1 : Nat) : Nat) : Int) = (a : Int) + 1 := by omega
        rw [hcb, hca] at HR
        clear hcb hca
        cases hu : sintM B (a + 1) (bits - 7) with
        | error e =>
          have he := sintM_err hu
          have he2 : (e != 0) = true := by simp only [bne, he]; rfl
          rw [hu] at HR HV
          clear hu he
          go_enter Tryz.func138, Tryz.ntmps138
          go_wp2_with fail
          refine HR.out.mono ?_
          rintro E w' ⟨rfl, rfl⟩
          go_wp2_with fail
          refine bodyPost_ret (results_tmp3 rfl _ _ _) rfl ?_
          rw [HV.out]
          exact ⟨rfl, rfl⟩
        | ok y =>
          obtain ⟨m, nx⟩ := y
          rw [hu] at HR HV
          clear hu
          go_enter Tryz.func138, Tryz.ntmps138
          go_wp2_with fail
          refine HR.out.mono ?_
          rintro E w' ⟨rfl, rfl⟩
          go_wp2_with fail
          refine bodyPost_ret (results_tmp3 rfl _ _ _) rfl ?_
          rw [HV.out]
          refine ⟨rfl, ?_⟩
          show _ = _
          have e2 : IntKind.u64.wrap (IntKind.u64.wrap (128 * (m : Int)) + (x - 128)) = (((128 * m + (x - 128).toNat) % 18446744073709551616 : Nat) : Int) := by rw [IntKind.wrap_u64, IntKind.wrap_u64]; omega
          rw [← e2]
          rfl
  · obtain rfl : a = B.length := by omega
    have HV := Lib.hid (show sintM B B.length bits = .error 100 from by unfold sintM; rw [lebG_nil])
    clear hQ hB
    go_enter Tryz.func138, Tryz.ntmps138
    go_wp2_with fail
    refine bodyPost_ret (results_tmp3 rfl _ _ _) rfl ?_
    rw [HV.out]
    exact ⟨rfl, rfl⟩
end Go.Proofs.YtofaiocffifhfaaGreat
end
section
namespace Go.Proofs.YtofaiocffifhfaaGreat
open Go.RowKit Go.Shelf YtofaiocffifhfaaGreatB Go.Proofs.YtofaiocffifhfaaGreatW.PrintWords
set_option maxRecDepth 100000 in
set_option maxHeartbeats 1000000 in
theorem rdUint_any (W : World) (p q : Nat) (B : List Int) (a bits : Nat) (e : Int) (hC : Rdr W p q B a e) (hB : Byts B) (hb1 : 1 ≤ bits) (hb2 : bits ≤ 64) :
    Calls Tryz.prog 38 #[.pointer (some ⟨p, 0, none⟩), .int .i64 bits] W fun E w' => E = .returned (.int .u64 (rdOf (uintM B a bits) a e).1) ∧ GoesR W w' p q B (rdOf (uintM B a bits) a e).2.1 (rdOf (uintM B a bits) a e).2.2 := by
  have HC := Lib.hid hC
  obtain ⟨A, c, c0, c1, c2, f0, f1, f2, hle, hq, hlt, ha⟩ := hC.cells
  by_cases he : e = 0
  · subst he
    have H := Lib.hid (fun X (h : ByQ X q A B) => rUint_any q A c B hB hle bits a X hb1 hb2 ha h)
    have HQ := Lib.hid hq
    cases hu : uintM B a bits with
    | error e' =>
      have he := uintM_err hu
      have he2 : (e' != 0) = true := by simp only [bne, he]; rfl
      rw [hu] at H
      have H2 := Lib.hid (fun X h => (H.out X h).mono (R' := fun E w' => E = .returned (.tuple #[.int .u64 0, .int .i64 0, .int .i64 e']) ∧ w' = X) (by rintro E w' ⟨rfl, rfl⟩; exact ⟨rfl, rfl⟩))
      clear H
      clear hC hB hq hu he
      go_enter Tryz.func38, Tryz.ntmps38
      go_wp2_with fail
      go_quiet ((go_at_call 66; exact Calls.quiet_of_same (H2.out _ (HQ.out.grown (row := none) ⟨rfl, rfl, rfl, Nat.le_refl _, fun _ _ _ => rfl⟩ (by simp)))))
      go_wp2_with fail
      go_ret
      exact ⟨rfl, GoesR.trans (GoesR.drewN HC.out _) ⟨(GoesR.drewN HC.out _).1.setE e', gset _ _ _ _⟩⟩
    | ok y =>
      obtain ⟨n, nx⟩ := y
      have hnx := (uintM_ok hu).2
      rw [hu] at H
      have H2 := Lib.hid (fun X h => (H.out X h).mono (R' := fun E w' => E = .returned (.tuple #[.int .u64 n, .int .i64 nx, .int .i64 0]) ∧ w' = X) (by rintro E w' ⟨rfl, rfl⟩; exact ⟨rfl, rfl⟩))
      clear H
      clear hC hB hq hu
      go_enter Tryz.func38, Tryz.ntmps38
      go_wp2_with fail
      go_quiet ((go_at_call 66; exact Calls.quiet_of_same (H2.out _ (HQ.out.grown (row := none) ⟨rfl, rfl, rfl, Nat.le_refl _, fun _ _ _ => rfl⟩ (by simp)))))
      go_wp2_with fail
      go_ret
      exact ⟨rfl, GoesR.trans (GoesR.drewN HC.out _) ⟨(GoesR.drewN HC.out _).1.setAt nx hnx, gset _ _ _ _⟩⟩
  · have he2 : (e != 0) = true := by simp; exact he
    have HV := Lib.hid (show rdOf (uintM B a bits) a e = (0, a, e) from by simp [rdOf, he])
    clear hC hB hq he
    go_enter Tryz.func38, Tryz.ntmps38
    go_wp2_with fail
    go_ret
    rw [HV.out]
    exact ⟨rfl, GoesR.same HC.out⟩
set_option maxRecDepth 100000 in
set_option maxHeartbeats 1000000 in
theorem rdS32_any (W : World) (p q : Nat) (B : List Int) (a : Nat) (e : Int) (hC : Rdr W p q B a e) (hB : Byts B) :
    Calls Tryz.prog 129 #[.pointer (some ⟨p, 0, none⟩), .int .i64 32] W fun E w' => E = .returned (.int .u64 (rdOf (s32M B a) a e).1) ∧ GoesR W w' p q B (rdOf (s32M B a) a e).2.1 (rdOf (s32M B a) a e).2.2 := by
  have HC := Lib.hid hC
  obtain ⟨A, c, c0, c1, c2, f0, f1, f2, hle, hq, hlt, ha⟩ := hC.cells
  by_cases he : e = 0
  · subst he
    have H := Lib.hid (fun X (h : ByQ X q A B) => rSint_any q A c B hB hle 32 a X (by omega) (by omega) ha h)
    have HQ := Lib.hid hq
    cases hu : sintM B a 32 with
    | error e' =>
      have he := sintM_err hu
      have he2 : (e' != 0) = true := by simp only [bne, he]; rfl
      rw [hu] at H
      have H2 := Lib.hid (fun X h => (H.out X h).mono (R' := fun E w' => E = .returned (.tuple #[.int .u64 0, .int .i64 0, .int .i64 e']) ∧ w' = X) (by rintro E w' ⟨rfl, rfl⟩; exact ⟨rfl, rfl⟩))
      clear H
      rw [show s32M B a = .error e' from by unfold s32M; rw [hu]]
      clear hC hB hq hu he
      go_enter Tryz.func129, Tryz.ntmps129
      go_wp2_with fail
      go_quiet ((go_at_call 138; exact Calls.quiet_of_same (H2.out _ (HQ.out.grown (row := none) ⟨rfl, rfl, rfl, Nat.le_refl _, fun _ _ _ => rfl⟩ (by simp)))))
      go_wp2_with fail
      go_ret
      exact ⟨rfl, GoesR.trans (GoesR.drewN HC.out _) ⟨(GoesR.drewN HC.out _).1.setE e', gset _ _ _ _⟩⟩
    | ok y =>
      obtain ⟨n, nx⟩ := y
      have hnx := (sintM_ok hu).2
      rw [hu] at H
      have H2 := Lib.hid (fun X h => (H.out X h).mono (R' := fun E w' => E = .returned (.tuple #[.int .u64 n, .int .i64 nx, .int .i64 0]) ∧ w' = X) (by rintro E w' ⟨rfl, rfl⟩; exact ⟨rfl, rfl⟩))
      clear H
      rw [show s32M B a = .ok (n % 4294967296, nx) from by unfold s32M; rw [hu]]
      clear hC hB hq hu
      go_enter Tryz.func129, Tryz.ntmps129
      go_wp2_with fail
      go_quiet ((go_at_call 138; exact Calls.quiet_of_same (H2.out _ (HQ.out.grown (row := none) ⟨rfl, rfl, rfl, Nat.le_refl _, fun _ _ _ => rfl⟩ (by simp)))))
      go_wp2_with fail
      go_ret
      exact ⟨rfl, GoesR.trans (GoesR.drewN HC.out _) ⟨(GoesR.drewN HC.out _).1.setAt nx hnx, gset _ _ _ _⟩⟩
  · have he2 : (e != 0) = true := by simp; exact he
    have HV := Lib.hid (show rdOf (s32M B a) a e = (0, a, e) from by simp [rdOf, he])
    clear hC hB hq he
    go_enter Tryz.func129, Tryz.ntmps129
    go_wp2_with fail
    go_ret
    rw [HV.out]
    exact ⟨rfl, GoesR.same HC.out⟩
set_option maxRecDepth 100000 in
set_option maxHeartbeats 1000000 in
theorem rdS64_any (W : World) (p q : Nat) (B : List Int) (a : Nat) (e : Int) (hC : Rdr W p q B a e) (hB : Byts B) :
    Calls Tryz.prog 129 #[.pointer (some ⟨p, 0, none⟩), .int .i64 64] W fun E w' => E = .returned (.int .u64 (rdOf (s64M B a) a e).1) ∧ GoesR W w' p q B (rdOf (s64M B a) a e).2.1 (rdOf (s64M B a) a e).2.2 := by
  have HC := Lib.hid hC
  obtain ⟨A, c, c0, c1, c2, f0, f1, f2, hle, hq, hlt, ha⟩ := hC.cells
  by_cases he : e = 0
  · subst he
    have H := Lib.hid (fun X (h : ByQ X q A B) => rSint_any q A c B hB hle 64 a X (by omega) (by omega) ha h)
    have HQ := Lib.hid hq
    cases hu : sintM B a 64 with
    | error e' =>
      have he := sintM_err hu
      have he2 : (e' != 0) = true := by simp only [bne, he]; rfl
      rw [hu] at H
      have H2 := Lib.hid (fun X h => (H.out X h).mono (R' := fun E w' => E = .returned (.tuple #[.int .u64 0, .int .i64 0, .int .i64 e']) ∧ w' = X) (by rintro E w' ⟨rfl, rfl⟩; exact ⟨rfl, rfl⟩))
      clear H
      rw [show s64M B a = .error e' from by unfold s64M; rw [hu]]
      clear hC hB hq hu he
      go_enter Tryz.func129, Tryz.ntmps129
      go_wp2_with fail
      go_quiet ((go_at_call 138; exact Calls.quiet_of_same (H2.out _ (HQ.out.grown (row := none) ⟨rfl, rfl, rfl, Nat.le_refl _, fun _ _ _ => rfl⟩ (by simp)))))
      go_wp2_with fail
      go_ret
      exact ⟨rfl, GoesR.trans (GoesR.drewN HC.out _) ⟨(GoesR.drewN HC.out _).1.setE e', gset _ _ _ _⟩⟩
    | ok y =>
      obtain ⟨n, nx⟩ := y
      have hnx := (sintM_ok hu).2
      rw [hu] at H
      have H2 := Lib.hid (fun X h => (H.out X h).mono (R' := fun E w' => E = .returned (.tuple #[.int .u64 n, .int .i64 nx, .int .i64 0]) ∧ w' = X) (by rintro E w' ⟨rfl, rfl⟩; exact ⟨rfl, rfl⟩))
      clear H
      rw [show s64M B a = .ok (n, nx) from by unfold s64M; rw [hu]]
      clear hC hB hq hu
      go_enter Tryz.func129, Tryz.ntmps129
      go_wp2_with fail
      go_quiet ((go_at_call 138; exact Calls.quiet_of_same (H2.out _ (HQ.out.grown (row := none) ⟨rfl, rfl, rfl, Nat.le_refl _, fun _ _ _ => rfl⟩ (by simp)))))
      go_wp2_with fail
      go_ret
      exact ⟨rfl, GoesR.trans (GoesR.drewN HC.out _) ⟨(GoesR.drewN HC.out _).1.setAt nx hnx, gset _ _ _ _⟩⟩
  · have he2 : (e != 0) = true := by simp; exact he
    have HV := Lib.hid (show rdOf (s64M B a) a e = (0, a, e) from by simp [rdOf, he])
    clear hC hB hq he
    go_enter Tryz.func129, Tryz.ntmps129
    go_wp2_with fail
    go_ret
    rw [HV.out]
    exact ⟨rfl, GoesR.same HC.out⟩
end Go.Proofs.YtofaiocffifhfaaGreat
end
section
namespace Go.Proofs.YtofaiocffifhfaaGreat
open Go.RowKit Go.Shelf YtofaiocffifhfaaGreatB Go.Proofs.YtofaiocffifhfaaGreatW.PrintWords
set_option maxRecDepth 100000 in
set_option maxHeartbeats 1000000 in
theorem rCount_any (W : World) (p q : Nat) (B : List Int) (a : Nat) (e : Int) (hC : Rdr W p q B a e) (hB : Byts B) :
    Calls Tryz.prog 37 #[.pointer (some ⟨p, 0, none⟩)] W fun E w' => E = .returned (.int .i64 (rdOf (countM B a) a e).1) ∧ GoesR W w' p q B (rdOf (countM B a) a e).2.1 (rdOf (countM B a) a e).2.2 := by
  have HC := Lib.hid hC
  obtain ⟨A, c, c0, c1, c2, f0, f1, f2, hle, hq, hlt, ha⟩ := hC.cells
  have H := Lib.hid (rdUint_any W p q B a 32 e hC hB (by omega) (by omega))
  by_cases he : e = 0
  · subst he
    rw [show uintM B a 32 = u32M B a from rfl] at H
    cases hu : u32M B a with
    | error e' =>
      have he := err_U32 B a e' hu
      have he2 : (e' != 0) = true := by simp only [bne, he]; rfl
      have HE := Lib.hid (show ¬ e' = 0 from by simpa using he)
      have HV := Lib.hid (show countM B a = .error e' from by unfold countM; rw [hu])
      rw [hu] at H
      clear hC hB hq hu he
      go_enter Tryz.func37, Tryz.ntmps37
      go_wp2_with fail
      refine H.out.mono ?_
      rintro E W1 ⟨rfl, hG⟩
      have hG' : GoesR W W1 p q B a e' := hG
      obtain ⟨A1, k, d0, d1, d2, l0, l1, l2, gle, gq, glt, ga⟩ := hG'.1.cells
      have HG := Lib.hid hG'
      clear hG hG' gq H
      simp only [rdOf, numV, if_pos]
      go_wp2_with fail
      refine (rBack_any _ _ _ _ _ a _ HG.out.1 ha).mono ?_
      rintro E W2 ⟨rfl, hG2⟩
      rw [if_neg HE.out] at hG2
      have HG2 := Lib.hid hG2
      clear hG2
      go_wp2_with fail
      go_ret
      rw [HV.out]
      exact ⟨rfl, HG.out.trans HG2.out⟩
    | ok y =>
      obtain ⟨n, nx⟩ := y
      have hlt := u32M_lt hB hu
      have hn := hlt.1
      rw [hu] at H
      by_cases hbig : n > 4096
      · have HV := Lib.hid (show countM B a = .error 3 from by unfold countM; rw [hu]; exact if_pos hbig)
        have hbig2 : (4096 : Int) < (n : Int) := by omega
        clear hC hB hq hu hbig hlt
        go_enter Tryz.func37, Tryz.ntmps37
        go_wp2_with fail
        refine H.out.mono ?_
        rintro E W1 ⟨rfl, hG⟩
        have hG' : GoesR W W1 p q B nx 0 := hG
        have HG := Lib.hid hG'
        clear hG hG' H
        simp only [rdOf, numV, if_pos]
        go_wp2_with fail
        refine (rFail_any _ _ _ _ _ _ 3 HG.out.1).mono ?_
        rintro E W2 ⟨rfl, hG2⟩
        have hG2' : GoesR W1 W2 p q B nx 3 := hG2
        obtain ⟨A1, k, d0, d1, d2, l0, l1, l2, gle, gq, glt, ga⟩ := hG2'.1.cells
        have HG2 := Lib.hid hG2'
        clear hG2 hG2' gq
        go_wp2_with fail
        refine (rBack_any _ _ _ _ _ a _ HG2.out.1 ha).mono ?_
        rintro E W3 ⟨rfl, hG3⟩
        have hG3' : GoesR W2 W3 p q B a 3 := hG3
        have HG3 := Lib.hid hG3'
        clear hG3 hG3'
        go_wp2_with fail
        go_ret
        rw [HV.out]
        exact ⟨rfl, (HG.out.trans HG2.out).trans HG3.out⟩
      · have HV := Lib.hid (show countM B a = .ok (n, nx) from by unfold countM; rw [hu]; exact if_neg hbig)
        have hbig2 : (n : Int) ≤ 4096 := by omega
        clear hC hB hq hu hbig hlt
        go_enter Tryz.func37, Tryz.ntmps37
        go_wp2_with fail
        refine H.out.mono ?_
        rintro E W1 ⟨rfl, hG⟩
        have hG' : GoesR W W1 p q B nx 0 := hG
        obtain ⟨A1, k, d0, d1, d2, l0, l1, l2, gle, gq, glt, ga⟩ := hG'.1.cells
        have HG := Lib.hid hG'
        clear hG hG' H gq
        simp only [rdOf, numV, if_pos]
        go_wp2_with fail
        go_ret
        rw [HV.out]
        exact ⟨rfl, HG.out⟩
  · have he2 : (e != 0) = true := by simp; exact he
    have HV := Lib.hid (show rdOf (countM B a) a e = (0, a, e) from by simp [rdOf, he])
    have HV2 := Lib.hid (show rdOf (uintM B a 32) a e = (0, a, e) from by simp [rdOf, he])
    have HE := Lib.hid he
    rw [HV2.out] at H
    clear hC hB hq he
    go_enter Tryz.func37, Tryz.ntmps37
    go_wp2_with fail
    refine H.out.mono ?_
    rintro E W1 ⟨rfl, hG⟩
    have hG' : GoesR W W1 p q B a e := hG
    obtain ⟨A1, k, d0, d1, d2, l0, l1, l2, gle, gq, glt, ga⟩ := hG'.1.cells
    have HG := Lib.hid hG'
    clear hG hG' H gq
    go_wp2_with fail
    refine (rBack_any _ _ _ _ _ a _ HG.out.1 ha).mono ?_
    rintro E W2 ⟨rfl, hG2⟩
    rw [if_neg HE.out] at hG2
    have HG2 := Lib.hid hG2
    clear hG2
    go_wp2_with fail
    go_ret
    rw [HV.out]
    exact ⟨rfl, HG.out.trans HG2.out⟩
set_option maxRecDepth 100000 in
set_option maxHeartbeats 1000000 in
theorem rAmong_any (W : World) (p q ql : Nat) (B : List Int) (a : Nat) (e e0 : Int) (AL : Option Addr) (cL : Nat) (L : List Int) (hC : Rdr W p q B a e) (hB : Byts B) (h0 : (e0 == 0) = false) (hqp : ql ≠ p) (hL : ByQ W ql AL L) (hLl : L.length ≤ 100) :
    Calls Tryz.prog 67 #[.pointer (some ⟨p, 0, none⟩), .slice AL L.length cL, .int .i64 e0] W fun E w' => E = .returned (.int .u8 (rdOf (amongM B a L e0) a e).1) ∧ GoesR W w' p q B (rdOf (amongM B a L e0) a e).2.1 (rdOf (amongM B a L e0) a e).2.2 := by
  obtain ⟨A, c, c0, c1, c2, f0, f1, f2, hle, hq, hlt, ha⟩ := hC.cells
  have H := Lib.hid (rByte_any W p q B a e hC hB)
  obtain ⟨b, hb⟩ : ∃ b, b = (rdByte B a e).1 := ⟨_, rfl⟩
  obtain ⟨a1, ha1⟩ : ∃ a1, a1 = (rdByte B a e).2.1 := ⟨_, rfl⟩
  obtain ⟨e1, he1⟩ : ∃ e1, e1 = (rdByte B a e).2.2 := ⟨_, rfl⟩
  rw [← hb, ← ha1, ← he1] at H
  have hcase : (e1 = 0 ∧ e = 0 ∧ (amongM B a L e0 = if b ∈ L then .ok (b.toNat, a + 1) else .error e0) ∧ a1 = a + 1 ∧ 0 ≤ b) ∨ (¬ e1 = 0 ∧ a1 = a ∧ rdOf (amongM B a L e0) a e = (0, a, e1)) := by
    unfold rdByte at hb ha1 he1
    by_cases he : e = 0
    · subst he
      unfold amongM
      cases hx : B[a]? with
      | none => rw [hx] at he1 ha1; simp at he1 ha1; exact .inr ⟨by rw [he1]; decide, ha1, by rw [he1]; rfl⟩
      | some x =>
        rw [hx] at hb ha1 he1
        simp at hb ha1 he1
        subst hb
        exact .inl ⟨he1, rfl, rfl, ha1, (hB.get hx).1⟩
    · rw [if_neg he] at hb ha1 he1
      exact .inr ⟨by rw [he1]; exact he, ha1, by rw [rdOf, if_neg he, he1]⟩
  have HC := Lib.hid hcase
  have H0 := Lib.hid h0
  clear hb ha1 he1 hC hB hcase h0 hq
  go_enter Tryz.func67, Tryz.ntmps67
  go_wp2_with fail
  refine H.out.mono ?_
  rintro E W1 ⟨rfl, hG⟩
  have HL1 := Lib.hid (hL.grown hG.2 (by simpa using hqp))
  obtain ⟨A1, k, d0, d1, d2, l0, l1, l2, gle, gq, glt, ga⟩ := hG.1.cells
  have HG := Lib.hid hG
  clear hG H gq hL c0 c1 c2 f0 f1 f2
  go_wp2_with fail
  rcases HC.out with ⟨rfl, rfl, h1, rfl, h3⟩ | ⟨h1, rfl, h2⟩
  · have HH1 := Lib.hid h1
    clear HC h1
    go_loop [9] (fun k => ∃ j : Nat, j ≤ L.length ∧ k = .int .i64 j ∧ Hid (∀ y ∈ L.take j, ¬ y = b)) (fun k => L.length - (intOf k).toNat)
    case atStart => exact ⟨0, Nat.zero_le _, rfl, by intro y hy; simp at hy⟩
    case round =>
      obtain ⟨j, hj, rfl, hno⟩ := hrel
      by_cases hlt : j < L.length
      · obtain ⟨o, x, rfl, hx, hc⟩ := HL1.out.at_ j hlt
        by_cases hxb : x = b
        · have hxb2 : (x == b) = true := by simpa using hxb
          have HM := Lib.hid (show b ∈ L from by rw [← hxb]; exact List.mem_of_getElem? hx.out)
          clear hxb
          go_wp2_with fail
          go_ret
          rw [HH1.out, if_pos HM.out]
          exact ⟨by show _ = Ending.returned (Value.int .u8 ((b.toNat : Nat) : Int)); rw [Int.toNat_of_nonneg h3]; rfl, HG.out⟩
        · have hxb2 : (x == b) = false := by simpa using hxb
          have HN := Lib.hid (take_all_succ hno.out hx.out hxb)
          clear hxb
          go_wp2_with fail
          go_round
          case rel => exact ⟨j + 1, by omega, by go_num, HN⟩
          case measure => simp [intOf]; omega
      · obtain rfl : j = L.length := by omega
        have HNO := Lib.hid (show ¬ b ∈ L from fun h => by have := hno.out b; rw [List.take_length] at this; exact this h rfl)
        go_wp2_with fail
        refine (rFail_any _ _ _ _ _ _ e0 HG.out.1).mono ?_
        rintro E W2 ⟨rfl, hG2⟩
        rw [failE, if_pos rfl] at hG2
        have HG2 := Lib.hid hG2
        clear hG2
        go_wp2_with fail
        refine (rBack_any _ _ _ _ _ a _ HG2.out.1 ha).mono ?_
        rintro E W3 ⟨rfl, hG3⟩
        have hne := H0.out
        rw [if_neg (by simpa using hne)] at hG3
        have HG3 := Lib.hid hG3
        clear hG3 hne
        go_wp2_with fail
        go_ret
        rw [HH1.out, if_neg HNO.out]
        exact ⟨rfl, (HG.out.trans HG2.out).trans HG3.out⟩
  · have HH2 := Lib.hid h2
    have HE1 := Lib.hid h1
    have he1 : (e1 == 0) = false := by simpa using h1
    clear HC h2 h1
    go_loop [9] (fun k => ∃ j : Nat, j ≤ L.length ∧ k = .int .i64 j) (fun k => L.length - (intOf k).toNat)
    case atStart => exact ⟨0, Nat.zero_le _, rfl⟩
    case round =>
      obtain ⟨j, hj, rfl⟩ := hrel
      by_cases hlt : j < L.length
      · obtain ⟨o, x, rfl, hx, hc⟩ := HL1.out.at_ j hlt
        by_cases hxb : x = b
        all_goals
          first | (have hxb2 : (x == b) = true := by simpa using hxb) | (have hxb2 : (x == b) = false := by simpa using hxb)
          clear hxb
          go_wp2_with fail
          go_round
          case rel => exact ⟨j + 1, by omega, by go_num⟩
          case measure => simp [intOf]; omega
      · obtain rfl : j = L.length := by omega
        go_wp2_with fail
        refine (rFail_any _ _ _ _ _ _ e0 HG.out.1).mono ?_
        rintro E W2 ⟨rfl, hG2⟩
        rw [failE, if_neg HE1.out] at hG2
        have HG2 := Lib.hid hG2
        clear hG2
        go_wp2_with fail
        refine (rBack_any _ _ _ _ _ a1 _ HG2.out.1 ha).mono ?_
        rintro E W3 ⟨rfl, hG3⟩
        rw [if_neg HE1.out] at hG3
        have HG3 := Lib.hid hG3
        clear hG3
        go_wp2_with fail
        go_ret
        rw [HH2.out]
        exact ⟨rfl, (HG.out.trans HG2.out).trans HG3.out⟩
end Go.Proofs.YtofaiocffifhfaaGreat
end
section
namespace Go.Proofs.YtofaiocffifhfaaGreat
open Go.RowKit Go.Shelf YtofaiocffifhfaaGreatB Go.Proofs.YtofaiocffifhfaaGreatW.PrintWords
theorem GoesR.of_alloc {W W' : World} {p q : Nat} {B : List Int} {a : Nat} {e : Int} {o : Obj} (h : GoesR (W.alloc o) W' p q B a e) : GoesR W W' p q B a e := ⟨h.1, (World.grownBy_alloc W o _).trans h.2⟩
theorem resM_of (B : List Int) (a : Nat) (e : Int) : (rdOf (resM B a) a e) = (if (rdOf (amongM B a [127, 126, 125, 124, 64] 106) a e).1 = 64 then 0 else (rdOf (amongM B a [127, 126, 125, 124, 64] 106) a e).1, (rdOf (amongM B a [127, 126, 125, 124, 64] 106) a e).2) := by
  unfold resM rdOf
  rcases amongM B a [127, 126, 125, 124, 64] 106 with e' | ⟨n, nx⟩
  · by_cases h : e = 0 <;> simp [h, numV, numA, numE]
  · by_cases h : e = 0
    · by_cases h2 : n = 64
      · simp [h, h2, numV, numA, numE]
      · have h3 : ¬ (n : Int) = 64 := by omega
        simp [h, h2, h3, numV, numA, numE]
    · simp [h]
set_option maxRecDepth 100000 in
theorem rResults_any (W : World) (p q : Nat) (B : List Int) (a : Nat) (e : Int) (hC : Rdr W p q B a e) (hB : Byts B) :
    Calls Tryz.prog 127 #[.pointer (some ⟨p, 0, none⟩)] W fun E w' => E = .returned (.int .u8 (rdOf (resM B a) a e).1) ∧ GoesR W w' p q B (rdOf (resM B a) a e).2.1 (rdOf (resM B a) a e).2.2 := by
  have hplt := hC.lt
  have H := Lib.hid (rAmong_any _ p q W.heap.size B a e 106 (some ⟨W.heap.size, 0, none⟩) 5 [127, 126, 125, 124, 64] (hC.alloc (.cells (([127, 126, 125, 124, 64] : List Int).map (Value.int .u8)).toArray 5)) hB rfl (by omega) (lit_ByQ W [127, 126, 125, 124, 64] 5) (by decide))
  have HV := Lib.hid (resM_of B a e)
  generalize rdOf (amongM B a [127, 126, 125, 124, 64] 106) a e = t at *
  obtain ⟨v, a', e'⟩ := t
  clear hC hB
  by_cases h64 : v = 64
  · subst h64
    rw [if_pos rfl] at HV
    go_enter Tryz.func127, Tryz.ntmps127
    go_wp2_with fail
    refine H.out.mono ?_
    rintro E W1 ⟨rfl, hG⟩
    have HG := Lib.hid hG
    clear hG H
    go_wp2_with fail
    go_ret
    rw [HV.out]
    exact ⟨rfl, HG.out.of_alloc⟩
  · rw [if_neg h64] at HV
    have hv2 : (v == 64) = false := by simpa using h64
    clear h64
    go_enter Tryz.func127, Tryz.ntmps127
    go_wp2_with fail
    refine H.out.mono ?_
    rintro E W1 ⟨rfl, hG⟩
    have HG := Lib.hid hG
    clear hG H
    go_wp2_with fail
    go_ret
    rw [HV.out]
    exact ⟨rfl, HG.out.of_alloc⟩
/-- 256 to the j, modulo 2^64. -/
def unitV (j : Nat) : Int := (((2 ^ (8 * j)) % 18446744073709551616 : Nat) : Int)
theorem unitV_succ (j : Nat) : IntKind.u64.wrap (256 * unitV j) = unitV (j + 1) := by
  unfold unitV
  rw [IntKind.wrap_u64, show 8 * (j + 1) = 8 * j + 8 from by omega, Nat.pow_add, show (2 : Nat) ^ 8 = 256 from rfl]
  generalize 2 ^ (8 * j) = t
  omega
theorem unitV_small (j : Nat) (h : j ≤ 7) : unitV j = ((2 ^ (8 * j) : Nat) : Int) := by
  unfold unitV
  have : 2 ^ (8 * j) ≤ 2 ^ 56 := Nat.pow_le_pow_right (by omega) (by omega)
  rw [Nat.mod_eq_of_lt (by omega)]
/-- Behind j bytes of a number. -/
def FixR (W wr : World) (p q : Nat) (B : List Int) (a n : Nat) (e : Int) (j : Nat) (v : Int) : Prop :=
  (e = 0 ∧ a + j ≤ B.length ∧ GoesR W wr p q B (a + j) 0 ∧ v = leN ((B.drop a).take j)) ∨ (∃ a' e', GoesR W wr p q B a' e' ∧ ¬ e' = 0 ∧ rdOf (fixM B a n) a e = (0, a, e'))
theorem FixR.step {W wr : World} {p q : Nat} {B : List Int} {a n : Nat} {e : Int} {j : Nat} {v : Int} (hB : Byts B) (hj : j < n) (hn : n ≤ 8) (h : FixR W wr p q B a n e j v) :
    ∃ a' e', Rdr wr p q B a' e' ∧ 0 ≤ (rdByte B a' e').1 ∧ (rdByte B a' e').1 ≤ 255 ∧ (∀ W2, GoesR wr W2 p q B (rdByte B a' e').2.1 (rdByte B a' e').2.2 → FixR W W2 p q B a n e (j + 1) (IntKind.u64.wrap (v + IntKind.u64.wrap ((rdByte B a' e').1 * unitV j)))) := by
  rcases h with ⟨rfl, h1, h2, rfl⟩ | ⟨a', e', h1, h2, h3⟩
  · refine ⟨a + j, 0, h2.1, ?_⟩
    rcases Nat.lt_or_ge (a + j) B.length with hlt | hge
    · have hx : B[a + j]? = some B[a + j] := List.getElem?_eq_getElem hlt
      have hxb := hB.get hx
      generalize B[a + j] = x at *
      have hr : rdByte B (a + j) 0 = (x, a + j + 1, 0) := by simp [rdByte, hx]
      rw [hr]
      refine ⟨hxb.1, hxb.2, fun W2 hG => .inl ⟨rfl, by omega, h2.trans hG, ?_⟩⟩
      have hs := leN_snoc ((B.drop a).take j) x
      rw [List.length_take, List.length_drop, Nat.min_eq_left (by omega)] at hs
      have ht : (B.drop a).take (j + 1) = (B.drop a).take j ++ [x] := by rw [List.take_add_one, List.getElem?_drop, hx]; rfl
      have hb2 := leN_lt ((B.drop a).take j) (fun y hy => hB.2 y (List.mem_of_mem_drop (List.mem_of_mem_take hy)))
      rw [List.length_take, List.length_drop, Nat.min_eq_left (by omega)] at hb2
      rw [ht, hs, unitV_small j (by omega)]
      have hp : 2 ^ (8 * j) ≤ 2 ^ 56 := Nat.pow_le_pow_right (by omega) (by omega)
      have hm : x.toNat * 2 ^ (8 * j) ≤ 255 * 2 ^ (8 * j) := Nat.mul_le_mul_right _ (by omega)
      have e1 : x * ((2 ^ (8 * j) : Nat) : Int) = ((x.toNat * 2 ^ (8 * j) : Nat) : Int) := by rw [Int.natCast_mul, Int.toNat_of_nonneg hxb.1]
      rw [e1, IntKind.wrap_u64, IntKind.wrap_u64]
      generalize x.toNat * 2 ^ (8 * j) = y at *
      generalize leN ((B.drop a).take j) = l at *
      generalize 2 ^ (8 * j) = t at *
      omega
    · have hr : rdByte B (a + j) 0 = (0, a + j, 100) := by simp [rdByte, List.getElem?_eq_none hge]
      rw [hr]
      refine ⟨by simp, by simp, fun W2 hG => .inr ⟨a + j, 100, h2.trans hG, by decide, ?_⟩⟩
      have : fixM B a n = .error 100 := if_neg (by omega)
      rw [this]; rfl
  · refine ⟨a', e', h1.1, ?_⟩
    have hr : rdByte B a' e' = (0, a', e') := by simp [rdByte, h2]
    rw [hr]
    exact ⟨by simp, by simp, fun W2 hG => .inr ⟨a', e', h1.trans hG, h2, h3⟩⟩
set_option maxRecDepth 100000 in
set_option maxHeartbeats 2000000 in
theorem rFixed_4 (W : World) (p q : Nat) (B : List Int) (a : Nat) (e : Int) (hC : Rdr W p q B a e) (hB : Byts B) :
    Calls Tryz.prog 130 #[.pointer (some ⟨p, 0, none⟩), .int .i64 4] W fun E w' => E = .returned (.int .u64 (rdOf (fixM B a 4) a e).1) ∧ GoesR W w' p q B (rdOf (fixM B a 4) a e).2.1 (rdOf (fixM B a 4) a e).2.2 := by
  obtain ⟨A, c, c0, c1, c2, f0, f1, f2, hle, hq, hlt, ha⟩ := hC.cells
  have hl := hB.1
  have HB := Lib.hid hB
  have H0 := Lib.hid (show FixR W W p q B a 4 e 0 0 from by
    by_cases he : e = 0
    · subst he
      exact .inl ⟨rfl, by omega, GoesR.same hC, by simp [leN]⟩
    · exact .inr ⟨a, e, GoesR.same hC, he, by simp [rdOf, he]⟩)
  clear hC hB hq
  go_enter Tryz.func130, Tryz.ntmps130
  go_wp2_with fail
  clear c0 c1 c2 f0 f1 f2
  go_loopw [6, 7, 8] (fun x u k wr => ∃ (j : Nat) (v : Int), Hid (j ≤ 4) ∧ k = .int .i64 j ∧ x = .int .u64 v ∧ u = .int .u64 (unitV j) ∧ Hid (FixR W wr p q B a 4 e j v)) (fun _ _ k _ => 4 - (intOf k).toNat)
  case atStart => exact ⟨0, 0, by simp [Hid], rfl, rfl, rfl, H0⟩
  case round =>
    obtain ⟨j, v, hjn, rfl, rfl, rfl, hF⟩ := hrel
    have hj8 : (j : Int) ≤ 4 := by have := hjn.out; omega
    by_cases hlt : j < 4
    · have hlt2 : (j : Int) < 4 := by omega
      obtain ⟨a', e', hR, hb0, hb1, hst⟩ := FixR.step HB.out hlt (by omega) hF.out
      have H := Lib.hid (rByte_any wr p q B a' e' hR HB.out)
      have HS := Lib.hid hst
      have HU := Lib.hid (unitV_succ j)
      generalize rdByte B a' e' = t at *
      obtain ⟨b, a2, e2⟩ := t
      generalize hun : unitV j = un at *
      simp only at hb0 hb1 H
      clear hR hst hun
      go_wp2_with fail
      refine H.out.mono ?_
      rintro E W2 ⟨rfl, hG⟩
      have HF := Lib.hid (HS.out W2 hG)
      clear hG H HS
      go_wp2_with fail
      go_roundw
      case rel => exact ⟨j + 1, _, by show _ ≤ _; omega, by go_num, rfl, by rw [HU.out], HF⟩
      case measure => simp [intOf]; omega
    · obtain rfl : j = 4 := by have := hjn.out; omega
      rcases hF.out with ⟨rfl, h1, h2, rfl⟩ | ⟨a', e', h1, h2, h3⟩
      · have HV := Lib.hid (show fixM B a 4 = .ok (leN ((B.drop a).take 4), a + 4) from if_pos h1)
        obtain ⟨A1, k, d0, d1, d2, l0, l1, l2, gle, gq, glt, ga⟩ := h2.1.cells
        have H2 := Lib.hid h2
        generalize leN ((B.drop a).take 4) = V at *
        generalize unitV 4 = un at *
        clear h2 gq hF
        go_wp2_with fail
        go_ret
        rw [HV.out]
        exact ⟨rfl, H2.out⟩
      · have he2 : (e' != 0) = true := by simp; exact h2
        obtain ⟨A1, k, d0, d1, d2, l0, l1, l2, gle, gq, glt, ga⟩ := h1.1.cells
        have H1 := Lib.hid h1
        have H3 := Lib.hid h3
        have HE := Lib.hid h2
        generalize unitV 4 = un at *
        clear h1 h3 h2 gq hF
        go_wp2_with fail
        refine (rBack_any _ _ _ _ _ a _ H1.out.1 ha).mono ?_
        rintro E W3 ⟨rfl, hG3⟩
        rw [if_neg HE.out] at hG3
        have HG3 := Lib.hid hG3
        clear hG3
        go_wp2_with fail
        go_ret
        rw [H3.out]
        exact ⟨rfl, H1.out.trans HG3.out⟩
set_option maxRecDepth 100000 in
set_option maxHeartbeats 2000000 in
theorem rFixed_8 (W : World) (p q : Nat) (B : List Int) (a : Nat) (e : Int) (hC : Rdr W p q B a e) (hB : Byts B) :
    Calls Tryz.prog 130 #[.pointer (some ⟨p, 0, none⟩), .int .i64 8] W fun E w' => E = .returned (.int .u64 (rdOf (fixM B a 8) a e).1) ∧ GoesR W w' p q B (rdOf (fixM B a 8) a e).2.1 (rdOf (fixM B a 8) a e).2.2 := by
  obtain ⟨A, c, c0, c1, c2, f0, f1, f2, hle, hq, hlt, ha⟩ := hC.cells
  have hl := hB.1
  have HB := Lib.hid hB
  have H0 := Lib.hid (show FixR W W p q B a 8 e 0 0 from by
    by_cases he : e = 0
    · subst he
      exact .inl ⟨rfl, by omega, GoesR.same hC, by simp [leN]⟩
    · exact .inr ⟨a, e, GoesR.same hC, he, by simp [rdOf, he]⟩)
  clear hC hB hq
  go_enter Tryz.func130, Tryz.ntmps130
  go_wp2_with fail
  clear c0 c1 c2 f0 f1 f2
  go_loopw [6, 7, 8] (fun x u k wr => ∃ (j : Nat) (v : Int), Hid (j ≤ 8) ∧ k = .int .i64 j ∧ x = .int .u64 v ∧ u = .int .u64 (unitV j) ∧ Hid (FixR W wr p q B a 8 e j v)) (fun _ _ k _ => 8 - (intOf k).toNat)
  case atStart => exact ⟨0, 0, by simp [Hid], rfl, rfl, rfl, H0⟩
  case round =>
    obtain ⟨j, v, hjn, rfl, rfl, rfl, hF⟩ := hrel
    have hj8 : (j : Int) ≤ 8 := by have := hjn.out; omega
    by_cases hlt : j < 8
    · have hlt2 : (j : Int) < 8 := by omega
      obtain ⟨a', e', hR, hb0, hb1, hst⟩ := FixR.step HB.out hlt (by omega) hF.out
      have H := Lib.hid (rByte_any wr p q B a' e' hR HB.out)
      have HS := Lib.hid hst
      have HU := Lib.hid (unitV_succ j)
      generalize rdByte B a' e' = t at *
      obtain ⟨b, a2, e2⟩ := t
      generalize hun : unitV j = un at *
      simp only at hb0 hb1 H
      clear hR hst hun
      go_wp2_with fail
      refine H.out.mono ?_
      rintro E W2 ⟨rfl, hG⟩
      have HF := Lib.hid (HS.out W2 hG)
      clear hG H HS
      go_wp2_with fail
      go_roundw
      case rel => exact ⟨j + 1, _, by show _ ≤ _; omega, by go_num, rfl, by rw [HU.out], HF⟩
      case measure => simp [intOf]; omega
    · obtain rfl : j = 8 := by have := hjn.out; omega
      rcases hF.out with ⟨rfl, h1, h2, rfl⟩ | ⟨a', e', h1, h2, h3⟩
      · have HV := Lib.hid (show fixM B a 8 = .ok (leN ((B.drop a).take 8), a + 8) from if_pos h1)
        obtain ⟨A1, k, d0, d1, d2, l0, l1, l2, gle, gq, glt, ga⟩ := h2.1.cells
        have H2 := Lib.hid h2
        generalize leN ((B.drop a).take 8) = V at *
        generalize unitV 8 = un at *
        clear h2 gq hF
        go_wp2_with fail
        go_ret
        rw [HV.out]
        exact ⟨rfl, H2.out⟩
      · have he2 : (e' != 0) = true := by simp; exact h2
        obtain ⟨A1, k, d0, d1, d2, l0, l1, l2, gle, gq, glt, ga⟩ := h1.1.cells
        have H1 := Lib.hid h1
        have H3 := Lib.hid h3
        have HE := Lib.hid h2
        generalize unitV 8 = un at *
        clear h1 h3 h2 gq hF
        go_wp2_with fail
        refine (rBack_any _ _ _ _ _ a _ H1.out.1 ha).mono ?_
        rintro E W3 ⟨rfl, hG3⟩
        rw [if_neg HE.out] at hG3
        have HG3 := Lib.hid hG3
        clear hG3
        go_wp2_with fail
        go_ret
        rw [H3.out]
        exact ⟨rfl, H1.out.trans HG3.out⟩
end Go.Proofs.YtofaiocffifhfaaGreat
end
section
namespace Go.Proofs.YtofaiocffifhfaaGreat
open Go.RowKit Go.Shelf YtofaiocffifhfaaGreatB Go.Proofs.YtofaiocffifhfaaGreatW.PrintWords
def lenG (g : Nat) : Nat := [11, 11, 6, 6, 18, 18, 14, 14, 25].getD g 0
def cumG (g : Nat) : Nat := [0, 11, 22, 28, 34, 52, 70, 84, 98, 123].getD g 0
theorem cumG_succ (g : Nat) (hg : g ≤ 8) : cumG (g + 1) = cumG g + lenG g := by
  have : g = 0 ∨ g = 1 ∨ g = 2 ∨ g = 3 ∨ g = 4 ∨ g = 5 ∨ g = 6 ∨ g = 7 ∨ g = 8 := by omega
  rcases this with rfl | rfl | rfl | rfl | rfl | rfl | rfl | rfl | rfl <;> rfl
theorem lenG_le (g : Nat) (hg : g ≤ 8) : lenG g ≤ 25 := by
  have : g = 0 ∨ g = 1 ∨ g = 2 ∨ g = 3 ∨ g = 4 ∨ g = 5 ∨ g = 6 ∨ g = 7 ∨ g = 8 := by omega
  rcases this with rfl | rfl | rfl | rfl | rfl | rfl | rfl | rfl | rfl <;> decide
def numOp (op : Int) : Bool := decide (69 ≤ op ∧ op ≤ 191 ∨ 64512 ≤ op ∧ op ≤ 64519)
def lCodes : List Int := [0, 1, 2, 3, 4, 5, 11, 12, 13, 14, 15, 16, 17, 26, 27, 32, 33, 34, 35, 36, 63, 64, 65, 66, 67, 68]
def lImms : List Int := [0, 0, 1, 1, 1, 12, 12, 2, 2, 3, 0, 4, 5, 0, 0, 4, 4, 4, 4, 4, 7, 7, 8, 9, 10, 11]
def IntRow (W : World) (A : Option Addr) (L : List Int) : Prop := ∃ g, A = some ⟨g, 0, none⟩ ∧ ∀ j x, L[j]? = some x → W.cell? ⟨g, j, none⟩ = some (.int .i64 x)
set_option maxRecDepth 100000 in
theorem codes_any (W : World) : Calls Tryz.prog 135 #[] W fun E w' => (∃ A, E = .returned (.slice A 26 26) ∧ IntRow w' A lCodes) ∧ Below W.heap.size W w' := by
  go_enter Tryz.func135, Tryz.ntmps135
  go_wp2_with fail
  go_ret
  exact ⟨⟨_, rfl, W.heap.size, rfl, fun j x hx => ((Blk.new W (lCodes.map (Value.int .i64)).toArray 3).cell j).trans (by simp [hx])⟩, (Below.refl _ _).alloc (Nat.le_refl _) _⟩
set_option maxRecDepth 100000 in
theorem imms_any (W : World) : Calls Tryz.prog 136 #[] W fun E w' => (∃ A, E = .returned (.slice A 26 26) ∧ IntRow w' A lImms) ∧ Below W.heap.size W w' := by
  go_enter Tryz.func136, Tryz.ntmps136
  go_wp2_with fail
  go_ret
  exact ⟨⟨_, rfl, W.heap.size, rfl, fun j x hx => ((Blk.new W (lImms.map (Value.int .i64)).toArray 3).cell j).trans (by simp [hx])⟩, (Below.refl _ _).alloc (Nat.le_refl _) _⟩
def rImmV (op : Int) : Int := if (immM op).2 then (immM op).1 else -1
theorem rImm_code : ∀ j : Nat, j < 26 → rImmV (lCodes.getD j 0) = lImms.getD j 0 := by decide
theorem rImm_no (op : Int) (h : ∀ y ∈ lCodes, ¬ y = op) (h2 : ¬ (40 ≤ op ∧ op ≤ 62)) : rImmV op = if numOp op then 0 else -1 := by
  have h' : ∀ x ∈ lCodes, ¬ op = x := fun x hx e => h x hx e.symm
  simp only [lCodes, List.mem_cons, List.mem_nil_iff, or_false, forall_eq_or_imp, forall_eq] at h'
  unfold rImmV immM numOp
  simp [h', h2]
end Go.Proofs.YtofaiocffifhfaaGreat
end
section
namespace Go.Proofs.YtofaiocffifhfaaGreatB
open Go.RowKit
def okStr : Value → Bool | .string s => !s.toList.isEmpty && decide (s.size ≤ 100) | _ => false
/-- A row of words, none of them empty. -/
def StrRow (W : World) (A : Option Addr) (n : Nat) (t : TypeId) : Prop := ∃ g cs, A = some ⟨g, 0, none⟩ ∧ Blk W g cs t ∧ cs.size = n ∧ cs.all okStr = true
theorem StrRow.at_ {W : World} {A : Option Addr} {n : Nat} {t : TypeId} (h : StrRow W A n t) (i : Nat) (hi : i < n) : ∃ g s, A = some ⟨g, 0, none⟩ ∧ W.cell? ⟨g, i, none⟩ = some (.string s) ∧ s.toList.isEmpty = false ∧ s.size ≤ 100 := by
  obtain ⟨g, cs, rfl, hb, hs, ha⟩ := h
  have hx : cs[i]? = some cs[i] := Array.getElem?_eq_getElem (by omega)
  have hk : okStr cs[i] = true := by
    rw [Array.all_eq_true] at ha
    exact ha i (by omega)
  generalize cs[i] = v at *
  cases v <;> simp [okStr] at hk
  exact ⟨g, _, rfl, by rw [hb.cell]; exact hx, by simpa using hk.1, hk.2⟩
theorem StrRow.below {W W' : World} {A : Option Addr} {n : Nat} {t : TypeId} (h : StrRow W A n t) (hb : Below W.heap.size W W') : StrRow W' A n t := by
  obtain ⟨g, cs, e, h1, h2, h3⟩ := h
  exact ⟨g, cs, e, h1.below hb h1.lt, h2, h3⟩
end Go.Proofs.YtofaiocffifhfaaGreatB
namespace Go.Proofs.YtofaiocffifhfaaGreat
open Go.RowKit Go.Shelf YtofaiocffifhfaaGreatB Go.Proofs.YtofaiocffifhfaaGreatW.PrintWords
set_option maxRecDepth 100000 in
theorem relations_any (W : World) : Calls Tryz.prog 152 #[] W fun E w' => (∃ A, E = .returned (.slice A 11 11) ∧ StrRow w' A 11 9) ∧ Below W.heap.size W w' := by
  go_enter Tryz.func152, Tryz.ntmps152
  go_wp2_with fail
  go_ret
  exact ⟨⟨_, rfl, _, _, rfl, Blk.new _ _ _, rfl, by decide +kernel⟩, (Below.refl _ _).alloc (Nat.le_refl _) _⟩
set_option maxRecDepth 100000 in
theorem floats_any (W : World) : Calls Tryz.prog 153 #[] W fun E w' => (∃ A, E = .returned (.slice A 6 6) ∧ StrRow w' A 6 9) ∧ Below W.heap.size W w' := by
  go_enter Tryz.func153, Tryz.ntmps153
  go_wp2_with fail
  go_ret
  exact ⟨⟨_, rfl, _, _, rfl, Blk.new _ _ _, rfl, by decide +kernel⟩, (Below.refl _ _).alloc (Nat.le_refl _) _⟩
set_option maxRecDepth 100000 in
theorem wholes_any (W : World) : Calls Tryz.prog 154 #[] W fun E w' => (∃ A, E = .returned (.slice A 18 18) ∧ StrRow w' A 18 9) ∧ Below W.heap.size W w' := by
  go_enter Tryz.func154, Tryz.ntmps154
  go_wp2_with fail
  go_ret
  exact ⟨⟨_, rfl, _, _, rfl, Blk.new _ _ _, rfl, by decide +kernel⟩, (Below.refl _ _).alloc (Nat.le_refl _) _⟩
set_option maxRecDepth 100000 in
theorem doubles_any (W : World) : Calls Tryz.prog 155 #[] W fun E w' => (∃ A, E = .returned (.slice A 14 14) ∧ StrRow w' A 14 9) ∧ Below W.heap.size W w' := by
  go_enter Tryz.func155, Tryz.ntmps155
  go_wp2_with fail
  go_ret
  exact ⟨⟨_, rfl, _, _, rfl, Blk.new _ _ _, rfl, by decide +kernel⟩, (Below.refl _ _).alloc (Nat.le_refl _) _⟩
set_option maxRecDepth 100000 in
theorem turns_any (W : World) : Calls Tryz.prog 156 #[] W fun E w' => (∃ A, E = .returned (.slice A 25 25) ∧ StrRow w' A 25 9) ∧ Below W.heap.size W w' := by
  go_enter Tryz.func156, Tryz.ntmps156
  go_wp2_with fail
  go_ret
  exact ⟨⟨_, rfl, _, _, rfl, Blk.new _ _ _, rfl, by decide +kernel⟩, (Below.refl _ _).alloc (Nat.le_refl _) _⟩
set_option maxRecDepth 100000 in
theorem sats_any (W : World) : Calls Tryz.prog 142 #[] W fun E w' => (∃ A, E = .returned (.slice A 8 8) ∧ StrRow w' A 8 9) ∧ Below W.heap.size W w' := by
  go_enter Tryz.func142, Tryz.ntmps142
  go_wp2_with fail
  go_ret
  exact ⟨⟨_, rfl, _, _, rfl, Blk.new _ _ _, rfl, by decide +kernel⟩, (Below.refl _ _).alloc (Nat.le_refl _) _⟩
/-- What stands ahead of each group's words. -/
def gFirst : Array Value := #[.string ⟨#[105, 51, 50, 46]⟩, .string ⟨#[105, 54, 52, 46]⟩, .string ⟨#[102, 51, 50, 46]⟩, .string ⟨#[102, 54, 52, 46]⟩, .string ⟨#[105, 51, 50, 46]⟩, .string ⟨#[105, 54, 52, 46]⟩, .string ⟨#[102, 51, 50, 46]⟩, .string ⟨#[102, 54, 52, 46]⟩, .string ⟨#[]⟩]
def GroupPost (W : World) (n : Nat) (E : Ending) (w' : World) : Prop := (∃ f A, E = .returned (.tuple #[.string f, .slice A n n]) ∧ f.size ≤ 100 ∧ StrRow w' A n 9) ∧ Below W.heap.size W w'
set_option maxRecDepth 100000 in
set_option maxHeartbeats 1000000 in
theorem group_0 (W : World) : Calls Tryz.prog 143 #[.int .i64 0] W (GroupPost W 11) := by
  go_enter Tryz.func143, Tryz.ntmps143
  go_wp2_with fail
  have hsz := World.size_alloc W (.cells gFirst 9)
  have hB0 := (Below.refl W.heap.size W).alloc (Nat.le_refl _) (.cells gFirst 9)
  have c0 : (W.alloc (.cells gFirst 9)).cell? ⟨W.heap.size, 0, none⟩ = gFirst[0]? := by rw [(Blk.new W gFirst 9).cell]
  obtain ⟨f, hf, hfs⟩ : ∃ f, gFirst[0]? = some (.string f) ∧ f.size ≤ 100 := ⟨_, rfl, by decide⟩
  rw [hf] at c0
  change Code.wp _ _ _ _ (W.alloc (.cells gFirst 9))
  generalize W.alloc (.cells gFirst 9) = W0 at *
  have hB0' := Lib.hid hB0
  have hz := Lib.hid hsz
  clear hf hB0 hsz
  go_region_held3 (fun w' => w'.cell? ⟨W.heap.size, 0, none⟩ = some (.string f) ∧ Below W0.heap.size W0 w')
    (first | exact ⟨c0, (Below.refl _ _).drew⟩ | exact ⟨pw_cell_below (w := W0.drew) hB3 c0, ((Below.refl _ _).drew).trans hB3⟩)
    (first | (go_at_call 152; refine (relations_any _).mono ?_; rintro E w3 ⟨⟨A, rfl, hS3⟩, hB3⟩))
  all_goals
    rename_i hS
    obtain ⟨d0, hB4⟩ := hS
    have HS3 := Lib.hid hS3
    have HB := Lib.hid (hB0'.out.trans (hB4.mono (by have := hz.out; omega)))
    clear hS3 hB3 hB4
    go_wp2_with fail
    go_ret2
    exact ⟨⟨f, A, rfl, hfs, HS3.out⟩, HB.out⟩
set_option maxRecDepth 100000 in
set_option maxHeartbeats 1000000 in
theorem group_1 (W : World) : Calls Tryz.prog 143 #[.int .i64 1] W (GroupPost W 11) := by
  go_enter Tryz.func143, Tryz.ntmps143
  go_wp2_with fail
  have hsz := World.size_alloc W (.cells gFirst 9)
  have hB0 := (Below.refl W.heap.size W).alloc (Nat.le_refl _) (.cells gFirst 9)
  have c0 : (W.alloc (.cells gFirst 9)).cell? ⟨W.heap.size, 1, none⟩ = gFirst[1]? := by rw [(Blk.new W gFirst 9).cell]
  obtain ⟨f, hf, hfs⟩ : ∃ f, gFirst[1]? = some (.string f) ∧ f.size ≤ 100 := ⟨_, rfl, by decide⟩
  rw [hf] at c0
  change Code.wp _ _ _ _ (W.alloc (.cells gFirst 9))
  generalize W.alloc (.cells gFirst 9) = W0 at *
  have hB0' := Lib.hid hB0
  have hz := Lib.hid hsz
  clear hf hB0 hsz
  go_region_held3 (fun w' => w'.cell? ⟨W.heap.size, 1, none⟩ = some (.string f) ∧ Below W0.heap.size W0 w')
    (first | exact ⟨c0, (Below.refl _ _).drew⟩ | exact ⟨pw_cell_below (w := W0.drew) hB3 c0, ((Below.refl _ _).drew).trans hB3⟩)
    (first | (go_at_call 152; refine (relations_any _).mono ?_; rintro E w3 ⟨⟨A, rfl, hS3⟩, hB3⟩))
  all_goals
    rename_i hS
    obtain ⟨d0, hB4⟩ := hS
    have HS3 := Lib.hid hS3
    have HB := Lib.hid (hB0'.out.trans (hB4.mono (by have := hz.out; omega)))
    clear hS3 hB3 hB4
    go_wp2_with fail
    go_ret2
    exact ⟨⟨f, A, rfl, hfs, HS3.out⟩, HB.out⟩
set_option maxRecDepth 100000 in
set_option maxHeartbeats 1000000 in
theorem group_2 (W : World) : Calls Tryz.prog 143 #[.int .i64 2] W (GroupPost W 6) := by
  go_enter Tryz.func143, Tryz.ntmps143
  go_wp2_with fail
  have hsz := World.size_alloc W (.cells gFirst 9)
  have hB0 := (Below.refl W.heap.size W).alloc (Nat.le_refl _) (.cells gFirst 9)
  have c0 : (W.alloc (.cells gFirst 9)).cell? ⟨W.heap.size, 2, none⟩ = gFirst[2]? := by rw [(Blk.new W gFirst 9).cell]
  obtain ⟨f, hf, hfs⟩ : ∃ f, gFirst[2]? = some (.string f) ∧ f.size ≤ 100 := ⟨_, rfl, by decide⟩
  rw [hf] at c0
  change Code.wp _ _ _ _ (W.alloc (.cells gFirst 9))
  generalize W.alloc (.cells gFirst 9) = W0 at *
  have hB0' := Lib.hid hB0
  have hz := Lib.hid hsz
  clear hf hB0 hsz
  go_region_held3 (fun w' => w'.cell? ⟨W.heap.size, 2, none⟩ = some (.string f) ∧ Below W0.heap.size W0 w')
    (first | exact ⟨c0, (Below.refl _ _).drew⟩ | exact ⟨pw_cell_below (w := W0.drew) hB3 c0, ((Below.refl _ _).drew).trans hB3⟩)
    (first | (go_at_call 153; refine (floats_any _).mono ?_; rintro E w3 ⟨⟨A, rfl, hS3⟩, hB3⟩))
  all_goals
    rename_i hS
    obtain ⟨d0, hB4⟩ := hS
    have HS3 := Lib.hid hS3
    have HB := Lib.hid (hB0'.out.trans (hB4.mono (by have := hz.out; omega)))
    clear hS3 hB3 hB4
    go_wp2_with fail
    go_ret2
    exact ⟨⟨f, A, rfl, hfs, HS3.out⟩, HB.out⟩
set_option maxRecDepth 100000 in
set_option maxHeartbeats 1000000 in
theorem group_3 (W : World) : Calls Tryz.prog 143 #[.int .i64 3] W (GroupPost W 6) := by
  go_enter Tryz.func143, Tryz.ntmps143
  go_wp2_with fail
  have hsz := World.size_alloc W (.cells gFirst 9)
  have hB0 := (Below.refl W.heap.size W).alloc (Nat.le_refl _) (.cells gFirst 9)
  have c0 : (W.alloc (.cells gFirst 9)).cell? ⟨W.heap.size, 3, none⟩ = gFirst[3]? := by rw [(Blk.new W gFirst 9).cell]
  obtain ⟨f, hf, hfs⟩ : ∃ f, gFirst[3]? = some (.string f) ∧ f.size ≤ 100 := ⟨_, rfl, by decide⟩
  rw [hf] at c0
  change Code.wp _ _ _ _ (W.alloc (.cells gFirst 9))
  generalize W.alloc (.cells gFirst 9) = W0 at *
  have hB0' := Lib.hid hB0
  have hz := Lib.hid hsz
  clear hf hB0 hsz
  go_region_held3 (fun w' => w'.cell? ⟨W.heap.size, 3, none⟩ = some (.string f) ∧ Below W0.heap.size W0 w')
    (first | exact ⟨c0, (Below.refl _ _).drew⟩ | exact ⟨pw_cell_below (w := W0.drew) hB3 c0, ((Below.refl _ _).drew).trans hB3⟩)
    (first | (go_at_call 153; refine (floats_any _).mono ?_; rintro E w3 ⟨⟨A, rfl, hS3⟩, hB3⟩))
  all_goals
    rename_i hS
    obtain ⟨d0, hB4⟩ := hS
    have HS3 := Lib.hid hS3
    have HB := Lib.hid (hB0'.out.trans (hB4.mono (by have := hz.out; omega)))
    clear hS3 hB3 hB4
    go_wp2_with fail
    go_ret2
    exact ⟨⟨f, A, rfl, hfs, HS3.out⟩, HB.out⟩
set_option maxRecDepth 100000 in
set_option maxHeartbeats 1000000 in
theorem group_4 (W : World) : Calls Tryz.prog 143 #[.int .i64 4] W (GroupPost W 18) := by
  go_enter Tryz.func143, Tryz.ntmps143
  go_wp2_with fail
  have hsz := World.size_alloc W (.cells gFirst 9)
  have hB0 := (Below.refl W.heap.size W).alloc (Nat.le_refl _) (.cells gFirst 9)
  have c0 : (W.alloc (.cells gFirst 9)).cell? ⟨W.heap.size, 4, none⟩ = gFirst[4]? := by rw [(Blk.new W gFirst 9).cell]
  obtain ⟨f, hf, hfs⟩ : ∃ f, gFirst[4]? = some (.string f) ∧ f.size ≤ 100 := ⟨_, rfl, by decide⟩
  rw [hf] at c0
  change Code.wp _ _ _ _ (W.alloc (.cells gFirst 9))
  generalize W.alloc (.cells gFirst 9) = W0 at *
  have hB0' := Lib.hid hB0
  have hz := Lib.hid hsz
  clear hf hB0 hsz
  go_region_held3 (fun w' => w'.cell? ⟨W.heap.size, 4, none⟩ = some (.string f) ∧ Below W0.heap.size W0 w')
    (first | exact ⟨c0, (Below.refl _ _).drew⟩ | exact ⟨pw_cell_below (w := W0.drew) hB3 c0, ((Below.refl _ _).drew).trans hB3⟩)
    (first | (go_at_call 154; refine (wholes_any _).mono ?_; rintro E w3 ⟨⟨A, rfl, hS3⟩, hB3⟩))
  all_goals
    rename_i hS
    obtain ⟨d0, hB4⟩ := hS
    have HS3 := Lib.hid hS3
    have HB := Lib.hid (hB0'.out.trans (hB4.mono (by have := hz.out; omega)))
    clear hS3 hB3 hB4
    go_wp2_with fail
    go_ret2
    exact ⟨⟨f, A, rfl, hfs, HS3.out⟩, HB.out⟩
set_option maxRecDepth 100000 in
set_option maxHeartbeats 1000000 in
theorem group_5 (W : World) : Calls Tryz.prog 143 #[.int .i64 5] W (GroupPost W 18) := by
  go_enter Tryz.func143, Tryz.ntmps143
  go_wp2_with fail
  have hsz := World.size_alloc W (.cells gFirst 9)
  have hB0 := (Below.refl W.heap.size W).alloc (Nat.le_refl _) (.cells gFirst 9)
  have c0 : (W.alloc (.cells gFirst 9)).cell? ⟨W.heap.size, 5, none⟩ = gFirst[5]? := by rw [(Blk.new W gFirst 9).cell]
  obtain ⟨f, hf, hfs⟩ : ∃ f, gFirst[5]? = some (.string f) ∧ f.size ≤ 100 := ⟨_, rfl, by decide⟩
  rw [hf] at c0
  change Code.wp _ _ _ _ (W.alloc (.cells gFirst 9))
  generalize W.alloc (.cells gFirst 9) = W0 at *
  have hB0' := Lib.hid hB0
  have hz := Lib.hid hsz
  clear hf hB0 hsz
  go_region_held3 (fun w' => w'.cell? ⟨W.heap.size, 5, none⟩ = some (.string f) ∧ Below W0.heap.size W0 w')
    (first | exact ⟨c0, (Below.refl _ _).drew⟩ | exact ⟨pw_cell_below (w := W0.drew) hB3 c0, ((Below.refl _ _).drew).trans hB3⟩)
    (first | (go_at_call 154; refine (wholes_any _).mono ?_; rintro E w3 ⟨⟨A, rfl, hS3⟩, hB3⟩))
  all_goals
    rename_i hS
    obtain ⟨d0, hB4⟩ := hS
    have HS3 := Lib.hid hS3
    have HB := Lib.hid (hB0'.out.trans (hB4.mono (by have := hz.out; omega)))
    clear hS3 hB3 hB4
    go_wp2_with fail
    go_ret2
    exact ⟨⟨f, A, rfl, hfs, HS3.out⟩, HB.out⟩
set_option maxRecDepth 100000 in
set_option maxHeartbeats 1000000 in
theorem group_6 (W : World) : Calls Tryz.prog 143 #[.int .i64 6] W (GroupPost W 14) := by
  go_enter Tryz.func143, Tryz.ntmps143
  go_wp2_with fail
  have hsz := World.size_alloc W (.cells gFirst 9)
  have hB0 := (Below.refl W.heap.size W).alloc (Nat.le_refl _) (.cells gFirst 9)
  have c0 : (W.alloc (.cells gFirst 9)).cell? ⟨W.heap.size, 6, none⟩ = gFirst[6]? := by rw [(Blk.new W gFirst 9).cell]
  obtain ⟨f, hf, hfs⟩ : ∃ f, gFirst[6]? = some (.string f) ∧ f.size ≤ 100 := ⟨_, rfl, by decide⟩
  rw [hf] at c0
  change Code.wp _ _ _ _ (W.alloc (.cells gFirst 9))
  generalize W.alloc (.cells gFirst 9) = W0 at *
  have hB0' := Lib.hid hB0
  have hz := Lib.hid hsz
  clear hf hB0 hsz
  go_region_held3 (fun w' => w'.cell? ⟨W.heap.size, 6, none⟩ = some (.string f) ∧ Below W0.heap.size W0 w')
    (first | exact ⟨c0, (Below.refl _ _).drew⟩ | exact ⟨pw_cell_below (w := W0.drew) hB3 c0, ((Below.refl _ _).drew).trans hB3⟩)
    (first | (go_at_call 155; refine (doubles_any _).mono ?_; rintro E w3 ⟨⟨A, rfl, hS3⟩, hB3⟩))
  all_goals
    rename_i hS
    obtain ⟨d0, hB4⟩ := hS
    have HS3 := Lib.hid hS3
    have HB := Lib.hid (hB0'.out.trans (hB4.mono (by have := hz.out; omega)))
    clear hS3 hB3 hB4
    go_wp2_with fail
    go_ret2
    exact ⟨⟨f, A, rfl, hfs, HS3.out⟩, HB.out⟩
set_option maxRecDepth 100000 in
set_option maxHeartbeats 1000000 in
theorem group_7 (W : World) : Calls Tryz.prog 143 #[.int .i64 7] W (GroupPost W 14) := by
  go_enter Tryz.func143, Tryz.ntmps143
  go_wp2_with fail
  have hsz := World.size_alloc W (.cells gFirst 9)
  have hB0 := (Below.refl W.heap.size W).alloc (Nat.le_refl _) (.cells gFirst 9)
  have c0 : (W.alloc (.cells gFirst 9)).cell? ⟨W.heap.size, 7, none⟩ = gFirst[7]? := by rw [(Blk.new W gFirst 9).cell]
  obtain ⟨f, hf, hfs⟩ : ∃ f, gFirst[7]? = some (.string f) ∧ f.size ≤ 100 := ⟨_, rfl, by decide⟩
  rw [hf] at c0
  change Code.wp _ _ _ _ (W.alloc (.cells gFirst 9))
  generalize W.alloc (.cells gFirst 9) = W0 at *
  have hB0' := Lib.hid hB0
  have hz := Lib.hid hsz
  clear hf hB0 hsz
  go_region_held3 (fun w' => w'.cell? ⟨W.heap.size, 7, none⟩ = some (.string f) ∧ Below W0.heap.size W0 w')
    (first | exact ⟨c0, (Below.refl _ _).drew⟩ | exact ⟨pw_cell_below (w := W0.drew) hB3 c0, ((Below.refl _ _).drew).trans hB3⟩)
    (first | (go_at_call 155; refine (doubles_any _).mono ?_; rintro E w3 ⟨⟨A, rfl, hS3⟩, hB3⟩))
  all_goals
    rename_i hS
    obtain ⟨d0, hB4⟩ := hS
    have HS3 := Lib.hid hS3
    have HB := Lib.hid (hB0'.out.trans (hB4.mono (by have := hz.out; omega)))
    clear hS3 hB3 hB4
    go_wp2_with fail
    go_ret2
    exact ⟨⟨f, A, rfl, hfs, HS3.out⟩, HB.out⟩
set_option maxRecDepth 100000 in
set_option maxHeartbeats 1000000 in
theorem group_8 (W : World) : Calls Tryz.prog 143 #[.int .i64 8] W (GroupPost W 25) := by
  go_enter Tryz.func143, Tryz.ntmps143
  go_wp2_with fail
  have hsz := World.size_alloc W (.cells gFirst 9)
  have hB0 := (Below.refl W.heap.size W).alloc (Nat.le_refl _) (.cells gFirst 9)
  have c0 : (W.alloc (.cells gFirst 9)).cell? ⟨W.heap.size, 8, none⟩ = gFirst[8]? := by rw [(Blk.new W gFirst 9).cell]
  obtain ⟨f, hf, hfs⟩ : ∃ f, gFirst[8]? = some (.string f) ∧ f.size ≤ 100 := ⟨_, rfl, by decide⟩
  rw [hf] at c0
  change Code.wp _ _ _ _ (W.alloc (.cells gFirst 9))
  generalize W.alloc (.cells gFirst 9) = W0 at *
  have hB0' := Lib.hid hB0
  have hz := Lib.hid hsz
  clear hf hB0 hsz
  go_region_held3 (fun w' => w'.cell? ⟨W.heap.size, 8, none⟩ = some (.string f) ∧ Below W0.heap.size W0 w')
    (first | exact ⟨c0, (Below.refl _ _).drew⟩ | exact ⟨pw_cell_below (w := W0.drew) hB3 c0, ((Below.refl _ _).drew).trans hB3⟩)
    (first | (go_at_call 156; refine (turns_any _).mono ?_; rintro E w3 ⟨⟨A, rfl, hS3⟩, hB3⟩))
  all_goals
    rename_i hS
    obtain ⟨d0, hB4⟩ := hS
    have HS3 := Lib.hid hS3
    have HB := Lib.hid (hB0'.out.trans (hB4.mono (by have := hz.out; omega)))
    clear hS3 hB3 hB4
    go_wp2_with fail
    go_ret2
    exact ⟨⟨f, A, rfl, hfs, HS3.out⟩, HB.out⟩
end Go.Proofs.YtofaiocffifhfaaGreat
end
section
namespace Go.Proofs.YtofaiocffifhfaaGreat
open Go.RowKit Go.Shelf YtofaiocffifhfaaGreatB Go.Proofs.YtofaiocffifhfaaGreatW.PrintWords
theorem group_any (W : World) (g : Nat) (hg : g ≤ 8) : Calls Tryz.prog 143 #[.int .i64 g] W (GroupPost W (lenG g)) := by
  have : g = 0 ∨ g = 1 ∨ g = 2 ∨ g = 3 ∨ g = 4 ∨ g = 5 ∨ g = 6 ∨ g = 7 ∨ g = 8 := by omega
  rcases this with rfl | rfl | rfl | rfl | rfl | rfl | rfl | rfl | rfl
  · exact group_0 W
  · exact group_1 W
  · exact group_2 W
  · exact group_3 W
  · exact group_4 W
  · exact group_5 W
  · exact group_6 W
  · exact group_7 W
  · exact group_8 W
theorem app_ne (f s : ByteArray) (h : s.toList.isEmpty = false) : (f ++ s).toList.isEmpty = !true := by
  rw [ByteArray.toList_eq] at h ⊢
  rw [ByteArray.data_append, Array.toList_append]
  cases hs : s.data.toList with
  | nil => rw [hs] at h; cases h
  | cons a r => simp
def RNamePost (W : World) (b : Bool) (E : Ending) (w' : World) : Prop := (∃ s, E = .returned (.string s) ∧ s.toList.isEmpty = !b) ∧ Below W.heap.size W w'
set_option maxRecDepth 100000 in
theorem rName_sat (W : World) (op : Int) (h0 : 64512 ≤ op) (h1 : op ≤ 64519) : Calls Tryz.prog 137 #[.int .i64 op] W (RNamePost W true) := by
  have hw0 : 0 ≤ op - 64512 := by omega
  have hw1 : op - 64512 < 8 := by omega
  go_enter Tryz.func137, Tryz.ntmps137
  go_wp2_with fail
  refine (sats_any _).mono ?_
  rintro E W1 ⟨⟨A, rfl, hS⟩, hB⟩
  obtain ⟨g, s, rfl, hc, hs, hss⟩ := hS.at_ (op - 64512).toNat (by omega)
  have HB := Lib.hid hB
  have HS := Lib.hid hs
  clear hS hB hs
  go_wp2_with fail
  go_ret
  exact ⟨⟨s, rfl, HS.out⟩, HB.out⟩
set_option maxRecDepth 100000 in
theorem rName_none (W : World) (op : Int) (h0 : 0 ≤ op) (h1 : op ≤ 5000000000) (h2 : op < 69 ∨ 191 < op) (h3 : op < 64512 ∨ 64519 < op) : Calls Tryz.prog 137 #[.int .i64 op] W (RNamePost W false) := by
  rcases h2 with h2 | h2
  all_goals
    rcases h3 with h3 | h3
    all_goals
      first
        | (exfalso; omega)
        | (go_enter Tryz.func137, Tryz.ntmps137
           go_wp2_with fail
           go_ret
           exact ⟨⟨_, rfl, by rw [ByteArray.toList_eq]; rfl⟩, Below.refl _ _⟩)
set_option maxRecDepth 100000 in
set_option maxHeartbeats 1000000 in
theorem rName_num (W : World) (op : Int) (h0 : 69 ≤ op) (h1 : op ≤ 191) : Calls Tryz.prog 137 #[.int .i64 op] W (RNamePost W true) := by
  go_enter Tryz.func137, Tryz.ntmps137
  go_wp2_with fail
  go_loopw [3, 4] (fun i g wr => ∃ j : Nat, j ≤ 9 ∧ g = .int .i64 j ∧ i = .int .i64 (op - 69 - cumG j) ∧ Hid ((cumG j : Int) ≤ op - 69) ∧ Below W.heap.size W wr) (fun _ g _ => 9 - (intOf g).toNat)
  case atStart => exact ⟨0, by omega, rfl, by simp [cumG], by show _ ≤ _; simp [cumG]; omega, Below.refl _ _⟩
  case round =>
    obtain ⟨j, hj, rfl, rfl, hcu, hB⟩ := hrel
    by_cases hlt : j < 9
    · have HG := Lib.hid (group_any wr j (by omega))
      have HS := Lib.hid (cumG_succ j (by omega))
      have hle := lenG_le j (by omega)
      obtain ⟨k, hk⟩ : ∃ k : Nat, op - 69 - cumG j = (k : Int) := ⟨(op - 69 - cumG j).toNat, by have := hcu.out; omega⟩
      have HK := Lib.hid hk
      rw [hk]
      have hk2 : (k : Int) ≤ 122 := by omega
      generalize lenG j = n at *
      generalize cumG j = cu at *
      clear hk hcu
      have HB := Lib.hid hB
      clear hB
      by_cases hkn : k < n
      · have hkn2 : (k : Int) < (n : Int) := by omega
        go_wp2_with fail
        refine HG.out.mono ?_
        rintro E W1 ⟨⟨f, A, rfl, hfs, hS⟩, hB1⟩
        obtain ⟨gg, s, rfl, hc, hs, hss⟩ := hS.at_ k hkn
        have HB2 := Lib.hid (HB.out.trans (hB1.mono HB.out.size))
        have HS2 := Lib.hid hs
        clear hS hB1 hs HG
        go_wp2_with fail
        go_ret
        exact ⟨⟨f ++ s, rfl, app_ne f s HS2.out⟩, HB2.out⟩
      · have hkn2 : (n : Int) ≤ (k : Int) := by omega
        go_wp2_with fail
        refine HG.out.mono ?_
        rintro E W1 ⟨⟨f, A, rfl, hfs, hS⟩, hB1⟩
        have HB2 := Lib.hid (HB.out.trans (hB1.mono HB.out.size))
        clear hS hB1 HG
        go_wp2_with fail
        go_roundw
        case rel => exact ⟨j + 1, by omega, by go_num, by rw [HS.out]; congr 1; have := HK.out; omega, by show _ ≤ _; rw [HS.out]; have := HK.out; omega, HB2.out⟩
        case measure => simp [intOf]; omega
    · exfalso
      obtain rfl : j = 9 := by omega
      have h9 : (cumG 9 : Int) = 123 := rfl
      have := hcu.out
      omega
theorem rName_any (W : World) (op : Int) (h0 : 0 ≤ op) (h1 : op ≤ 5000000000) : Calls Tryz.prog 137 #[.int .i64 op] W (RNamePost W (numOp op)) := by
  by_cases c1 : 69 ≤ op ∧ op ≤ 191
  · rw [show numOp op = true from decide_eq_true (.inl c1)]; exact rName_num W op c1.1 c1.2
  by_cases c2 : 64512 ≤ op ∧ op ≤ 64519
  · rw [show numOp op = true from decide_eq_true (.inr c2)]; exact rName_sat W op c2.1 c2.2
  rw [show numOp op = false from decide_eq_false (by omega)]; exact rName_none W op h0 h1 (by omega) (by omega)
set_option maxRecDepth 100000 in
set_option maxHeartbeats 1000000 in
theorem rImm_any (W : World) (op : Int) (h0 : 0 ≤ op) (h1 : op ≤ 5000000000) : Calls Tryz.prog 126 #[.int .i64 op] W fun E w' => E = .returned (.int .i64 (rImmV op)) ∧ Below W.heap.size W w' := by
  go_enter Tryz.func126, Tryz.ntmps126
  go_wp2_with fail
  refine (codes_any _).mono ?_
  rintro E W1 ⟨⟨A, rfl, hL⟩, hB1⟩
  have HL := Lib.hid hL
  have HB1 := Lib.hid hB1
  clear hL hB1
  go_wp2_with fail
  go_loop [4] (fun k => ∃ j : Nat, j ≤ 26 ∧ k = .int .i64 j ∧ Hid (∀ y ∈ lCodes.take j, ¬ y = op)) (fun k => 26 - (intOf k).toNat)
  case atStart => exact ⟨0, by omega, rfl, by intro y hy; simp at hy⟩
  case round =>
    obtain ⟨j, hj, rfl, hno⟩ := hrel
    by_cases hlt : j < 26
    · have hlt2 : (j : Int) < 26 := by omega
      have hx : lCodes[j]? = some (lCodes.getD j 0) := by rw [List.getD_eq_getElem?_getD, List.getElem?_eq_getElem (show j < lCodes.length from hlt)]; rfl
      have HI := Lib.hid (rImm_code j hlt)
      obtain ⟨g, rfl, hc⟩ := HL.out
      have c0 := hc j _ hx
      have HX := Lib.hid hx
      generalize lCodes.getD j 0 = x at *
      clear hc hx
      by_cases hxo : x = op
      · have hxb : (x == op) = true := by simpa using hxo
        rw [hxo] at HI
        clear hxo
        go_wp2_with fail
        refine (imms_any _).mono ?_
        rintro E W2 ⟨⟨A2, rfl, hL2⟩, hB2⟩
        obtain ⟨g2, rfl, hc2⟩ := hL2
        have hy : lImms[j]? = some (lImms.getD j 0) := by rw [List.getD_eq_getElem?_getD, List.getElem?_eq_getElem (show j < lImms.length from hlt)]; rfl
        have c2 := hc2 j _ hy
        have HB2 := Lib.hid (HB1.out.trans (hB2.mono HB1.out.size))
        generalize lImms.getD j 0 = y at *
        clear hc2 hy hB2
        go_wp2_with fail
        go_ret
        rw [HI.out]
        exact ⟨rfl, HB2.out⟩
      · have hxb : (x == op) = false := by simpa using hxo
        have HN := Lib.hid (take_all_succ hno.out HX.out hxo)
        clear hxo
        go_wp2_with fail
        go_round
        case rel => exact ⟨j + 1, by omega, by go_num, HN⟩
        case measure => simp [intOf]; omega
    · obtain rfl : j = 26 := by omega
      have hall : ∀ y ∈ lCodes, ¬ y = op := hno.out
      by_cases hm : 40 ≤ op ∧ op ≤ 62
      · obtain ⟨hm0, hm1⟩ := hm
        have HV := Lib.hid (show rImmV op = 6 from by
          have h' : ∀ x ∈ lCodes, ¬ op = x := fun x hx e => hall x hx e.symm
          simp only [lCodes, List.mem_cons, List.mem_nil_iff, or_false, forall_eq_or_imp, forall_eq] at h'
          unfold rImmV immM
          simp [h', hm0, hm1])
        clear hall
        go_wp2_with fail
        go_ret
        rw [HV.out]
        exact ⟨rfl, HB1.out⟩
      · have HV := Lib.hid (rImm_no op hall hm)
        have HN := Lib.hid (rName_any W1 op h0 h1)
        clear hall
        generalize numOp op = b at *
        by_cases hm0 : 40 ≤ op
        all_goals
          have hm1 : 62 < op ∨ op < 40 := by omega
          cases b
          all_goals
            go_wp2_with fail
            refine HN.out.mono ?_
            rintro E W2 ⟨⟨s, rfl, hs⟩, hB2⟩
            have HB2 := Lib.hid (HB1.out.trans (hB2.mono HB1.out.size))
            simp only [Bool.not_true, Bool.not_false] at hs
            clear hB2
            go_wp2_with fail
            go_ret
            rw [HV.out]
            exact ⟨rfl, HB2.out⟩
end Go.Proofs.YtofaiocffifhfaaGreat
end
section
namespace Go.Proofs.YtofaiocffifhfaaGreat
open Go.RowKit Go.Shelf YtofaiocffifhfaaGreatB Go.Proofs.YtofaiocffifhfaaGreatW.PrintWords
/-- The reader of instructions, at R over the cursor at p. -/
def Rp (W : World) (R p : Nat) (sat : Bool) (deep : Int) : Prop := Blk W R #[.pointer (some ⟨p, 0, none⟩), .bool sat, .int .i64 deep] 218
theorem Rp.cells {W : World} {R p : Nat} {sat : Bool} {deep : Int} (h : Rp W R p sat deep) : W.cell? ⟨R, 0, none⟩ = some (.pointer (some ⟨p, 0, none⟩)) ∧ W.cell? ⟨R, 1, none⟩ = some (.bool sat) ∧ W.cell? ⟨R, 2, none⟩ = some (.int .i64 deep) ∧ W.frozen? ⟨R, 2, none⟩ = false ∧ R < W.heap.size :=
  ⟨by rw [h.cell]; rfl, by rw [h.cell]; rfl, by rw [h.cell]; rfl, h.frozen 2, h.lt⟩
theorem Rp.goes {W W' : World} {R p q : Nat} {sat : Bool} {deep : Int} {B : List Int} {a : Nat} {e : Int} (h : Rp W R p sat deep) (hR : R ≠ p) (hG : Goes W W' p q B a e) : Rp W' R p sat deep := Blk.grown h hG.2 (by simpa using hR)
theorem rgood_any (W : World) (R p q : Nat) (sat : Bool) (deep : Int) (B : List Int) (a : Nat) (e : Int) (b : Bool) (hR : Rp W R p sat deep) (hC : Cur W p q B a e) (hb : (e == 0) = b) :
    Calls Tryz.prog 134 #[.pointer (some ⟨R, 0, none⟩)] W fun E w' => E = .returned (.bool b) ∧ W = w' := by
  obtain ⟨r0, r1, r2, rf, rlt⟩ := hR.cells
  have H := Lib.hid (err_any W p q B a e hC)
  have HB := Lib.hid hb
  clear hR hC hb
  go_enter Tryz.func134, Tryz.ntmps134
  go_wp2_with fail
  refine H.out.mono ?_
  rintro E w' ⟨rfl, rfl⟩
  go_wp2_with fail
  go_ret
  exact ⟨by rw [← HB.out]; rfl, rfl⟩
def peekM (B : List Int) (a : Nat) (e : Int) : Int × Int := if e = 0 then (match B[a]? with | some x => (x, 0) | none => (0, 100)) else (0, e)
theorem peek_byte (B : List Int) (a : Nat) (e : Int) : (rdByte B a e).1 = (peekM B a e).1 ∧ (rdByte B a e).2.2 = (peekM B a e).2 := by
  unfold rdByte peekM
  by_cases he : e = 0
  · simp only [he, if_true]; cases B[a]? <;> exact ⟨rfl, rfl⟩
  · simp only [he, if_false, and_self]
theorem peek_fail (B : List Int) (a : Nat) (e : Int) : failE e (peekM B a e).2 = (peekM B a e).2 := by
  unfold failE peekM
  by_cases he : e = 0
  · simp only [he, if_true]
  · simp only [he, if_false]
theorem Cur.copy {W : World} {p q : Nat} {B : List Int} {a : Nat} {e : Int} {A : Option Addr} {c : Nat} (hC : Cur W p q B a e) (hc0 : W.cell? ⟨p, 0, none⟩ = some (.slice A B.length c)) :
    ∃ q', Cur (W.alloc (.cells #[.slice A B.length c, .int .i64 a, .int .i64 e] 124)) W.heap.size q' B a e := by
  obtain ⟨h0, h1, A', c', h2, h3, h4⟩ := hC
  have he : some (Value.slice A B.length c) = some (Value.slice A' B.length c') := by rw [← hc0, h3.cell]; rfl
  simp only [Option.some.injEq, Value.slice.injEq] at he
  obtain ⟨rfl, _, rfl⟩ := he
  rcases Nat.eq_zero_or_pos B.length with hz | hz
  · exact ⟨W.heap.size + 1, by omega, h1, A, c, h2, Blk.new _ _ _, fun hp => by omega⟩
  · have hql : q < W.heap.size := by
      obtain ⟨o, e, hcell⟩ := h4 hz
      exact World.block_lt_of_cell? _ _ (hcell 0 _ (List.getElem?_eq_getElem hz))
    exact ⟨q, by omega, h1, A, c, h2, Blk.new _ _ _, h4.grown (World.grownBy_alloc W _ none) (by simp)⟩
theorem goes_below {W W1 W2 : World} {p q c' q' : Nat} {B : List Int} {a a2 : Nat} {e e2 : Int} (hC : Cur W p q B a e) (h0 : Below W.heap.size W W1) (h : Goes W1 W2 c' q' B a2 e2) (hc : W.heap.size ≤ c') : Goes W W2 p q B a e := by
  have hb := h0.grown h.2 h0.size (fun k e => by cases e; exact hc)
  exact ⟨hC.below hb, grown_below hb _⟩
set_option maxRecDepth 100000 in
set_option maxHeartbeats 1000000 in
theorem peek_any (W : World) (R p q : Nat) (sat : Bool) (deep : Int) (B : List Int) (a : Nat) (e : Int) (hR : Rp W R p sat deep) (hRp : R ≠ p) (hC : Cur W p q B a e) (hB : Byts B) :
    Calls Tryz.prog 140 #[.pointer (some ⟨R, 0, none⟩)] W fun E w' => E = .returned (.int .u8 (peekM B a e).1) ∧ Goes W w' p q B a (peekM B a e).2 := by
  obtain ⟨r0, r1, r2, rf, rlt⟩ := hR.cells
  obtain ⟨A, c, c0, c1, c2, f0, f1, f2, hle, hq, hlt, ha⟩ := hC.cells
  obtain ⟨q', hC1⟩ := hC.copy c0
  have HByte := Lib.hid (Byte_any _ W.heap.size q' B a e hC1 hB)
  rw [(peek_byte B a e).1, (peek_byte B a e).2] at HByte
  have HPF := Lib.hid (peek_fail B a e)
  generalize peekM B a e = t at *
  obtain ⟨v, e2⟩ := t
  have HC := Lib.hid hC
  have HR := Lib.hid hR
  generalize (rdByte B a e).2.1 = a2 at *
  clear hC hq hC1 hB hR
  go_enter Tryz.func140, Tryz.ntmps140
  go_wp2_with fail
  refine HByte.out.mono ?_
  rintro E W1 ⟨rfl, hG⟩
  have HG := Lib.hid (goes_below HC.out ((Below.refl _ _).alloc (Nat.le_refl _) _) hG (Nat.le_refl _))
  have HGc := Lib.hid hG.1
  clear HByte hG
  go_wp2_with fail
  refine (err_any _ _ _ _ _ _ HGc.out).mono ?_
  rintro E w' ⟨rfl, rfl⟩
  by_cases he : e2 = 0
  · subst he
    go_wp2_with fail
    go_ret
    have hz : e = 0 := by
      have := HPF.out
      unfold failE at this
      by_cases h : e = 0
      · exact h
      · simp only [h, if_false] at this
    rw [hz] at HG
    exact ⟨rfl, HG.out⟩
  · have he2 : (e2 != 0) = true := by simp; exact he
    have he3 := Lib.hid (beq_eq_false_iff_ne.2 he)
    have HR1 := Lib.hid (HR.out.goes hRp HG.out)
    obtain ⟨s0, s1, s2, sf, slt⟩ := HR1.out.cells
    have HEd := Lib.hid (err_any W1.drew _ _ _ _ _ (Goes.drewN HGc.out 1).1)
    have HFd := Lib.hid (Fail_any W1.drew _ _ _ _ _ e2 (Goes.drewN HG.out.1 1).1 he3.out)
    clear he r0 r1 r2 rf
    go_wp2_with fail
    go_region_held3 (fun w' => w'.cell? ⟨R, 0, none⟩ = some (.pointer (some ⟨p, 0, none⟩)))
      (first | exact s0 | exact hS0)
      (first
        | (go_at_call 15; refine HEd.out.mono ?_; rintro E w3 ⟨rfl, rfl⟩)
        | (go_at_call 36; refine HFd.out.mono ?_; rintro E w4 ⟨rfl, hG4⟩; have hS0 : w4.cell? ⟨R, 0, none⟩ = some (.pointer (some ⟨p, 0, none⟩)) := by rw [(HR1.out.drew.grown hG4.2 (by simpa using hRp)).cell]; rfl))
    have HG4 := Lib.hid (show Goes W1.drew w4 p q B a e2 from by have := hG4; rw [HPF.out] at this; exact this)
    clear hG4 hS0
    go_wp2_with fail
    go_ret
    exact ⟨rfl, (HG.out.trans (Goes.drewN HG.out.1 1)).trans HG4.out⟩
end Go.Proofs.YtofaiocffifhfaaGreat
end
section
namespace Go.Proofs.YtofaiocffifhfaaGreat
open Go.RowKit Go.Shelf YtofaiocffifhfaaGreatB Go.Proofs.YtofaiocffifhfaaGreatW.PrintWords
def secondM (B : List Int) (a : Nat) (e : Int) : Int × Nat × Int := let r := rdOf (u32M B a) a e; (64512 + r.1, r.2.1, if r.1 > 7 then failE r.2.2 108 else r.2.2)
theorem u32_bound (B : List Int) (a : Nat) (e : Int) (hB : Byts B) : 0 ≤ (rdOf (u32M B a) a e).1 ∧ (rdOf (u32M B a) a e).1 ≤ 4294967295 := by
  unfold rdOf
  by_cases he : e = 0
  · rw [if_pos he]
    cases hu : u32M B a with
    | error e' => simp [numV]
    | ok y =>
      obtain ⟨n, nx⟩ := y
      have := u32M_lt hB hu
      simp only [numV]
      omega
  · rw [if_neg he]; simp
set_option maxRecDepth 100000 in
theorem second_any (W : World) (R p q : Nat) (sat : Bool) (deep : Int) (B : List Int) (a : Nat) (e : Int) (hR : Rp W R p sat deep) (hRp : R ≠ p) (hC : Cur W p q B a e) (hB : Byts B) :
    Calls Tryz.prog 158 #[.pointer (some ⟨R, 0, none⟩)] W fun E w' => E = .returned (.int .i64 (secondM B a e).1) ∧ Goes W w' p q B (secondM B a e).2.1 (secondM B a e).2.2 := by
  obtain ⟨r0, r1, r2, rf, rlt⟩ := hR.cells
  have H := Lib.hid (U32_any W p q B a e hC hB)
  have hb := u32_bound B a e hB
  have HV := Lib.hid (show secondM B a e = (64512 + (rdOf (u32M B a) a e).1, (rdOf (u32M B a) a e).2.1, if (rdOf (u32M B a) a e).1 > 7 then failE (rdOf (u32M B a) a e).2.2 108 else (rdOf (u32M B a) a e).2.2) from rfl)
  generalize rdOf (u32M B a) a e = t at *
  obtain ⟨n, a', e'⟩ := t
  obtain ⟨hb0, hb1⟩ := hb
  have HR := Lib.hid hR
  clear hC hB hR
  by_cases h7 : n > 7
  · have hn : (7 : Int) < n := h7
    rw [if_pos h7] at HV
    clear h7
    go_enter Tryz.func158, Tryz.ntmps158
    go_wp2_with fail
    refine H.out.mono ?_
    rintro E W1 ⟨rfl, hG⟩
    obtain ⟨s0, s1, s2, sf, slt⟩ := (HR.out.goes hRp hG).cells
    have HG := Lib.hid hG
    clear hG H
    go_wp2_with fail
    refine (Fail_any _ _ _ _ _ _ 108 HG.out.1 rfl).mono ?_
    rintro E W2 ⟨rfl, hG2⟩
    have HG2 := Lib.hid hG2
    clear hG2
    go_wp2_with fail
    go_ret
    rw [HV.out]
    exact ⟨rfl, HG.out.trans HG2.out⟩
  · have hn : n ≤ 7 := by omega
    rw [if_neg h7] at HV
    clear h7
    go_enter Tryz.func158, Tryz.ntmps158
    go_wp2_with fail
    refine H.out.mono ?_
    rintro E W1 ⟨rfl, hG⟩
    have HG := Lib.hid hG
    clear hG H
    go_wp2_with fail
    go_ret
    rw [HV.out]
    exact ⟨rfl, HG.out⟩
def opM (sat : Bool) (B : List Int) (a : Nat) (e : Int) : Int × Nat × Int :=
  if (peekM B a e).2 = 0 then (if (peekM B a e).1 = 252 ∧ sat = true then secondM B (a + 1) 0 else if (immM (peekM B a e).1).2 = true then ((peekM B a e).1, a + 1, 0) else (0, a, 108)) else (0, a, (peekM B a e).2)
theorem peek_good {B : List Int} {a : Nat} {e x : Int} (h : peekM B a e = (x, 0)) : e = 0 ∧ B[a]? = some x := by
  unfold peekM at h
  by_cases he : e = 0
  · rw [if_pos he] at h
    cases hx : B[a]? with
    | none => rw [hx] at h; simp at h
    | some y => rw [hx] at h; simp at h; exact ⟨he, by rw [h]⟩
  · rw [if_neg he] at h
    simp at h
    exact absurd h.2 he
set_option maxRecDepth 100000 in
set_option maxHeartbeats 1000000 in
theorem op_any (W : World) (R p q : Nat) (sat : Bool) (deep : Int) (B : List Int) (a : Nat) (e : Int) (hR : Rp W R p sat deep) (hRp : R ≠ p) (hC : Cur W p q B a e) (hB : Byts B) :
    Calls Tryz.prog 145 #[.pointer (some ⟨R, 0, none⟩)] W fun E w' => E = .returned (.int .i64 (opM sat B a e).1) ∧ Goes W w' p q B (opM sat B a e).2.1 (opM sat B a e).2.2 := by
  have H := Lib.hid (peek_any W R p q sat deep B a e hR hRp hC hB)
  have HR := Lib.hid hR
  have HB := Lib.hid hB
  have hopm : opM sat B a e = if (peekM B a e).2 = 0 then (if (peekM B a e).1 = 252 ∧ sat = true then secondM B (a + 1) 0 else if (immM (peekM B a e).1).2 = true then ((peekM B a e).1, a + 1, 0) else (0, a, 108)) else (0, a, (peekM B a e).2) := rfl
  have hpg := fun x => peek_good (B := B) (a := a) (e := e) (x := x)
  generalize peekM B a e = t at *
  obtain ⟨x, e1⟩ := t
  clear hR hC
  by_cases he : e1 = 0
  · subst he
    rw [if_pos rfl] at hopm
    obtain ⟨rfl, hx⟩ := hpg x rfl
    have hxb := hB.get hx
    have hx0 := hxb.1
    have hx1 := hxb.2
    have HM := Lib.hid (Imm_any · x hx0 (by omega))
    have HBy := Lib.hid (show rdByte B a 0 = (x, a + 1, 0) from by simp [rdByte, hx])
    clear hpg hx hB hxb
    by_cases hs : x = 252 ∧ sat = true
    · obtain ⟨rfl, rfl⟩ := hs
      rw [if_pos ⟨rfl, rfl⟩] at hopm
      have HV := Lib.hid hopm
      clear hopm
      go_enter Tryz.func145, Tryz.ntmps145
      go_wp2_with fail
      refine H.out.mono ?_
      rintro E W1 ⟨rfl, hG⟩
      have HR1 := Lib.hid (HR.out.goes hRp hG)
      have HG := Lib.hid hG
      clear hG H
      go_wp2_with fail
      refine (rgood_any _ _ _ _ _ _ _ _ _ true HR1.out HG.out.1 rfl).mono ?_
      rintro E w' ⟨rfl, rfl⟩
      go_wp2_with fail
      refine (HM.out _).mono ?_
      rintro E W2 ⟨rfl, hB2⟩
      have HG2 := Lib.hid (show Goes W1 W2 p q B a 0 from ⟨HG.out.1.below hB2, grown_below hB2 _⟩)
      have HR2 := Lib.hid (HR1.out.goes hRp HG2.out)
      obtain ⟨s0, s1, s2, sf, slt⟩ := HR2.out.cells
      clear hB2
      go_wp2_with fail
      refine (Byte_any _ _ _ _ _ _ HG2.out.1 HB.out).mono ?_
      rintro E W3 ⟨rfl, hG3⟩
      rw [HBy.out] at hG3
      have HR3 := Lib.hid (HR2.out.goes hRp hG3)
      have HG3 := Lib.hid hG3
      clear hG3
      go_wp2_with fail
      refine (second_any _ _ _ _ _ _ _ _ _ HR3.out hRp HG3.out.1 HB.out).mono ?_
      rintro E W4 ⟨rfl, hG4⟩
      have HG4 := Lib.hid hG4
      clear hG4
      go_wp2_with fail
      go_ret
      rw [HV.out]
      exact ⟨rfl, ((HG.out.trans HG2.out).trans HG3.out).trans HG4.out⟩
    · rw [if_neg hs] at hopm
      by_cases h252 : x = 252
      · obtain rfl : sat = false := by
          cases sat
          · rfl
          · exact absurd ⟨h252, rfl⟩ hs
        subst h252
        rw [show immM 252 = (0, false) from by decide] at hopm HM
        have HV := Lib.hid (show opM false B a 0 = (0, a, 108) from hopm)
        clear hopm hs
        go_enter Tryz.func145, Tryz.ntmps145
        go_wp2_with fail
        refine H.out.mono ?_
        rintro E W1 ⟨rfl, hG⟩
        have HR1 := Lib.hid (HR.out.goes hRp hG)
        have HG := Lib.hid hG
        clear hG
        go_wp2_with fail
        refine (rgood_any _ _ _ _ _ _ _ _ _ true HR1.out HG.out.1 rfl).mono ?_
        rintro E w' ⟨rfl, rfl⟩
        go_wp2_with fail
        refine (HM.out _).mono ?_
        rintro E W2 ⟨rfl, hB2⟩
        have HG2 := Lib.hid (show Goes W1 W2 p q B a 0 from ⟨HG.out.1.below hB2, grown_below hB2 _⟩)
        have HR2 := Lib.hid (HR1.out.goes hRp HG2.out)
        obtain ⟨s0, s1, s2, sf, slt⟩ := HR2.out.cells
        clear hB2
        go_wp2_with fail
        refine (Fail_any _ _ _ _ _ _ 108 HG2.out.1 rfl).mono ?_
        rintro E W3 ⟨rfl, hG3⟩
        have HG3 := Lib.hid hG3
        clear hG3
        go_wp2_with fail
        go_ret
        rw [HV.out]
        exact ⟨rfl, (HG.out.trans HG2.out).trans HG3.out⟩
      · have hsx : (x == 252) = false := by simpa using h252
        have HV := Lib.hid hopm
        clear hopm hs h252
        generalize immM x = im at *
        obtain ⟨iv, ib⟩ := im
        cases ib
        · have HV := Lib.hid (show opM sat B a 0 = (0, a, 108) from HV.out)
          go_enter Tryz.func145, Tryz.ntmps145
          go_wp2_with fail
          refine H.out.mono ?_
          rintro E W1 ⟨rfl, hG⟩
          have HR1 := Lib.hid (HR.out.goes hRp hG)
          have HG := Lib.hid hG
          clear hG
          go_wp2_with fail
          refine (rgood_any _ _ _ _ _ _ _ _ _ true HR1.out HG.out.1 rfl).mono ?_
          rintro E w' ⟨rfl, rfl⟩
          go_wp2_with fail
          refine (HM.out _).mono ?_
          rintro E W2 ⟨rfl, hB2⟩
          have HG2 := Lib.hid (show Goes W1 W2 p q B a 0 from ⟨HG.out.1.below hB2, grown_below hB2 _⟩)
          have HR2 := Lib.hid (HR1.out.goes hRp HG2.out)
          obtain ⟨s0, s1, s2, sf, slt⟩ := HR2.out.cells
          clear hB2
          go_wp2_with fail
          refine (Fail_any _ _ _ _ _ _ 108 HG2.out.1 rfl).mono ?_
          rintro E W3 ⟨rfl, hG3⟩
          have HG3 := Lib.hid hG3
          clear hG3
          go_wp2_with fail
          go_ret
          rw [HV.out]
          exact ⟨rfl, (HG.out.trans HG2.out).trans HG3.out⟩
        · have HV := Lib.hid (show opM sat B a 0 = (x, a + 1, 0) from HV.out)
          go_enter Tryz.func145, Tryz.ntmps145
          go_wp2_with fail
          refine H.out.mono ?_
          rintro E W1 ⟨rfl, hG⟩
          have HR1 := Lib.hid (HR.out.goes hRp hG)
          have HG := Lib.hid hG
          clear hG
          go_wp2_with fail
          refine (rgood_any _ _ _ _ _ _ _ _ _ true HR1.out HG.out.1 rfl).mono ?_
          rintro E w' ⟨rfl, rfl⟩
          go_wp2_with fail
          refine (HM.out _).mono ?_
          rintro E W2 ⟨rfl, hB2⟩
          have HG2 := Lib.hid (show Goes W1 W2 p q B a 0 from ⟨HG.out.1.below hB2, grown_below hB2 _⟩)
          have HR2 := Lib.hid (HR1.out.goes hRp HG2.out)
          obtain ⟨s0, s1, s2, sf, slt⟩ := HR2.out.cells
          clear hB2
          go_wp2_with fail
          refine (Byte_any _ _ _ _ _ _ HG2.out.1 HB.out).mono ?_
          rintro E W3 ⟨rfl, hG3⟩
          rw [HBy.out] at hG3
          have HG3 := Lib.hid hG3
          clear hG3
          go_wp2_with fail
          go_ret
          rw [HV.out]
          exact ⟨rfl, (HG.out.trans HG2.out).trans HG3.out⟩
  · rw [if_neg he] at hopm
    have HV := Lib.hid hopm
    have he2 := Lib.hid (beq_eq_false_iff_ne.2 he)
    clear hopm hpg hB he
    go_enter Tryz.func145, Tryz.ntmps145
    go_wp2_with fail
    refine H.out.mono ?_
    rintro E W1 ⟨rfl, hG⟩
    have HR1 := Lib.hid (HR.out.goes hRp hG)
    have HG := Lib.hid hG
    clear hG
    go_wp2_with fail
    refine (rgood_any _ _ _ _ _ _ _ _ _ false HR1.out HG.out.1 he2.out).mono ?_
    rintro E w' ⟨rfl, rfl⟩
    go_wp2_with fail
    go_ret
    rw [HV.out]
    exact ⟨rfl, HG.out⟩
end Go.Proofs.YtofaiocffifhfaaGreat
end
