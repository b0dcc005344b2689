/- Lemmas towards this claim's statement: what the functions named here come to, each under the conditions that it states itself. -/
import Derived.Test.YtfndlpfceokloaaCk2
section
namespace Go.Proofs.YtfndlpfceokloaaB
open Go.RowKit
def lstU (x l : Int) : Bool := decide (7 ≤ l) || decide (x < 2 ^ l.toNat)
def svOf (x : Int) : Int := if 64 ≤ x then x - 128 else x
def lstS (x l : Int) : Bool := decide (7 ≤ l) || (decide (-(2 ^ (l - 1).toNat) ≤ svOf x) && decide (svOf x < 2 ^ (l - 1).toNat))
/-- A number that was read with its sign, modulo 2^64. -/
def sgnV (m h : Nat) : Nat := if h < 64 ∧ 2 ^ (h - 1) ≤ m then m + 18446744073709551616 - 2 ^ h else m % 18446744073709551616
theorem lebG_err (lst : Int → Int → Bool) : ∀ (R : List Int) (l : Nat) (e : Int), lebG lst R l = .error e → ¬ e = 0
  | [], l, e, h => by simp [lebG] at h; omega
  | x :: r, l, e, h => by
    rw [lebG] at h
    split at h
    · split at h
      · cases h
      · cases h; omega
    · split at h
      · cases h; omega
      · cases hr : lebG lst r (l - 7) with
        | error e' => rw [hr] at h; cases h; exact lebG_err lst r (l - 7) e hr
        | ok y => obtain ⟨m', h', c'⟩ := y; rw [hr] at h; cases h
theorem lebG_bound {lst : Int → Int → Bool} : ∀ (R : List Int) (l : Nat) (m h c : Nat), 1 ≤ l → (∀ x ∈ R, 0 ≤ x ∧ x ≤ 255) → lebG lst R l = .ok (m, h, c) → m < 2 ^ h ∧ 7 ≤ h ∧ h < l + 7
  | [], l, m, h, c, _, _, e => by simp [lebG] at e
  | x :: r, l, m, h, c, hl, hR, e => by
    have hx := hR x (by simp)
    rw [lebG] at e
    split at e
    · split at e
      · simp at e
        obtain ⟨rfl, rfl, rfl⟩ := e
        exact ⟨by rw [show (2 : Nat) ^ 7 = 128 from rfl]; omega, by omega, by omega⟩
      · cases e
    · split at e
      · cases e
      · cases hr : lebG lst r (l - 7) with
        | error e' => rw [hr] at e; cases e
        | ok y =>
          obtain ⟨m', h', c'⟩ := y
          rw [hr] at e
          simp at e
          have ih := lebG_bound r (l - 7) m' h' c' (by omega) (fun y hy => hR y (by simp [hy])) hr
          obtain ⟨rfl, rfl, rfl⟩ := e
          refine ⟨?_, by omega, by omega⟩
          rw [Nat.pow_add, show (2 : Nat) ^ 7 = 128 from rfl]
          omega
end Go.Proofs.YtfndlpfceokloaaB
namespace Go.Proofs.Ytfndlpfceokloaa
open Go.RowKit Go.Shelf YtfndlpfceokloaaB Go.Proofs.YtfndlpfceokloaaW.PrintWords
set_option maxRecDepth 100000 in
theorem lU1_any (x l : Int) (W : World) (hx0 : 0 ≤ x) (hx : x < 128) (hl1 : 1 ≤ l) (hl2 : l ≤ 64) : Calls Try.prog 175 #[.int .u8 x, .int .i64 l] W fun E w' => E = .returned (.bool (lstU x l)) ∧ W = w' := by
  by_cases h7 : 7 ≤ l
  · have HV := Lib.hid (show lstU x l = true from by simp [lstU, h7])
    go_enter Try.func175, Try.ntmps175
    go_wp2_with fail
    go_ret
    exact ⟨by rw [HV.out]; rfl, rfl⟩
  · have hl6 : l = 1 ∨ l = 2 ∨ l = 3 ∨ l = 4 ∨ l = 5 ∨ l = 6 := by omega
    rcases hl6 with rfl | rfl | rfl | rfl | rfl | rfl
    all_goals
      clear hl1 hl2 h7
      go_enter Try.func175, Try.ntmps175
      go_wp2_with fail
      go_ret
      exact ⟨by simp [lstU], rfl⟩
set_option maxRecDepth 100000 in
theorem lS1_any (x l : Int) (W : World) (hx0 : 0 ≤ x) (hx : x < 128) (hl1 : 1 ≤ l) (hl2 : l ≤ 64) : Calls Try.prog 178 #[.int .u8 x, .int .i64 l] W fun E w' => E = .returned (.bool (lstS x l)) ∧ W = w' := by
  obtain ⟨v, hv, hvx⟩ : ∃ v, svOf x = v ∧ (64 ≤ x ∧ v = x - 128 ∨ ¬ 64 ≤ x ∧ x = v) := ⟨_, rfl, by unfold svOf; split <;> simp_all⟩
  have HV2 := Lib.hid hv
  clear hv
  rcases hvx with ⟨h64, rfl⟩ | ⟨h64, rfl⟩
  all_goals
    by_cases h7 : 7 ≤ l
    · have HV := Lib.hid (show lstS x l = true from by simp [lstS, h7])
      go_enter Try.func178, Try.ntmps178
      go_wp2_with fail
      go_ret
      exact ⟨by rw [HV.out]; rfl, rfl⟩
    · have hl6 : l = 1 ∨ l = 2 ∨ l = 3 ∨ l = 4 ∨ l = 5 ∨ l = 6 := by omega
      rcases hl6 with rfl | rfl | rfl | rfl | rfl | rfl
      all_goals
        clear hl1 hl2 h7
        go_enter Try.func178, Try.ntmps178
        go_wp2_with fail
        all_goals
          go_ret
          refine ⟨?_, rfl⟩
          show Ending.returned _ = Ending.returned _
          rw [lstS, HV2.out]
          first | (simp; done) | (simp; omega) | (simp; rw [Bool.eq_iff_iff]; simp; omega) | (simp; rw [Bool.eq_iff_iff]; simp; intros; omega)
/-- What a reader of numbers answers. -/
def NumPost (W : World) (r : Except Int (Nat × Nat)) (E : Ending) (w' : World) : Prop :=
  Below W.heap.size W w' ∧ (match r with
  | .error e => E = .returned (.tuple #[.int .u64 0, .int .i64 0, .int .i64 e])
  | .ok (n, nx) => E = .returned (.tuple #[.int .u64 (n : Int), .int .i64 (nx : Int), .int .i64 0]))
def uintM (B : List Int) (a bits : Nat) : Except Int (Nat × Nat) := match lebG lstU (B.drop a) bits with | .error e => .error e | .ok (m, _, c) => .ok (m % 18446744073709551616, a + c)
def sintM (B : List Int) (a bits : Nat) : Except Int (Nat × Nat) := match lebG lstS (B.drop a) bits with | .error e => .error e | .ok (m, h, c) => .ok (sgnV m h, a + c)
set_option maxRecDepth 100000 in
set_option maxHeartbeats 1000000 in
theorem Uint_any (W : World) (q : Nat) (A : Option Addr) (c : Nat) (B : List Int) (a bits : Nat) (hB : Byts B) (hQ : ByQ W q A B) (hc : B.length ≤ c) (ha : a ≤ B.length) (hb : 1 ≤ bits ∧ bits ≤ 64) :
    Calls Try.prog 158 #[.slice A B.length c, .int .i64 a, .int .i64 bits] W (NumPost W (uintM B a bits)) := by
  have HS := Lib.hid (scan_leb lstU _ ent_lU1 lU1_any W q A c B a bits hB hQ hc ha hb)
  rw [uintM]
  generalize lebG lstU (B.drop a) bits = r at *
  clear hQ hB
  go_enter Try.func158, Try.ntmps158
  go_wp2_with fail
  refine HS.out.mono ?_
  clear HS
  rintro E W1 ⟨hB1, hm⟩
  have HB1 := Lib.hid hB1
  rcases r with e | ⟨m, h, k⟩
  · obtain rfl := hm
    clear hB1
    go_wp2_with fail
    go_wp2
    refine bodyPost_ret (results_tmp3 rfl _ _ _) rfl ?_
    exact ⟨(HB1.out.alloc HB1.out.size _).trans ⟨rfl, rfl, rfl, Nat.le_refl _, fun _ _ => rfl⟩, rfl⟩
  · obtain ⟨l', rfl⟩ := hm
    obtain ⟨M, hM⟩ : ∃ M : Int, ((m % 18446744073709551616 : Nat) : Int) = M := ⟨_, rfl⟩
    obtain ⟨N, hN⟩ : ∃ N : Int, ((a + k : Nat) : Int) = N := ⟨_, rfl⟩
    rw [hM, hN]
    have HM := Lib.hid hM
    have HN := Lib.hid hN
    clear hB1 hM hN
    go_wp2_with fail
    go_wp2
    refine bodyPost_ret (results_tmp3 rfl _ _ _) rfl ?_
    refine ⟨(HB1.out.alloc HB1.out.size _).trans ⟨rfl, rfl, rfl, Nat.le_refl _, fun _ _ => rfl⟩, ?_⟩
    show _ = _
    rw [HM.out, HN.out]
    rfl
theorem sgn_bit (m h : Nat) (hm : m < 2 ^ h) (h1 : 1 ≤ h) (h2 : h < 64) : (bits .and .u64 ((m : Int) / 2 ^ (h - 1)) 1 == 1) = decide (2 ^ (h - 1) ≤ m) := by
  have hp : 2 ^ h = 2 * 2 ^ (h - 1) := by obtain ⟨t, rfl⟩ : ∃ t, h = t + 1 := ⟨h - 1, by omega⟩; rw [Nat.pow_succ, Nat.add_sub_cancel, Nat.mul_comm]
  have hpp : 0 < 2 ^ (h - 1) := Nat.two_pow_pos _
  have e : ((m : Int) / 2 ^ (h - 1)) = ((m / 2 ^ (h - 1) : Nat) : Int) := by rw [Int.natCast_ediv, Int.natCast_pow]; rfl
  generalize 2 ^ (h - 1) = t at *
  have hq : m / t < 2 := by rw [Nat.div_lt_iff_lt_mul hpp]; omega
  have h3 := u64_and_nat (m / t) 1 (by omega) (by omega)
  rw [show ((1 : Nat) : Int) = 1 from rfl] at h3
  rw [e, h3, nat_mask1, Nat.mod_eq_of_lt hq]
  rw [Bool.eq_iff_iff]
  simp only [beq_iff_eq, decide_eq_true_eq]
  constructor
  · intro h4
    have h5 : m / t = 1 := by omega
    have := Nat.div_add_mod m t
    rw [h5] at this
    omega
  · intro h4
    have : 0 < m / t := Nat.div_pos h4 hpp
    omega
theorem sgn_or (m h : Nat) (hm : m < 2 ^ h) (h2 : h < 64) : bits .or .u64 (m : Int) (IntKind.u64.wrap (18446744073709551615 * 2 ^ h)) = ((m + 18446744073709551616 - 2 ^ h : Nat) : Int) := by
  have hp : (18446744073709551616 : Nat) = 2 ^ (64 - h) * 2 ^ h := by rw [← Nat.pow_add, show 64 - h + h = 64 from by omega]
  have h63 : 2 ^ h ≤ 2 ^ 63 := Nat.pow_le_pow_right (by omega) (by omega)
  have e : IntKind.u64.wrap (18446744073709551615 * 2 ^ h) = ((18446744073709551616 - 2 ^ h : Nat) : Int) := by
    rw [IntKind.wrap_u64]
    have : (18446744073709551615 : Int) * 2 ^ h = (((18446744073709551615 * 2 ^ h : Nat)) : Int) := by rw [Int.natCast_mul, Int.natCast_pow]; rfl
    rw [this]
    have h4 : (18446744073709551615 * 2 ^ h) % 18446744073709551616 = 18446744073709551616 - 2 ^ h := by
      have hp1 : 1 ≤ 2 ^ h := Nat.two_pow_pos _
      generalize 2 ^ h = t at *
      omega
    rw [← h4]
    omega
  have hd : (18446744073709551616 - 2 ^ h) % 2 ^ h = 0 := by
    rw [hp, show 2 ^ (64 - h) * 2 ^ h - 2 ^ h = (2 ^ (64 - h) - 1) * 2 ^ h from by rw [Nat.sub_mul, Nat.one_mul], Nat.mul_mod_left]
  have hp1 : 1 ≤ 2 ^ h := Nat.two_pow_pos _
  rw [e, u64_or_nat _ _ (by omega) (by omega), Nat.or_comm, nat_join h _ m hd hm]
  congr 1
  omega
set_option maxRecDepth 100000 in
set_option maxHeartbeats 1000000 in
theorem Sint_any (W : World) (q : Nat) (A : Option Addr) (c : Nat) (B : List Int) (a bits : Nat) (hB : Byts B) (hQ : ByQ W q A B) (hc : B.length ≤ c) (ha : a ≤ B.length) (hb : 1 ≤ bits ∧ bits ≤ 64) :
    Calls Try.prog 161 #[.slice A B.length c, .int .i64 a, .int .i64 bits] W (NumPost W (sintM B a bits)) := by
  have HS := Lib.hid (scan_leb lstS _ ent_lS1 lS1_any W q A c B a bits hB hQ hc ha hb)
  have HM := Lib.hid (fun m h k e => lebG_bound (lst := lstS) (B.drop a) bits m h k hb.1 (fun x hx => hB.2 x (List.mem_of_mem_drop hx)) e)
  rw [sintM]
  have HM2 := Lib.hid (show lebG lstS (B.drop a) bits = lebG lstS (B.drop a) bits from rfl)
  have HE := Lib.hid (fun e h => lebG_err lstS (B.drop a) bits e h)
  generalize lebG lstS (B.drop a) bits = r at *
  clear hQ hB HM2
  have hb2 := hb.2
  go_enter Try.func161, Try.ntmps161
  go_wp2_with fail
  refine HS.out.mono ?_
  clear HS
  rintro E W1 ⟨hB1, hm⟩
  have HB1 := Lib.hid hB1
  rcases r with e | ⟨m, h, k⟩
  · obtain rfl := hm
    clear hB1
    have he : (e != 0) = true := by have := HE.out e rfl; simp; exact this
    go_wp2_with fail
    refine bodyPost_ret (results_tmp3 rfl _ _ _) rfl ?_
    exact ⟨HB1.out.alloc HB1.out.size _, rfl⟩
  · obtain ⟨l', rfl⟩ := hm
    obtain ⟨N, hN⟩ : ∃ N : Int, ((a + k : Nat) : Int) = N := ⟨_, rfl⟩
    rw [hN]
    obtain ⟨hm1, hm2, hm3⟩ := HM.out m h k rfl
    have HN := Lib.hid hN
    have HM1 := Lib.hid hm1
    clear hB1 hN hm1 HM
    by_cases h64 : h < 64
    · have hms : m % 18446744073709551616 = m := leb_small m h HM1.out (by omega)
      rw [hms]
      have HMS := Lib.hid hms
      clear hms
      have hbit := sgn_bit m h HM1.out (by omega) h64
      by_cases hs : 2 ^ (h - 1) ≤ m
      · rw [decide_eq_true hs] at hbit
        have HV := Lib.hid (show sgnV m h = m + 18446744073709551616 - 2 ^ h from if_pos ⟨h64, hs⟩)
        have HO := Lib.hid (sgn_or m h HM1.out h64)
        clear hs
        go_wp2_with fail
        have hN := Blk.new W1 #[.int .u64 m, .int .i64 h, .int .i64 l'] 310
        have hBf := HB1.out.alloc HB1.out.size (.cells #[.int .u64 m, .int .i64 h, .int .i64 l'] 310)
        have hs1 := HB1.out.size
        generalize W1.alloc (.cells #[.int .u64 m, .int .i64 h, .int .i64 l'] 310) = W2 at *
        have c0 : W2.cell? ⟨W1.heap.size, 0, none⟩ = some (.int .u64 (m : Int)) := by rw [hN.cell]; rfl
        have c1 : W2.cell? ⟨W1.heap.size, 1, none⟩ = some (.int .i64 (h : Int)) := by rw [hN.cell]; rfl
        have f0 := hN.frozen 0
        have HBf := Lib.hid hBf
        clear hN hBf
        go_still_tail 7, (by kernel_rfl)
        change wpList _ _ _ _ _ W2.drew
        go_wp2
        refine bodyPost_ret (results_tmp3 rfl _ _ _) rfl ?_
        refine ⟨(HBf.out.setCell (p := ⟨W1.heap.size, 0, none⟩) hs1 _).trans ⟨rfl, rfl, rfl, Nat.le_refl _, fun _ _ => rfl⟩, ?_⟩
        show _ = _
        rw [HV.out, HN.out, ← HO.out]
        rfl
      · rw [decide_eq_false hs] at hbit
        have HV := Lib.hid (show sgnV m h = m from by rw [sgnV, if_neg (fun h => hs h.2), HMS.out])
        clear hs
        go_wp2_with fail
        refine bodyPost_ret (results_tmp3 rfl _ _ _) rfl ?_
        refine ⟨HB1.out.alloc HB1.out.size _, ?_⟩
        show _ = _
        rw [HV.out, HN.out]
        rfl
    · obtain ⟨M, hM⟩ : ∃ M : Int, ((m % 18446744073709551616 : Nat) : Int) = M := ⟨_, rfl⟩
      rw [hM]
      have HMM := Lib.hid hM
      have HV := Lib.hid (show sgnV m h = m % 18446744073709551616 from if_neg (fun h => h64 h.1))
      clear hM
      go_wp2_with fail
      refine bodyPost_ret (results_tmp3 rfl _ _ _) rfl ?_
      refine ⟨HB1.out.alloc HB1.out.size _, ?_⟩
      show _ = _
      rw [HV.out, HMM.out, HN.out]
      rfl
end Go.Proofs.Ytfndlpfceokloaa
end
section
namespace Go.Proofs.Ytfndlpfceokloaa
open Go.RowKit Go.Shelf YtfndlpfceokloaaB Go.Proofs.YtfndlpfceokloaaW.PrintWords
theorem uintM_ok {B : List Int} {a bits n nx : Nat} (h : uintM B a bits = .ok (n, nx)) : a + 1 ≤ nx ∧ nx ≤ B.length := by
  unfold uintM at h
  cases hr : lebG lstU (B.drop a) bits with
  | error e => rw [hr] at h; cases h
  | ok y =>
    obtain ⟨m, hh, c⟩ := y
    rw [hr] at h
    cases h
    have := lebG_c _ _ _ _ _ hr
    rw [List.length_drop] at this
    omega
theorem sintM_ok {B : List Int} {a bits n nx : Nat} (h : sintM B a bits = .ok (n, nx)) : a + 1 ≤ nx ∧ nx ≤ B.length := by
  unfold sintM at h
  cases hr : lebG lstS (B.drop a) bits with
  | error e => rw [hr] at h; cases h
  | ok y =>
    obtain ⟨m, hh, c⟩ := y
    rw [hr] at h
    cases h
    have := lebG_c _ _ _ _ _ hr
    rw [List.length_drop] at this
    omega
theorem uintM_err {B : List Int} {a bits : Nat} {e : Int} (h : uintM B a bits = .error e) : (e == 0) = false := by
  unfold uintM at h
  cases hr : lebG lstU (B.drop a) bits with
  | error e' => rw [hr] at h; cases h; exact beq_eq_false_iff_ne.2 (lebG_err _ _ _ _ hr)
  | ok y => obtain ⟨m, hh, c⟩ := y; rw [hr] at h; cases h
theorem sintM_err {B : List Int} {a bits : Nat} {e : Int} (h : sintM B a bits = .error e) : (e == 0) = false := by
  unfold sintM at h
  cases hr : lebG lstS (B.drop a) bits with
  | error e' => rw [hr] at h; cases h; exact beq_eq_false_iff_ne.2 (lebG_err _ _ _ _ hr)
  | ok y => obtain ⟨m, hh, c⟩ := y; rw [hr] at h; cases h
/-- The value, the place and the failure of a number that is read. -/
def numV (r : Except Int (Nat × Nat)) : Int := match r with | .error _ => 0 | .ok (n, _) => n
def numA (a : Nat) (r : Except Int (Nat × Nat)) : Nat := match r with | .error _ => a | .ok (_, nx) => nx
def numE (r : Except Int (Nat × Nat)) : Int := match r with | .error e => e | .ok _ => 0
set_option maxRecDepth 100000 in
set_option maxHeartbeats 1000000 in
theorem number_any (W : World) (p q : Nat) (B : List Int) (a bits : Nat) (g : FuncId) (hent : Enters Try.prog g) (r : Except Int (Nat × Nat)) (hC : Cur W p q B a 0)
    (hg : ∀ W' A c, ByQ W' q A B → B.length ≤ c → Calls Try.prog g #[.slice A B.length c, .int .i64 a, .int .i64 bits] W' (NumPost W' r))
    (hok : ∀ n nx, r = .ok (n, nx) → nx ≤ B.length) (herr : ∀ e, r = .error e → (e == 0) = false) :
    Calls Try.prog 157 #[.pointer (some ⟨p, 0, none⟩), .func (.func g) #[] #[], .int .i64 bits] W fun E w' => E = .returned (.int .u64 (numV r)) ∧ Goes W w' p q B (numA a r) (numE r) := by
  have hin : ∀ args w, Sem.run Try.prog (callFunc g args) w = .ok (.enter g args) w := hent
  have HC := Lib.hid hC
  obtain ⟨A, c, c0, c1, c2, f0, f1, f2, hle, hq, hlt, ha⟩ := hC.cells
  have HG := Lib.hid (fun W' h => hg W' A c h hle)
  have HQ := Lib.hid hq
  rcases r with e | ⟨n, nx⟩
  · have he := herr e rfl
    have he2 : (e != 0) = true := by simp only [bne, he]; rfl
    have HE := Lib.hid he
    clear hC hg hq hent hok herr he
    go_enter Try.func157, Try.ntmps157
    go_wp2_with fail
    go_region_held3 (fun w' => w'.cell? ⟨p, 0, none⟩ = some (.slice A B.length c) ∧ w'.cell? ⟨p, 1, none⟩ = some (.int .i64 a) ∧ Below W.heap.size W w')
      (first | exact ⟨c0, c1, (Below.refl _ _).drew⟩ | exact ⟨pw_cell_below (w := W.drew) hB3 c0, pw_cell_below (w := W.drew) hB3 c1, ((Below.refl _ _).drew).trans hB3⟩)
      (first | (refine (HG.out _ ?_).mono ?_; exact HQ.out.grown (row := none) ⟨rfl, rfl, rfl, Nat.le_refl _, fun _ _ _ => rfl⟩ (by simp); rintro E w3 ⟨hB3, rfl⟩))
    have HG3 := Lib.hid (show Goes W w3 p q B a 0 from ⟨HC.out.below (((Below.refl _ _).drew).trans hB3), grown_below (((Below.refl _ _).drew).trans hB3) _⟩)
    obtain ⟨A3, k3, d0, d1, d2, l0, l1, l2, gle, gq, glt, ga⟩ := HG3.out.1.cells
    clear hB3 gq c0 c1 c2 f0 f1 f2
    go_wp2_with fail
    go_still_tail 9, (by kernel_rfl)
    change wpList _ _ _ _ _ w3.drew
    have HD := Lib.hid (Goes.trans HG3.out (Goes.drewN HG3.out.1 1))
    have HDC := Lib.hid (show Cur w3.drew p q B a 0 from HD.out.1)
    have HG2 := Lib.hid (show W.grownBy w3.drew (some p) from HD.out.2)
    clear HD
    generalize w3.drew = W2 at *
    go_wp2_with fail
    refine (fail_yes _ _ _ _ _ _ _ HDC.out HE.out ha).mono ?_
    rintro E w' ⟨rfl, hG⟩
    have HGo := Lib.hid hG
    clear hG
    go_wp2_with fail
    go_ret
    exact ⟨rfl, HGo.out.1, HG2.out.trans HGo.out.2⟩
  · have hnx := hok n nx rfl
    clear hC hg hq hent hok herr
    go_enter Try.func157, Try.ntmps157
    go_wp2_with fail
    go_region_held3 (fun w' => w'.cell? ⟨p, 0, none⟩ = some (.slice A B.length c) ∧ w'.cell? ⟨p, 1, none⟩ = some (.int .i64 a) ∧ Below W.heap.size W w')
      (first | exact ⟨c0, c1, (Below.refl _ _).drew⟩ | exact ⟨pw_cell_below (w := W.drew) hB3 c0, pw_cell_below (w := W.drew) hB3 c1, ((Below.refl _ _).drew).trans hB3⟩)
      (first | (refine (HG.out _ ?_).mono ?_; exact HQ.out.grown (row := none) ⟨rfl, rfl, rfl, Nat.le_refl _, fun _ _ _ => rfl⟩ (by simp); rintro E w3 ⟨hB3, rfl⟩))
    have HG3 := Lib.hid (show Goes W w3 p q B a 0 from ⟨HC.out.below (((Below.refl _ _).drew).trans hB3), grown_below (((Below.refl _ _).drew).trans hB3) _⟩)
    obtain ⟨A3, k3, d0, d1, d2, l0, l1, l2, gle, gq, glt, ga⟩ := HG3.out.1.cells
    clear hB3 gq c0 c1 c2 f0 f1 f2
    go_wp2_with fail
    go_ret
    exact ⟨rfl, HG3.out.1.setAt nx hnx, HG3.out.2.trans (gset _ _ _ _)⟩
end Go.Proofs.Ytfndlpfceokloaa
end
section
namespace Go.Proofs.YtfndlpfceokloaaB
open Go.RowKit
theorem lstU_bound : ∀ (R : List Int) (l : Nat) (m h c : Nat), 1 ≤ l → (∀ x ∈ R, 0 ≤ x ∧ x ≤ 255) → lebG lstU R l = .ok (m, h, c) → m < 2 ^ l
  | [], l, m, h, c, _, _, e => by simp [lebG] at e
  | x :: r, l, m, h, c, hl, hR, e => by
    have hx := hR x (by simp)
    rw [lebG] at e
    split at e
    · split at e
      next h1 h2 =>
        simp at e
        obtain ⟨rfl, rfl, rfl⟩ := e
        simp only [lstU, Bool.or_eq_true, decide_eq_true_eq] at h2
        rcases h2 with h2 | h2
        · have : 2 ^ 7 ≤ 2 ^ l := Nat.pow_le_pow_right (by omega) (by omega)
          omega
        · rw [Int.toNat_natCast] at h2
          have h3 : ((2 : Int) ^ l) = ((2 ^ l : Nat) : Int) := by rw [Int.natCast_pow]; rfl
          rw [h3] at h2
          omega
      · cases e
    · split at e
      · cases e
      · cases hr : lebG lstU r (l - 7) with
        | error e' => rw [hr] at e; cases e
        | ok y =>
          obtain ⟨m', h', c'⟩ := y
          rw [hr] at e
          simp at e
          have ih := lstU_bound r (l - 7) m' h' c' (by omega) (fun y hy => hR y (by simp [hy])) hr
          obtain ⟨rfl, rfl, rfl⟩ := e
          have h4 : 2 ^ l = 2 ^ (l - 7) * 128 := by rw [show (128 : Nat) = 2 ^ 7 from rfl, ← Nat.pow_add, show l - 7 + 7 = l from by omega]
          omega
end Go.Proofs.YtfndlpfceokloaaB
namespace Go.Proofs.Ytfndlpfceokloaa
open Go.RowKit Go.Shelf YtfndlpfceokloaaB Go.Proofs.YtfndlpfceokloaaW.PrintWords
def u32M (B : List Int) (a : Nat) : Except Int (Nat × Nat) := uintM B a 32
def s32M (B : List Int) (a : Nat) : Except Int (Nat × Nat) := match sintM B a 32 with | .error e => .error e | .ok (n, nx) => .ok (n % 4294967296, nx)
def s64M (B : List Int) (a : Nat) : Except Int (Nat × Nat) := sintM B a 64
theorem u32M_lt {B : List Int} {a n nx : Nat} (hB : Byts B) (h : u32M B a = .ok (n, nx)) : n < 4294967296 ∧ a + 1 ≤ nx ∧ nx ≤ B.length := by
  have h2 := uintM_ok h
  unfold u32M uintM at h
  cases hr : lebG lstU (B.drop a) 32 with
  | error e => rw [hr] at h; cases h
  | ok y =>
    obtain ⟨m, hh, c⟩ := y
    rw [hr] at h
    cases h
    have := lstU_bound _ _ _ _ _ (by omega) (fun x hx => hB.2 x (List.mem_of_mem_drop hx)) hr
    exact ⟨by omega, h2⟩
def rdOf (r : Except Int (Nat × Nat)) (a : Nat) (e : Int) : Int × Nat × Int := if e = 0 then (numV r, numA a r, numE r) else (0, a, e)
theorem rs_num (a : Nat) (r : Except Int (Nat × Nat)) (herr : ∀ e, r = .error e → (e == 0) = false) : rsV (numV r) (numE r) = numV r ∧ rsA a (numA a r) (numE r) = numA a r := by
  rcases r with e | ⟨n, nx⟩
  · have := herr e rfl
    have h : ¬ e = 0 := by simpa using this
    simp [rsV, rsA, numV, numA, numE, h]
  · simp [rsV, rsA, numV, numA, numE]
theorem conv_U32 (B : List Int) (a : Nat) (hB : Byts B) : IntKind.u32.wrap (numV (uintM B a 32)) = numV (u32M B a) ∧ numA a (uintM B a 32) = numA a (u32M B a) ∧ numE (uintM B a 32) = numE (u32M B a) := by
  refine ⟨?_, rfl, rfl⟩
  show IntKind.u32.wrap (numV (u32M B a)) = numV (u32M B a)
  cases h : u32M B a with
  | error e => rfl
  | ok y =>
    obtain ⟨n, nx⟩ := y
    have := u32M_lt hB h
    rw [IntKind.wrap_u32']
    simp only [numV]
    omega
theorem conv_S32 (B : List Int) (a : Nat) (_ : Byts B) : IntKind.u32.wrap (numV (sintM B a 32)) = numV (s32M B a) ∧ numA a (sintM B a 32) = numA a (s32M B a) ∧ numE (sintM B a 32) = numE (s32M B a) := by
  unfold s32M
  cases sintM B a 32 with
  | error e => exact ⟨rfl, rfl, rfl⟩
  | ok y =>
    obtain ⟨n, nx⟩ := y
    refine ⟨?_, rfl, rfl⟩
    rw [IntKind.wrap_u32']
    simp only [numV]
    omega
theorem conv_S64 (B : List Int) (a : Nat) (_ : Byts B) : numV (sintM B a 64) = numV (s64M B a) ∧ numA a (sintM B a 64) = numA a (s64M B a) ∧ numE (sintM B a 64) = numE (s64M B a) := ⟨rfl, rfl, rfl⟩
theorem err_U32 (B : List Int) (a : Nat) : ∀ e, u32M B a = .error e → (e == 0) = false := fun e h => uintM_err h
theorem err_S32 (B : List Int) (a : Nat) : ∀ e, s32M B a = .error e → (e == 0) = false := fun e h => by
  unfold s32M at h
  cases hr : sintM B a 32 with
  | error e' => rw [hr] at h; cases h; exact sintM_err hr
  | ok y => obtain ⟨n, nx⟩ := y; rw [hr] at h; cases h
theorem err_S64 (B : List Int) (a : Nat) : ∀ e, s64M B a = .error e → (e == 0) = false := fun e h => sintM_err h
set_option maxRecDepth 100000 in
theorem U321_any (W : World) (p q r : Nat) (B : List Int) (a : Nat) (hC : Cur W p q B a 0) (hB : Byts B) (hr : W.cell? ⟨r, 0, none⟩ = some (.pointer (some ⟨p, 0, none⟩))) :
    Calls Try.prog 156 #[.pointer (some ⟨r, 0, none⟩)] W fun E w' => E = .returned (.int .u32 (numV (u32M B a))) ∧ Goes W w' p q B (numA a (u32M B a)) (numE (u32M B a)) := by
  have H := Lib.hid (number_any W p q B a 32 _ ent_lU (uintM B a 32) hC (fun W' A c hQ hc => Uint_any W' q A c B a 32 hB hQ hc hC.2.1 (by omega)) (fun n nx h => (uintM_ok h).2) (fun e h => uintM_err h))
  have HV := Lib.hid (conv_U32 B a hB)
  generalize uintM B a 32 = r0 at *
  clear hC hB
  go_enter Try.func156, Try.ntmps156
  go_wp2_with fail
  refine H.out.mono ?_
  rintro E W1 ⟨rfl, hG⟩
  rw [HV.out.2.1, HV.out.2.2] at hG
  have HG := Lib.hid hG
  have HV1 := Lib.hid HV.out.1
  generalize numV r0 = v0 at *
  clear hG H HV
  go_wp2_with fail
  go_ret
  rw [← HV1.out]
  exact ⟨rfl, HG.out⟩
set_option maxRecDepth 100000 in
theorem U32_any (W : World) (p q : Nat) (B : List Int) (a : Nat) (e : Int) (hC : Cur W p q B a e) (hB : Byts B) :
    Calls Try.prog 133 #[.pointer (some ⟨p, 0, none⟩)] W fun E w' => E = .returned (.int .u32 (rdOf (u32M B a) a e).1) ∧ Goes W w' p q B (rdOf (u32M B a) a e).2.1 (rdOf (u32M B a) a e).2.2 := by
  have hC2 := hC.alloc (.cells #[.pointer (some ⟨p, 0, none⟩)] 144)
  by_cases he : e = 0
  · subst he
    have H := Lib.hid (reads_uint32 _ p q B a _ ent_U321 #[.pointer (some ⟨W.heap.size, 0, none⟩)] _ _ _ hC2 (U321_any _ p q W.heap.size B a hC2 hB (by rw [(Blk.new W #[.pointer (some ⟨p, 0, none⟩)] 144).cell 0]; rfl)))
    have HR := Lib.hid (rs_num a (u32M B a) (err_U32 B a))
    have HV := Lib.hid (show rdOf (u32M B a) a 0 = (numV (u32M B a), numA a (u32M B a), numE (u32M B a)) from rfl)
    clear hC hC2 hB
    go_enter Try.func133, Try.ntmps133
    go_wp2_with fail
    refine H.out.mono ?_
    rintro E W1 ⟨rfl, hG⟩
    rw [HR.out.1]
    rw [HR.out.2] at hG
    have HG := Lib.hid hG
    clear hG H HR
    go_wp2_with fail
    go_ret
    rw [HV.out]
    exact ⟨rfl, HG.out.of_alloc⟩
  · have H := Lib.hid (reads_bad_uint32 _ p q B a e (.func (.func 156) #[] #[.pointer (some ⟨W.heap.size, 0, none⟩)]) hC2 (beq_eq_false_iff_ne.2 he))
    have HV := Lib.hid (show rdOf (u32M B a) a e = (0, a, e) from by simp [rdOf, he])
    have HG := Lib.hid (Goes.of_alloc (Goes.same hC2))
    clear hC hC2 hB he
    go_enter Try.func133, Try.ntmps133
    go_wp2_with fail
    refine H.out.mono ?_
    rintro E W1 ⟨rfl, rfl⟩
    go_wp2_with fail
    go_ret
    rw [HV.out]
    exact ⟨rfl, HG.out⟩
set_option maxRecDepth 100000 in
theorem S321_any (W : World) (p q r : Nat) (B : List Int) (a : Nat) (hC : Cur W p q B a 0) (hB : Byts B) (hr : W.cell? ⟨r, 0, none⟩ = some (.pointer (some ⟨p, 0, none⟩))) :
    Calls Try.prog 160 #[.pointer (some ⟨r, 0, none⟩)] W fun E w' => E = .returned (.int .u32 (numV (s32M B a))) ∧ Goes W w' p q B (numA a (s32M B a)) (numE (s32M B a)) := by
  have H := Lib.hid (number_any W p q B a 32 _ ent_lS (sintM B a 32) hC (fun W' A c hQ hc => Sint_any W' q A c B a 32 hB hQ hc hC.2.1 (by omega)) (fun n nx h => (sintM_ok h).2) (fun e h => sintM_err h))
  have HV := Lib.hid (conv_S32 B a hB)
  generalize sintM B a 32 = r0 at *
  clear hC hB
  go_enter Try.func160, Try.ntmps160
  go_wp2_with fail
  refine H.out.mono ?_
  rintro E W1 ⟨rfl, hG⟩
  rw [HV.out.2.1, HV.out.2.2] at hG
  have HG := Lib.hid hG
  have HV1 := Lib.hid HV.out.1
  generalize numV r0 = v0 at *
  clear hG H HV
  go_wp2_with fail
  go_ret
  rw [← HV1.out]
  exact ⟨rfl, HG.out⟩
set_option maxRecDepth 100000 in
theorem S32_any (W : World) (p q : Nat) (B : List Int) (a : Nat) (e : Int) (hC : Cur W p q B a e) (hB : Byts B) :
    Calls Try.prog 136 #[.pointer (some ⟨p, 0, none⟩)] W fun E w' => E = .returned (.int .u32 (rdOf (s32M B a) a e).1) ∧ Goes W w' p q B (rdOf (s32M B a) a e).2.1 (rdOf (s32M B a) a e).2.2 := by
  have hC2 := hC.alloc (.cells #[.pointer (some ⟨p, 0, none⟩)] 144)
  by_cases he : e = 0
  · subst he
    have H := Lib.hid (reads_uint32 _ p q B a _ ent_S321 #[.pointer (some ⟨W.heap.size, 0, none⟩)] _ _ _ hC2 (S321_any _ p q W.heap.size B a hC2 hB (by rw [(Blk.new W #[.pointer (some ⟨p, 0, none⟩)] 144).cell 0]; rfl)))
    have HR := Lib.hid (rs_num a (s32M B a) (err_S32 B a))
    have HV := Lib.hid (show rdOf (s32M B a) a 0 = (numV (s32M B a), numA a (s32M B a), numE (s32M B a)) from rfl)
    clear hC hC2 hB
    go_enter Try.func136, Try.ntmps136
    go_wp2_with fail
    refine H.out.mono ?_
    rintro E W1 ⟨rfl, hG⟩
    rw [HR.out.1]
    rw [HR.out.2] at hG
    have HG := Lib.hid hG
    clear hG H HR
    go_wp2_with fail
    go_ret
    rw [HV.out]
    exact ⟨rfl, HG.out.of_alloc⟩
  · have H := Lib.hid (reads_bad_uint32 _ p q B a e (.func (.func 160) #[] #[.pointer (some ⟨W.heap.size, 0, none⟩)]) hC2 (beq_eq_false_iff_ne.2 he))
    have HV := Lib.hid (show rdOf (s32M B a) a e = (0, a, e) from by simp [rdOf, he])
    have HG := Lib.hid (Goes.of_alloc (Goes.same hC2))
    clear hC hC2 hB he
    go_enter Try.func136, Try.ntmps136
    go_wp2_with fail
    refine H.out.mono ?_
    rintro E W1 ⟨rfl, rfl⟩
    go_wp2_with fail
    go_ret
    rw [HV.out]
    exact ⟨rfl, HG.out⟩
set_option maxRecDepth 100000 in
theorem S641_any (W : World) (p q r : Nat) (B : List Int) (a : Nat) (hC : Cur W p q B a 0) (hB : Byts B) (hr : W.cell? ⟨r, 0, none⟩ = some (.pointer (some ⟨p, 0, none⟩))) :
    Calls Try.prog 163 #[.pointer (some ⟨r, 0, none⟩)] W fun E w' => E = .returned (.int .u64 (numV (s64M B a))) ∧ Goes W w' p q B (numA a (s64M B a)) (numE (s64M B a)) := by
  have H := Lib.hid (number_any W p q B a 64 _ ent_lS (sintM B a 64) hC (fun W' A c hQ hc => Sint_any W' q A c B a 64 hB hQ hc hC.2.1 (by omega)) (fun n nx h => (sintM_ok h).2) (fun e h => sintM_err h))
  have HV := Lib.hid (conv_S64 B a hB)
  generalize sintM B a 64 = r0 at *
  clear hC hB
  go_enter Try.func163, Try.ntmps163
  go_wp2_with fail
  refine H.out.mono ?_
  rintro E W1 ⟨rfl, hG⟩
  rw [HV.out.2.1, HV.out.2.2] at hG
  have HG := Lib.hid hG
  have HV1 := Lib.hid HV.out.1
  generalize numV r0 = v0 at *
  clear hG H HV
  go_wp2_with fail
  go_ret
  rw [← HV1.out]
  exact ⟨rfl, HG.out⟩
set_option maxRecDepth 100000 in
theorem S64_any (W : World) (p q : Nat) (B : List Int) (a : Nat) (e : Int) (hC : Cur W p q B a e) (hB : Byts B) :
    Calls Try.prog 137 #[.pointer (some ⟨p, 0, none⟩)] W fun E w' => E = .returned (.int .u64 (rdOf (s64M B a) a e).1) ∧ Goes W w' p q B (rdOf (s64M B a) a e).2.1 (rdOf (s64M B a) a e).2.2 := by
  have hC2 := hC.alloc (.cells #[.pointer (some ⟨p, 0, none⟩)] 144)
  by_cases he : e = 0
  · subst he
    have H := Lib.hid (reads_uint64 _ p q B a _ ent_S641 #[.pointer (some ⟨W.heap.size, 0, none⟩)] _ _ _ hC2 (S641_any _ p q W.heap.size B a hC2 hB (by rw [(Blk.new W #[.pointer (some ⟨p, 0, none⟩)] 144).cell 0]; rfl)))
    have HR := Lib.hid (rs_num a (s64M B a) (err_S64 B a))
    have HV := Lib.hid (show rdOf (s64M B a) a 0 = (numV (s64M B a), numA a (s64M B a), numE (s64M B a)) from rfl)
    clear hC hC2 hB
    go_enter Try.func137, Try.ntmps137
    go_wp2_with fail
    refine H.out.mono ?_
    rintro E W1 ⟨rfl, hG⟩
    rw [HR.out.1]
    rw [HR.out.2] at hG
    have HG := Lib.hid hG
    clear hG H HR
    go_wp2_with fail
    go_ret
    rw [HV.out]
    exact ⟨rfl, HG.out.of_alloc⟩
  · have H := Lib.hid (reads_bad_uint64 _ p q B a e (.func (.func 163) #[] #[.pointer (some ⟨W.heap.size, 0, none⟩)]) hC2 (beq_eq_false_iff_ne.2 he))
    have HV := Lib.hid (show rdOf (s64M B a) a e = (0, a, e) from by simp [rdOf, he])
    have HG := Lib.hid (Goes.of_alloc (Goes.same hC2))
    clear hC hC2 hB he
    go_enter Try.func137, Try.ntmps137
    go_wp2_with fail
    refine H.out.mono ?_
    rintro E W1 ⟨rfl, rfl⟩
    go_wp2_with fail
    go_ret
    rw [HV.out]
    exact ⟨rfl, HG.out⟩
end Go.Proofs.Ytfndlpfceokloaa
end
section
namespace Go.Proofs.YtfndlpfceokloaaB
open Go.RowKit
/-- A number out of its bytes, the least first. -/
def leN : List Int → Nat | [] => 0 | x :: r => x.toNat + 256 * leN r
theorem leN_snoc (l : List Int) (x : Int) : leN (l ++ [x]) = leN l + x.toNat * 2 ^ (8 * l.length) := by
  induction l with
  | nil => simp [leN]
  | cons y l ih =>
    rw [List.cons_append, leN, leN, ih, List.length_cons, show 8 * (l.length + 1) = 8 * l.length + 8 from by omega, Nat.pow_add, show (2 : Nat) ^ 8 = 256 from rfl, Nat.mul_add, Nat.add_assoc, Nat.mul_comm (2 ^ (8 * l.length)) 256, ← Nat.mul_assoc, ← Nat.mul_assoc, Nat.mul_comm x.toNat 256]
theorem leN_lt : ∀ (l : List Int), (∀ x ∈ l, 0 ≤ x ∧ x ≤ 255) → leN l < 2 ^ (8 * l.length)
  | [], _ => by simp [leN]
  | y :: l, h => by
    have ih := leN_lt l (fun x hx => h x (by simp [hx]))
    have hy := h y (by simp)
    rw [leN, List.length_cons, show 8 * (l.length + 1) = 8 + 8 * l.length from by omega, Nat.pow_add, show (2 : Nat) ^ 8 = 256 from rfl]
    omega
theorem le_or (n k : Nat) (x : Nat) (hx : x < 256) (hk : k ≤ 7) (hn : n < 2 ^ (8 * k)) : bits .or .u64 (n : Int) (IntKind.u64.wrap ((x : Int) * 2 ^ (8 * k))) = ((n + x * 2 ^ (8 * k) : Nat) : Int) := by
  have h1 : 2 ^ (8 * k) ≤ 2 ^ 56 := Nat.pow_le_pow_right (by omega) (by omega)
  have h2 : x * 2 ^ (8 * k) ≤ 255 * 2 ^ (8 * k) := Nat.mul_le_mul_right _ (by omega)
  have hd : (x * 2 ^ (8 * k)) % 2 ^ (8 * k) = 0 := Nat.mul_mod_left _ _
  have e : IntKind.u64.wrap ((x : Int) * 2 ^ (8 * k)) = ((x * 2 ^ (8 * k) : Nat) : Int) := by
    have : (x : Int) * 2 ^ (8 * k) = ((x * 2 ^ (8 * k) : Nat) : Int) := by rw [Int.natCast_mul, Int.natCast_pow]; rfl
    rw [this, IntKind.wrap_u64]
    omega
  rw [e]
  generalize hy : x * 2 ^ (8 * k) = y at *
  generalize ht : 2 ^ (8 * k) = t at *
  rw [u64_or_nat _ _ (by omega) (by omega), Nat.or_comm]
  subst ht
  rw [nat_join (8 * k) y n hd hn, Nat.add_comm]
end Go.Proofs.YtfndlpfceokloaaB
namespace Go.Proofs.Ytfndlpfceokloaa
open Go.RowKit Go.Shelf YtfndlpfceokloaaB Go.Proofs.YtfndlpfceokloaaW.PrintWords
def fixM (B : List Int) (a n : Nat) : Except Int (Nat × Nat) := if a + n ≤ B.length then .ok (leN ((B.drop a).take n), a + n) else .error 100
def countM (B : List Int) (a : Nat) : Except Int (Nat × Nat) := match u32M B a with | .error e => .error e | .ok (n, nx) => if n > 4096 then .error 3 else .ok (n, nx)
def amongM (B : List Int) (a : Nat) (L : List Int) (e : Int) : Except Int (Nat × Nat) := match B[a]? with | none => .error 100 | some x => if x ∈ L then .ok (x.toNat, a + 1) else .error e
set_option maxRecDepth 100000 in
set_option maxHeartbeats 1000000 in
theorem Fixed1_any (W : World) (p q r s : Nat) (B : List Int) (a n : Nat) (hn : n = 4 ∨ n = 8) (hC : Cur W p q B a 0) (hB : Byts B) (hr : W.cell? ⟨r, 0, none⟩ = some (.pointer (some ⟨p, 0, none⟩))) (hs : W.cell? ⟨s, 0, none⟩ = some (.int .i64 n)) :
    Calls Try.prog 164 #[.pointer (some ⟨s, 0, none⟩), .pointer (some ⟨r, 0, none⟩)] W fun E w' => E = .returned (.int .u64 (numV (fixM B a n))) ∧ Goes W w' p q B (numA a (fixM B a n)) (numE (fixM B a n)) := by
  have hl := hB.1
  by_cases hle : a + n ≤ B.length
  · have HT := Lib.hid (take_yes W p q B a n hC hB hle)
    have HV := Lib.hid (show fixM B a n = .ok (leN ((B.drop a).take n), a + n) from if_pos hle)
    have hL : ((B.drop a).take n).length = n := by rw [List.length_take, List.length_drop]; omega
    have hLb : ∀ x ∈ (B.drop a).take n, 0 ≤ x ∧ x ≤ 255 := fun x hx => hB.2 x (List.mem_of_mem_drop (List.mem_of_mem_take hx))
    generalize (B.drop a).take n = Z at *
    have HL := Lib.hid hL
    have HLb := Lib.hid hLb
    clear hL hLb hC hB
    have hn8 : n ≤ 8 := by omega
    rcases hn with rfl | rfl
    all_goals
      go_enter Try.func164, Try.ntmps164
      go_wp2_with fail
      refine HT.out.mono ?_
      rintro E W1 ⟨⟨A', c', rfl, hq⟩, hG⟩
      have HG := Lib.hid hG
      have HQ := Lib.hid hq
      clear hG hq HT
      go_wp2_with fail
      go_loop [3, 25] (fun u k => ∃ j : Nat, j ≤ Z.length ∧ k = .int .i64 j ∧ u = .int .u64 (leN (Z.take j))) (fun _ k => Z.length - (intOf k).toNat)
      case atStart => exact ⟨0, Nat.zero_le _, rfl, rfl⟩
      case round =>
        obtain ⟨j, hj, rfl, rfl⟩ := hrel
        have hj8 : (j : Int) ≤ 8 := by have := HL.out; omega
        by_cases hlt : j < Z.length
        · obtain ⟨o, x, rfl, hx, hc⟩ := HQ.out.at_ j hlt
          have hxb := HLb.out x (List.mem_of_getElem? hx.out)
          have hx0 := hxb.1
          have hx1 := hxb.2
          have hlt2 : (j : Int) < (Z.length : Int) := by omega
          rw [HL.out] at hlt2
          have HT2 := Lib.hid (show leN (Z.take (j + 1)) = leN (Z.take j) + x.toNat * 2 ^ (8 * j) from by
            rw [List.take_add_one, hx.out]
            have := leN_snoc (Z.take j) x
            rw [List.length_take, Nat.min_eq_left (by omega)] at this
            exact this)
          have HB2 := Lib.hid (show leN (Z.take j) < 2 ^ (8 * j) from by
            have := leN_lt (Z.take j) (fun y hy => HLb.out y (List.mem_of_mem_take hy))
            rw [List.length_take, Nat.min_eq_left (by omega)] at this
            exact this)
          clear hxb
          generalize leN (Z.take j) = v at *
          go_wp2_with fail
          go_round
          case rel =>
            refine ⟨j + 1, by omega, by go_num, ?_⟩
            have h3 := le_or v j x.toNat (by omega) (by have := HL.out; omega) HB2.out
            rw [Int.toNat_of_nonneg hx0] at h3
            rw [HT2.out, h3]
          case measure => simp [intOf]; omega
        · obtain rfl : j = Z.length := by omega
          have HV2 := Lib.hid (show leN (Z.take Z.length) = leN Z from by rw [List.take_length])
          generalize leN (Z.take Z.length) = v at *
          have hge := Int.le_of_eq (congrArg (fun n : Nat => (n : Int)) HL.out.symm)
          go_wp2_with fail
          go_ret
          rw [HV.out, HV2.out.symm]
          exact ⟨rfl, HG.out⟩
  · have HT := Lib.hid (take_no W p q B a n hC hB (by omega) (by omega))
    have HV := Lib.hid (show fixM B a n = .error 100 from if_neg hle)
    clear hC hB
    rcases hn with rfl | rfl
    all_goals
      go_enter Try.func164, Try.ntmps164
      go_wp2_with fail
      refine HT.out.mono ?_
      rintro E W1 ⟨rfl, hG⟩
      have HG := Lib.hid hG
      clear hG HT
      go_wp2_with fail
      go_loop [3, 25] (fun u k => u = .int .u64 0 ∧ k = .int .i64 0) (fun _ k => 0)
      case atStart => exact ⟨rfl, rfl⟩
      case round =>
        obtain ⟨rfl, rfl⟩ := hrel
        go_wp2_with fail
        go_ret
        rw [HV.out]
        exact ⟨rfl, HG.out⟩
end Go.Proofs.Ytfndlpfceokloaa
end
section
namespace Go.Proofs.Ytfndlpfceokloaa
open Go.RowKit Go.Shelf YtfndlpfceokloaaB Go.Proofs.YtfndlpfceokloaaW.PrintWords
theorem fixM_ok {B : List Int} {a n m nx : Nat} (h : fixM B a n = .ok (m, nx)) : nx = a + n ∧ nx ≤ B.length := by
  unfold fixM at h
  split at h
  · cases h; exact ⟨rfl, by assumption⟩
  · cases h
theorem fixM_err {B : List Int} {a n : Nat} : ∀ e, fixM B a n = .error e → (e == 0) = false := fun e h => by
  unfold fixM at h
  split at h
  · cases h
  · cases h; rfl
theorem countM_err {B : List Int} {a : Nat} : ∀ e, countM B a = .error e → (e == 0) = false := fun e h => by
  unfold countM at h
  cases hr : u32M B a with
  | error e' => rw [hr] at h; cases h; exact err_U32 B a _ hr
  | ok y =>
    obtain ⟨n, nx⟩ := y
    rw [hr] at h
    simp only at h
    split at h
    · cases h; rfl
    · cases h
theorem countM_ok {B : List Int} {a n nx : Nat} (hB : Byts B) (h : countM B a = .ok (n, nx)) : n ≤ 4096 ∧ a + 1 ≤ nx ∧ nx ≤ B.length := by
  unfold countM at h
  cases hr : u32M B a with
  | error e' => rw [hr] at h; cases h
  | ok y =>
    obtain ⟨n, nx⟩ := y
    rw [hr] at h
    simp only at h
    split at h
    · cases h
    · cases h
      exact ⟨by omega, (u32M_lt hB hr).2⟩
set_option maxRecDepth 100000 in
theorem Fixed_any (W : World) (p q : Nat) (B : List Int) (a n : Nat) (e : Int) (hn : n = 4 ∨ n = 8) (hC : Cur W p q B a e) (hB : Byts B) :
    Calls Try.prog 138 #[.pointer (some ⟨p, 0, none⟩), .int .i64 n] W fun E w' => E = .returned (.int .u64 (rdOf (fixM B a n) a e).1) ∧ Goes W w' p q B (rdOf (fixM B a n) a e).2.1 (rdOf (fixM B a n) a e).2.2 := by
  have hC2 := (hC.alloc (.cells #[.pointer (some ⟨p, 0, none⟩)] 144)).alloc (.cells #[.int .i64 n] 3)
  have b1 := (Blk.new W #[.pointer (some ⟨p, 0, none⟩)] 144).alloc (.cells #[.int .i64 n] 3)
  have b2 := Blk.new (W.alloc (.cells #[.pointer (some ⟨p, 0, none⟩)] 144)) #[.int .i64 n] 3
  rw [World.size_alloc] at b2
  by_cases he : e = 0
  · subst he
    have H := Lib.hid (reads_uint64 _ p q B a _ ent_Fixed1 #[.pointer (some ⟨W.heap.size + 1, 0, none⟩), .pointer (some ⟨W.heap.size, 0, none⟩)] _ _ _ hC2 (Fixed1_any _ p q W.heap.size (W.heap.size + 1) B a n hn hC2 hB (by rw [b1.cell]; rfl) (by rw [b2.cell]; rfl)))
    have HR := Lib.hid (rs_num a (fixM B a n) fixM_err)
    have HV := Lib.hid (show rdOf (fixM B a n) a 0 = (numV (fixM B a n), numA a (fixM B a n), numE (fixM B a n)) from rfl)
    clear hC hC2 hB b1 b2
    go_enter Try.func138, Try.ntmps138
    go_wp2_with fail
    refine H.out.mono ?_
    rintro E W1 ⟨rfl, hG⟩
    rw [HR.out.1]
    rw [HR.out.2] at hG
    have HG := Lib.hid hG
    clear hG H HR
    go_wp2_with fail
    go_ret
    rw [HV.out]
    exact ⟨rfl, HG.out.of_alloc.of_alloc⟩
  · have H := Lib.hid (reads_bad_uint64 _ p q B a e (.func (.func 164) #[] #[.pointer (some ⟨W.heap.size + 1, 0, none⟩), .pointer (some ⟨W.heap.size, 0, none⟩)]) hC2 (beq_eq_false_iff_ne.2 he))
    have HV := Lib.hid (show rdOf (fixM B a n) a e = (0, a, e) from by simp [rdOf, he])
    have HG := Lib.hid (Goes.of_alloc (Goes.of_alloc (Goes.same hC2)))
    clear hC hC2 hB he b1 b2
    go_enter Try.func138, Try.ntmps138
    go_wp2_with fail
    refine H.out.mono ?_
    rintro E W1 ⟨rfl, rfl⟩
    go_wp2_with fail
    go_ret
    rw [HV.out]
    exact ⟨rfl, HG.out⟩
set_option maxRecDepth 100000 in
theorem Count1_any (W : World) (p q r : Nat) (B : List Int) (a : Nat) (hC : Cur W p q B a 0) (hB : Byts B) (hrp : r ≠ p) (hr : W.cell? ⟨r, 0, none⟩ = some (.pointer (some ⟨p, 0, none⟩))) :
    Calls Try.prog 177 #[.pointer (some ⟨r, 0, none⟩)] W fun E w' => (∃ v nx, E = .returned (.int .i64 v) ∧ (numE (countM B a) = 0 → v = numV (countM B a) ∧ nx = numA a (countM B a)) ∧ Goes W w' p q B nx (numE (countM B a))) := by
  have H := Lib.hid (U32_any W p q B a 0 hC hB)
  have hrlt := World.block_lt_of_cell? _ _ hr
  cases hu : u32M B a with
  | error e =>
    have he := err_U32 B a e hu
    have HV := Lib.hid (show countM B a = .error e from by unfold countM; rw [hu])
    have HU := Lib.hid hu
    clear hu hC hB he
    go_enter Try.func177, Try.ntmps177
    go_wp2_with fail
    refine H.out.mono ?_
    rw [HU.out]
    rintro E W1 ⟨rfl, hG⟩
    have HG := Lib.hid hG
    clear hG H
    simp only [rdOf, numV, if_pos]
    go_wp2_with fail
    go_ret
    rw [HV.out]
    exact ⟨0, a, rfl, fun _ => ⟨rfl, rfl⟩, HG.out⟩
  | ok y =>
    obtain ⟨n, nx⟩ := y
    have hlt := u32M_lt hB hu
    have hn := hlt.1
    by_cases hbig : n > 4096
    · have HV := Lib.hid (show countM B a = .error 3 from by unfold countM; rw [hu]; exact if_pos hbig)
      have HU := Lib.hid hu
      have hbig2 : (4096 : Int) < (n : Int) := by omega
      clear hu hC hB hlt hbig
      go_enter Try.func177, Try.ntmps177
      go_wp2_with fail
      refine H.out.mono ?_
      rw [HU.out]
      rintro E W1 ⟨rfl, hG⟩
      have hG' : Goes W W1 p q B nx 0 := hG
      have HG := Lib.hid hG'
      have r1 : W1.cell? ⟨r, 0, none⟩ = some (.pointer (some ⟨p, 0, none⟩)) := (World.cell?_of_block (hG'.2.block r hrlt (by simpa using hrp))).trans hr
      obtain ⟨A, k, d0, d1, d2, l0, l1, l2, gle, gq, glt, ga⟩ := hG'.1.cells
      clear hG hG' H gq
      simp only [rdOf, numV, if_pos]
      go_wp2_with fail
      go_still_tail 8, (by kernel_rfl)
      change wpList _ _ _ _ _ W1.drew
      have HD := Lib.hid (Goes.trans HG.out (Goes.drewN HG.out.1 1))
      have HDC := Lib.hid (show Cur W1.drew p q B nx 0 from HD.out.1)
      have HG2 := Lib.hid (show W.grownBy W1.drew (some p) from HD.out.2)
      clear HD
      generalize W1.drew = W2 at *
      go_wp2_with fail
      refine (fail_yes _ _ _ _ _ _ _ HDC.out rfl ga).mono ?_
      rintro E w' ⟨rfl, hG⟩
      have HGo := Lib.hid hG
      clear hG
      go_wp2_with fail
      go_ret
      rw [HV.out]
      exact ⟨n, nx, rfl, (fun h => (by cases h)), HGo.out.1, HG2.out.trans HGo.out.2⟩
    · have HV := Lib.hid (show countM B a = .ok (n, nx) from by unfold countM; rw [hu]; exact if_neg hbig)
      have HU := Lib.hid hu
      have hbig2 : (n : Int) ≤ 4096 := by omega
      clear hu hC hB hlt hbig
      go_enter Try.func177, Try.ntmps177
      go_wp2_with fail
      refine H.out.mono ?_
      rw [HU.out]
      rintro E W1 ⟨rfl, hG⟩
      have HG := Lib.hid hG
      clear hG H
      simp only [rdOf, numV, if_pos]
      go_wp2_with fail
      go_ret
      rw [HV.out]
      exact ⟨n, nx, rfl, fun _ => ⟨rfl, rfl⟩, HG.out⟩
set_option maxRecDepth 100000 in
theorem Count_any (W : World) (p q : Nat) (B : List Int) (a : Nat) (e : Int) (hC : Cur W p q B a e) (hB : Byts B) :
    Calls Try.prog 159 #[.pointer (some ⟨p, 0, none⟩)] W fun E w' => E = .returned (.int .i64 (rdOf (countM B a) a e).1) ∧ Goes W w' p q B (rdOf (countM B a) a e).2.1 (rdOf (countM B a) a e).2.2 := by
  have hC2 := hC.alloc (.cells #[.pointer (some ⟨p, 0, none⟩)] 144)
  have hplt := hC.lt
  by_cases he : e = 0
  · subst he
    have H := Lib.hid (reads_ex_int _ p q B a _ ent_Count1 #[.pointer (some ⟨W.heap.size, 0, none⟩)] (fun v nx => numE (countM B a) = 0 → v = numV (countM B a) ∧ nx = numA a (countM B a)) (numE (countM B a)) hC2 (Count1_any _ p q W.heap.size B a hC2 hB (by omega) (by rw [(Blk.new W #[.pointer (some ⟨p, 0, none⟩)] 144).cell 0]; rfl)))
    have HR := Lib.hid (rs_num a (countM B a) countM_err)
    have HV := Lib.hid (show rdOf (countM B a) a 0 = (numV (countM B a), numA a (countM B a), numE (countM B a)) from rfl)
    clear hC hC2 hB
    go_enter Try.func159, Try.ntmps159
    go_wp2_with fail
    refine H.out.mono ?_
    rintro E W1 ⟨v, nx, hv, rfl, hG⟩
    have hvv : rsV v (numE (countM B a)) = numV (countM B a) ∧ rsA a nx (numE (countM B a)) = numA a (countM B a) := by
      by_cases h0 : numE (countM B a) = 0
      · obtain ⟨rfl, rfl⟩ := hv h0
        exact HR.out
      · have h1 := HR.out
        simp only [rsV, rsA, if_neg h0] at h1 ⊢
        exact h1
    rw [hvv.1]
    rw [hvv.2] at hG
    have HG := Lib.hid hG
    clear hG H HR hvv hv
    go_wp2_with fail
    go_ret
    rw [HV.out]
    exact ⟨rfl, HG.out.of_alloc⟩
  · have H := Lib.hid (reads_bad_int _ p q B a e (.func (.func 177) #[] #[.pointer (some ⟨W.heap.size, 0, none⟩)]) hC2 (beq_eq_false_iff_ne.2 he))
    have HV := Lib.hid (show rdOf (countM B a) a e = (0, a, e) from by simp [rdOf, he])
    have HG := Lib.hid (Goes.of_alloc (Goes.same hC2))
    clear hC hC2 hB he
    go_enter Try.func159, Try.ntmps159
    go_wp2_with fail
    refine H.out.mono ?_
    rintro E W1 ⟨rfl, rfl⟩
    go_wp2_with fail
    go_ret
    rw [HV.out]
    exact ⟨rfl, HG.out⟩
end Go.Proofs.Ytfndlpfceokloaa
end
section
namespace Go.Proofs.Ytfndlpfceokloaa
open Go.RowKit Go.Shelf YtfndlpfceokloaaB Go.Proofs.YtfndlpfceokloaaW.PrintWords
theorem amongM_err {B : List Int} {a : Nat} {L : List Int} {e0 : Int} (h0 : (e0 == 0) = false) : ∀ e, amongM B a L e0 = .error e → (e == 0) = false := fun e h => by
  unfold amongM at h
  split at h
  · cases h; rfl
  · split at h
    · cases h
    · cases h; exact h0
theorem amongM_ok {B : List Int} {a : Nat} {L : List Int} {e0 : Int} {n nx : Nat} (h : amongM B a L e0 = .ok (n, nx)) : (n : Int) ∈ L ∨ True := .inr trivial
/-- What a closure over a list of bytes answers. -/
def AmPost (W : World) (p q : Nat) (B : List Int) (r : Except Int (Nat × Nat)) (a : Nat) (E : Ending) (w' : World) : Prop :=
  ∃ v nx, E = .returned (.int .u8 v) ∧ (numE r = 0 → v = numV r ∧ nx = numA a r) ∧ Goes W w' p q B nx (numE r)
set_option maxRecDepth 100000 in
set_option maxHeartbeats 1000000 in
theorem among1_any (W : World) (p q r s u ql : Nat) (B : List Int) (a : Nat) (e0 : Int) (AL : Option Addr) (cL : Nat) (L : List Int) (hC : Cur W p q B a 0) (hB : Byts B) (h0 : (e0 == 0) = false) (hrp : r ≠ p) (hsp : s ≠ p) (hup : u ≠ p) (hqp : ql ≠ p)
    (hr : W.cell? ⟨r, 0, none⟩ = some (.pointer (some ⟨p, 0, none⟩))) (hs : W.cell? ⟨s, 0, none⟩ = some (.slice AL L.length cL)) (hu : W.cell? ⟨u, 0, none⟩ = some (.int .i64 e0)) (hL : ByQ W ql AL L) (hLl : L.length ≤ 100) :
    Calls Try.prog 182 #[.pointer (some ⟨r, 0, none⟩), .pointer (some ⟨s, 0, none⟩), .pointer (some ⟨u, 0, none⟩)] W (AmPost W p q B (amongM B a L e0) a) := by
  have H := Lib.hid (Byte_any W p q B a 0 hC hB)
  have hrlt := World.block_lt_of_cell? _ _ hr
  have hslt := World.block_lt_of_cell? _ _ hs
  have hult := World.block_lt_of_cell? _ _ hu
  obtain ⟨b, hb⟩ : ∃ b, b = (rdByte B a 0).1 := ⟨_, rfl⟩
  obtain ⟨a1, ha1⟩ : ∃ a1, a1 = (rdByte B a 0).2.1 := ⟨_, rfl⟩
  obtain ⟨e1, he1⟩ : ∃ e1, e1 = (rdByte B a 0).2.2 := ⟨_, rfl⟩
  rw [← hb, ← ha1, ← he1] at H
  have hcase : (e1 = 0 ∧ (amongM B a L e0 = if b ∈ L then .ok (b.toNat, a + 1) else .error e0) ∧ a1 = a + 1 ∧ 0 ≤ b) ∨ (e1 = 100 ∧ amongM B a L e0 = .error 100) := by
    unfold rdByte at hb ha1 he1
    unfold amongM
    cases hx : B[a]? with
    | none => rw [hx] at he1; exact .inr ⟨by simpa using he1, rfl⟩
    | some x =>
      rw [hx] at hb ha1 he1
      simp at hb ha1 he1
      subst hb
      exact .inl ⟨he1, rfl, ha1, (hB.get hx).1⟩
  have HC := Lib.hid hcase
  have H0 := Lib.hid h0
  clear hb ha1 he1 hC hB hcase h0
  go_enter Try.func182, Try.ntmps182
  go_wp2_with fail
  refine H.out.mono ?_
  rintro E W1 ⟨rfl, hG⟩
  have hk : ∀ k, k < W.heap.size → k ≠ p → W1.heap[k]? = W.heap[k]? := fun k h1 h2 => hG.2.block k h1 (by simpa using h2)
  have r1 : W1.cell? ⟨r, 0, none⟩ = some (.pointer (some ⟨p, 0, none⟩)) := (World.cell?_of_block (hk r hrlt hrp)).trans hr
  have s1 : W1.cell? ⟨s, 0, none⟩ = some (.slice AL L.length cL) := (World.cell?_of_block (hk s hslt hsp)).trans hs
  have u1 : W1.cell? ⟨u, 0, none⟩ = some (.int .i64 e0) := (World.cell?_of_block (hk u hult hup)).trans hu
  have HL1 := Lib.hid (hL.grown hG.2 (by simpa using hqp))
  obtain ⟨A, k, d0, d1, d2, l0, l1, l2, gle, gq, glt, ga⟩ := hG.1.cells
  have HG := Lib.hid hG
  clear hG hk H gq hL hr hs hu
  go_wp2_with fail
  go_loop [6, 11] (fun _ k => ∃ j : Nat, j ≤ L.length ∧ k = .int .i64 j ∧ Hid (∀ y ∈ L.take j, ¬ y = b)) (fun _ k => L.length - (intOf k).toNat)
  case atStart => exact ⟨0, Nat.zero_le _, rfl, by intro y hy; simp at hy⟩
  case round =>
    obtain ⟨j, hj, rfl, hno⟩ := hrel
    by_cases hlt : j < L.length
    · obtain ⟨o, x, rfl, hx, hc⟩ := HL1.out.at_ j hlt
      by_cases hxb : x = b
      · have hxb2 : (x == b) = true := by simpa using hxb
        have HM := Lib.hid (show b ∈ L from by rw [← hxb]; exact List.mem_of_getElem? hx.out)
        clear hxb
        go_wp2_with fail
        go_ret
        rcases HC.out with ⟨rfl, h1, rfl, h3⟩ | ⟨rfl, h1⟩
        · rw [h1, if_pos HM.out]
          exact ⟨b, a + 1, rfl, fun _ => ⟨(Int.toNat_of_nonneg h3).symm, rfl⟩, HG.out⟩
        · rw [h1]
          exact ⟨b, a1, rfl, (fun h => (by cases h)), HG.out⟩
      · have hxb2 : (x == b) = false := by simpa using hxb
        have HN := Lib.hid (take_all_succ hno.out hx.out hxb)
        clear hxb
        go_wp2_with fail
        go_round
        case rel => exact ⟨j + 1, by omega, by go_num, HN⟩
        case measure => simp [intOf]; omega
    · obtain rfl : j = L.length := by omega
      have HNO := Lib.hid (show ¬ b ∈ L from fun h => by have := hno.out b; rw [List.take_length] at this; exact this h rfl)
      go_wp2_with fail
      go_still_tail 9, (by kernel_rfl)
      change wpList _ _ _ _ _ W1.drew
      have HD := Lib.hid (Goes.trans HG.out (Goes.drewN HG.out.1 1))
      have HDC := Lib.hid (show Cur W1.drew p q B a1 e1 from HD.out.1)
      have HG2 := Lib.hid (show W.grownBy W1.drew (some p) from HD.out.2)
      have HF := Lib.hid (show ∀ X, Cur X p q B a1 e1 → Calls Try.prog 130 #[.pointer (some ⟨p, 0, none⟩), .int .i64 e0, .int .i64 a1] X fun E w' => E = .returned (.tuple #[]) ∧ Goes X w' p q B a1 (failE e1 e0) from fun X hX => by
        by_cases h0 : e1 = 0
        · subst h0
          rw [failE, if_pos rfl]
          exact fail_yes X p q B a1 a1 e0 hX H0.out ga
        · rw [failE, if_neg h0]
          exact (fail_no X p q B a1 e1 e0 a1 hX (beq_eq_false_iff_ne.2 h0)).mono (by rintro E w' ⟨rfl, rfl⟩; exact ⟨rfl, Goes.same hX⟩))
      clear HD
      generalize W1.drew = W2 at *
      go_wp2_with fail
      refine (HF.out _ HDC.out).mono ?_
      rintro E w' ⟨rfl, hG⟩
      have HGo := Lib.hid hG
      clear hG
      go_wp2_with fail
      go_ret
      have hfin := Goes.trans (⟨HDC.out, HG2.out⟩ : Goes W W2 p q B a1 e1) HGo.out
      have hne := H0.out
      rcases HC.out with ⟨rfl, h1, rfl, h3⟩ | ⟨rfl, h1⟩
      · rw [h1, if_neg HNO.out]
        exact ⟨0, a + 1, rfl, (fun h => (by rw [show numE (Except.error e0) = e0 from rfl] at h; rw [h] at hne; cases hne)), hfin⟩
      · rw [h1]
        exact ⟨0, a1, rfl, (fun h => (by cases h)), hfin⟩
end Go.Proofs.Ytfndlpfceokloaa
end
section
namespace Go.Proofs.Ytfndlpfceokloaa
open Go.RowKit Go.Shelf YtfndlpfceokloaaB Go.Proofs.YtfndlpfceokloaaW.PrintWords
set_option maxRecDepth 100000 in
theorem among_any (W : World) (p q ql : Nat) (B : List Int) (a : Nat) (e e0 : Int) (AL : Option Addr) (cL : Nat) (L : List Int) (hC : Cur W p q B a e) (hB : Byts B) (h0 : (e0 == 0) = false) (hqp : ql ≠ p) (hL : ByQ W ql AL L) (hLl : L.length ≤ 100) :
    Calls Try.prog 173 #[.pointer (some ⟨p, 0, none⟩), .int .i64 e0, .slice AL L.length cL] W fun E w' => E = .returned (.int .u8 (rdOf (amongM B a L e0) a e).1) ∧ Goes W w' p q B (rdOf (amongM B a L e0) a e).2.1 (rdOf (amongM B a L e0) a e).2.2 := by
  have hplt := hC.lt
  have hC2 := ((hC.alloc (.cells #[.pointer (some ⟨p, 0, none⟩)] 144)).alloc (.cells #[.int .i64 e0] 29)).alloc (.cells #[.slice AL L.length cL] 85)
  have b1 := ((Blk.new W #[.pointer (some ⟨p, 0, none⟩)] 144).alloc (.cells #[.int .i64 e0] 29)).alloc (.cells #[.slice AL L.length cL] 85)
  have b2 := (Blk.new (W.alloc (.cells #[.pointer (some ⟨p, 0, none⟩)] 144)) #[.int .i64 e0] 29).alloc (.cells #[.slice AL L.length cL] 85)
  have b3 := Blk.new ((W.alloc (.cells #[.pointer (some ⟨p, 0, none⟩)] 144)).alloc (.cells #[.int .i64 e0] 29)) #[.slice AL L.length cL] 85
  have hL2 := ((hL.grown (World.grownBy_alloc W (.cells #[.pointer (some ⟨p, 0, none⟩)] 144) none) (by simp)).grown (World.grownBy_alloc _ (.cells #[.int .i64 e0] 29) none) (by simp)).grown (World.grownBy_alloc _ (.cells #[.slice AL L.length cL] 85) none) (by simp)
  rw [World.size_alloc, World.size_alloc] at b3
  rw [World.size_alloc] at b2
  by_cases he : e = 0
  · subst he
    have H := Lib.hid (reads_ex_byte _ p q B a _ ent_among1 #[.pointer (some ⟨W.heap.size, 0, none⟩), .pointer (some ⟨W.heap.size + 1 + 1, 0, none⟩), .pointer (some ⟨W.heap.size + 1, 0, none⟩)] (fun v nx => numE (amongM B a L e0) = 0 → v = numV (amongM B a L e0) ∧ nx = numA a (amongM B a L e0)) (numE (amongM B a L e0)) hC2
      (among1_any _ p q W.heap.size (W.heap.size + 1 + 1) (W.heap.size + 1) ql B a e0 AL cL L hC2 hB h0 (by omega) (by omega) (by omega) hqp (by rw [b1.cell]; rfl) (by rw [b3.cell]; rfl) (by rw [b2.cell]; rfl) hL2 hLl))
    have HR := Lib.hid (rs_num a (amongM B a L e0) (amongM_err h0))
    have HV := Lib.hid (show rdOf (amongM B a L e0) a 0 = (numV (amongM B a L e0), numA a (amongM B a L e0), numE (amongM B a L e0)) from rfl)
    clear hC hC2 hB b1 b2 b3 hL hL2 h0
    go_enter Try.func173, Try.ntmps173
    go_wp2_with fail
    refine H.out.mono ?_
    rintro E W1 ⟨v, nx, hv, rfl, hG⟩
    have hvv : rsV v (numE (amongM B a L e0)) = numV (amongM B a L e0) ∧ rsA a nx (numE (amongM B a L e0)) = numA a (amongM B a L e0) := by
      by_cases h0 : numE (amongM B a L e0) = 0
      · obtain ⟨rfl, rfl⟩ := hv h0
        exact HR.out
      · have h1 := HR.out
        simp only [rsV, rsA, if_neg h0] at h1 ⊢
        exact h1
    rw [hvv.1]
    rw [hvv.2] at hG
    have HG := Lib.hid hG
    clear hG H HR hvv hv
    go_wp2_with fail
    go_ret
    rw [HV.out]
    exact ⟨rfl, HG.out.of_alloc.of_alloc.of_alloc⟩
  · have H := Lib.hid (reads_bad_byte _ p q B a e (.func (.func 182) #[] #[.pointer (some ⟨W.heap.size, 0, none⟩), .pointer (some ⟨W.heap.size + 1 + 1, 0, none⟩), .pointer (some ⟨W.heap.size + 1, 0, none⟩)]) hC2 (beq_eq_false_iff_ne.2 he))
    have HV := Lib.hid (show rdOf (amongM B a L e0) a e = (0, a, e) from by simp [rdOf, he])
    have HG := Lib.hid (Goes.of_alloc (Goes.of_alloc (Goes.of_alloc (Goes.same hC2))))
    clear hC hC2 hB he b1 b2 b3 hL hL2 h0
    go_enter Try.func173, Try.ntmps173
    go_wp2_with fail
    refine H.out.mono ?_
    rintro E W1 ⟨rfl, rfl⟩
    go_wp2_with fail
    go_ret
    rw [HV.out]
    exact ⟨rfl, HG.out⟩
def resM (B : List Int) (a : Nat) : Except Int (Nat × Nat) := match amongM B a [127, 126, 125, 124, 64] 106 with | .error e => .error e | .ok (n, nx) => .ok (if n = 64 then 0 else n, nx)
theorem lit_ByQ (W : World) (L : List Int) (t : TypeId) : ByQ (W.alloc (.cells (L.map (Value.int .u8)).toArray t)) W.heap.size (some ⟨W.heap.size, 0, none⟩) L := fun _ =>
  ⟨0, rfl, fun j x hx => by rw [Nat.zero_add, (Blk.new W (L.map (Value.int .u8)).toArray t).cell]; simp [hx]⟩
set_option maxRecDepth 100000 in
theorem Results_any (W : World) (p q : Nat) (B : List Int) (a : Nat) (e : Int) (hC : Cur W p q B a e) (hB : Byts B) :
    Calls Try.prog 154 #[.pointer (some ⟨p, 0, none⟩)] W fun E w' => E = .returned (.int .u8 (rdOf (resM B a) a e).1) ∧ Goes W w' p q B (rdOf (resM B a) a e).2.1 (rdOf (resM B a) a e).2.2 := by
  have hplt := hC.lt
  have H := Lib.hid (among_any _ p q W.heap.size B a e 106 (some ⟨W.heap.size, 0, none⟩) 5 [127, 126, 125, 124, 64] (hC.alloc (.cells (([127, 126, 125, 124, 64] : List Int).map (Value.int .u8)).toArray 5)) hB rfl (by omega) (lit_ByQ W [127, 126, 125, 124, 64] 5) (by decide))
  obtain ⟨r, hr⟩ : ∃ r, r = amongM B a [127, 126, 125, 124, 64] 106 := ⟨_, rfl⟩
  rw [← hr] at H
  have HV := Lib.hid (show (rdOf (resM B a) a e) = (if (rdOf r a e).1 = 64 then 0 else (rdOf r a e).1, (rdOf r a e).2) from by
    unfold resM rdOf
    rw [← hr]
    rcases r with e' | ⟨n, nx⟩
    · by_cases h : e = 0 <;> simp [h, numV, numA, numE]
    · by_cases h : e = 0
      · by_cases h2 : n = 64
        · simp [h, h2, numV, numA, numE]
        · have h3 : ¬ (n : Int) = 64 := by omega
          simp [h, h2, h3, numV, numA, numE]
      · simp [h])
  generalize rdOf r a e = t at *
  obtain ⟨v, a', e'⟩ := t
  have hb := Lib.hid hr
  clear hr hC hB
  by_cases h64 : v = 64
  · subst h64
    rw [if_pos rfl] at HV
    go_enter Try.func154, Try.ntmps154
    go_wp2_with fail
    refine H.out.mono ?_
    rintro E W1 ⟨rfl, hG⟩
    have HG := Lib.hid hG
    clear hG H
    go_wp2_with fail
    go_ret
    rw [HV.out]
    exact ⟨rfl, HG.out.of_alloc⟩
  · rw [if_neg h64] at HV
    have hv2 : (v == 64) = false := by simpa using h64
    clear h64
    go_enter Try.func154, Try.ntmps154
    go_wp2_with fail
    refine H.out.mono ?_
    rintro E W1 ⟨rfl, hG⟩
    have HG := Lib.hid hG
    clear hG H
    go_wp2_with fail
    go_ret
    rw [HV.out]
    exact ⟨rfl, HG.out.of_alloc⟩
end Go.Proofs.Ytfndlpfceokloaa
end
section
namespace Go.Proofs.Ytfndlpfceokloaa
open Go.RowKit Go.Shelf YtfndlpfceokloaaB Go.Proofs.YtfndlpfceokloaaW.PrintWords
/-- numeric.first. -/
def firstM (op b s g : Int) : Int × Int × Int × Bool := if 0 ≤ op - b ∧ op - b < s then (g, op - b, 32, true) else if s ≤ op - b ∧ op - b < 2 * s then (g, op - b - s, 64, true) else (0, 0, 0, false)
set_option maxRecDepth 100000 in
theorem first_any (W : World) (op b s g : Int) (r : Int × Int × Int × Bool) (hr : firstM op b s g = r) (h0 : -9223372036854775808 ≤ op) (h1 : op ≤ 9223372036854775807) (hb : 0 ≤ b ∧ b ≤ 1000) (hs : 1 ≤ s ∧ s ≤ 100) :
    Calls Try.prog 172 #[.int .i64 op, .int .i64 b, .int .i64 s, .int .i64 g] W fun E w' => E = .returned (.tuple #[.agg #[.int .i64 r.1, .int .i64 r.2.1, .int .i64 r.2.2.1], .bool r.2.2.2]) ∧ Below W.heap.size W w' := by
  subst hr
  obtain ⟨hb0, hb1⟩ := hb
  obtain ⟨hs0, hs1⟩ := hs
  by_cases hlo : op - b < -9223372036854775808
  · have HV := Lib.hid (show firstM op b s g = (0, 0, 0, false) from by rw [firstM, if_neg (by omega), if_neg (by omega)])
    obtain ⟨m, hm, hm2⟩ : ∃ m : Int, wrap64 (op - b) = m ∧ 1000 ≤ m := ⟨_, rfl, by unfold wrap64; omega⟩
    have h5 : ¬ m < s := by omega
    have h6 : ¬ m < 2 * s := by omega
    have h7 : 0 ≤ m := by omega
    clear h0 hlo
    go_enter Try.func172, Try.ntmps172
    go_wp2_with fail
    rw [HV.out]
    exact bodyPost_ret (v := .tuple #[.agg #[.int .i64 0, .int .i64 0, .int .i64 0], .bool false]) (by simp [results, Try.results172, go_sem]) rfl ⟨rfl, by (repeat (first | exact (Below.refl _ _) | refine Below.setCell ?_ (by first | (simp; done) | (simp; omega)) _ | refine Below.alloc ?_ (by first | (simp; done) | (simp [World.setCell]; omega)) _))⟩
  by_cases h2 : 0 ≤ op - b
  · by_cases h3 : op - b < s
    · have HV := Lib.hid (show firstM op b s g = (g, op - b, 32, true) from if_pos ⟨h2, h3⟩)
      go_enter Try.func172, Try.ntmps172
      go_wp2_with fail
      rw [HV.out]
      exact bodyPost_ret (v := .tuple #[.agg #[.int .i64 g, .int .i64 (op - b), .int .i64 32], .bool true]) (by simp [results, Try.results172, go_sem]) rfl ⟨rfl, by (repeat (first | exact (Below.refl _ _) | refine Below.setCell ?_ (by first | (simp; done) | (simp; omega)) _ | refine Below.alloc ?_ (by first | (simp; done) | (simp [World.setCell]; omega)) _))⟩
    · by_cases h4 : op - b < 2 * s
      · have HV := Lib.hid (show firstM op b s g = (g, op - b - s, 64, true) from by rw [firstM, if_neg (fun h => h3 h.2), if_pos ⟨by omega, h4⟩])
        go_enter Try.func172, Try.ntmps172
        go_wp2_with fail
        rw [HV.out]
        exact bodyPost_ret (v := .tuple #[.agg #[.int .i64 g, .int .i64 (op - b - s), .int .i64 64], .bool true]) (by simp [results, Try.results172, go_sem]) rfl ⟨rfl, by (repeat (first | exact (Below.refl _ _) | refine Below.setCell ?_ (by first | (simp; done) | (simp; omega)) _ | refine Below.alloc ?_ (by first | (simp; done) | (simp [World.setCell]; omega)) _))⟩
      · have HV := Lib.hid (show firstM op b s g = (0, 0, 0, false) from by rw [firstM, if_neg (fun h => h3 h.2), if_neg (fun h => h4 h.2)])
        go_enter Try.func172, Try.ntmps172
        go_wp2_with fail
        rw [HV.out]
        exact bodyPost_ret (v := .tuple #[.agg #[.int .i64 0, .int .i64 0, .int .i64 0], .bool false]) (by simp [results, Try.results172, go_sem]) rfl ⟨rfl, by (repeat (first | exact (Below.refl _ _) | refine Below.setCell ?_ (by first | (simp; done) | (simp; omega)) _ | refine Below.alloc ?_ (by first | (simp; done) | (simp [World.setCell]; omega)) _))⟩
  · have HV := Lib.hid (show firstM op b s g = (0, 0, 0, false) from by rw [firstM, if_neg (fun h => h2 h.1), if_neg (fun h => by omega)])
    go_enter Try.func172, Try.ntmps172
    go_wp2_with fail
    rw [HV.out]
    exact bodyPost_ret (v := .tuple #[.agg #[.int .i64 0, .int .i64 0, .int .i64 0], .bool false]) (by simp [results, Try.results172, go_sem]) rfl ⟨rfl, by (repeat (first | exact (Below.refl _ _) | refine Below.setCell ?_ (by first | (simp; done) | (simp; omega)) _ | refine Below.alloc ?_ (by first | (simp; done) | (simp [World.setCell]; omega)) _))⟩
def FindPost (W : World) (r : Int × Int × Int) (E : Ending) (w' : World) : Prop := E = .returned (.agg #[.int .i64 r.1, .int .i64 r.2.1, .int .i64 r.2.2]) ∧ Below W.heap.size W w'
theorem find_step {A B C D : World} {g : Nat} {cs : Array Value} {t : TypeId} (h : Below g A B) (hb : Blk B g cs t) (hz : g < B.heap.size) (h' : Below D.heap.size D C) (hD : Below B.heap.size B D := by first | exact Below.refl _ _ | exact (Below.refl _ _).alloc (Nat.le_refl _) _ | exact ((Below.refl _ _).alloc (Nat.le_refl _) _).alloc (by simp) _ | exact (((Below.refl _ _).alloc (Nat.le_refl _) _).alloc (by simp) _).alloc (by simp; omega) _) : Below g A C ∧ Blk C g cs t ∧ g < C.heap.size := by
  have h2 := hD.trans (h'.mono hD.size)
  have := h2.size
  exact ⟨h.trans (h2.mono (by omega)), hb.below h2 hz, by omega⟩
theorem fin_cells {V : World} {g : Nat} {a b c : Value} {t : TypeId} (hb : Blk V g #[a, b, c] t) (hz : g < V.heap.size) (x y z : Value) :
    (∀ o, ((((V.setCell ⟨g, 0, none⟩ x).setCell ⟨g, 1, none⟩ y).setCell ⟨g, 2, none⟩ z).alloc o).cell? ⟨g, 0, none⟩ = some x) ∧ (∀ o, ((((V.setCell ⟨g, 0, none⟩ x).setCell ⟨g, 1, none⟩ y).setCell ⟨g, 2, none⟩ z).alloc o).cell? ⟨g, 1, none⟩ = some y) ∧ (∀ o, ((((V.setCell ⟨g, 0, none⟩ x).setCell ⟨g, 1, none⟩ y).setCell ⟨g, 2, none⟩ z).alloc o).cell? ⟨g, 2, none⟩ = some z) := by
  have h := ((hb.set 0 x).set 1 y).set 2 z
  exact ⟨fun o => by rw [(h.alloc o).cell]; rfl, fun o => by rw [(h.alloc o).cell]; rfl, fun o => by rw [(h.alloc o).cell]; rfl⟩
theorem find_cells {B : World} {g : Nat} {a b c : Value} {t : TypeId} (hb : Blk B g #[a, b, c] t) : B.cell? ⟨g, 0, none⟩ = some a ∧ B.cell? ⟨g, 1, none⟩ = some b ∧ B.cell? ⟨g, 2, none⟩ = some c ∧ B.frozen? ⟨g, 0, none⟩ = false ∧ B.frozen? ⟨g, 1, none⟩ = false ∧ B.frozen? ⟨g, 2, none⟩ = false :=
  ⟨by rw [hb.cell]; rfl, by rw [hb.cell]; rfl, by rw [hb.cell]; rfl, hb.frozen 0, hb.frozen 1, hb.frozen 2⟩
set_option maxRecDepth 100000 in
set_option maxHeartbeats 1000000 in
theorem find_69 (W : World) : Calls Try.prog 148 #[.int .i64 69] W (FindPost W (1, 0, 32)) := by
  have q0 := Lib.hid (fun X => first_any X 69 69 11 2 (2, 0, 32, true) (by decide) (by omega) (by omega) (by omega) (by omega))
  go_enter Try.func148, Try.ntmps148
  have hB0 := (Below.refl W.heap.size W).alloc (Nat.le_refl _) (.cells #[.int .i64 0, .int .i64 0, .int .i64 0] 290)
  have hb0 := Blk.new W #[.int .i64 0, .int .i64 0, .int .i64 0] 290
  have hz0 : W.heap.size < (W.alloc (.cells #[.int .i64 0, .int .i64 0, .int .i64 0] 290)).heap.size := by simp
  go_wp2_with fail
  refine (q0.out _).mono ?_
  rintro E0 V1 ⟨rfl, hq0⟩
  obtain ⟨hB1, hb1, hz1⟩ := find_step hB0 hb0 hz0 hq0
  clear hq0 hB0 hb0 hz0 q0
  obtain ⟨f0, f1, f2, i0, i1, i2⟩ := find_cells hb1
  have hbf := Lib.hid hb1
  clear hb1
  go_wp2_with fail
  all_goals
    obtain ⟨e0, e1, e2⟩ := fin_cells hbf.out hz1 (.int .i64 1) (.int .i64 0) (.int .i64 32)
    exact bodyPost_ret (v := .agg #[.int .i64 1, .int .i64 0, .int .i64 32]) (by simp [results, Try.results148, go_sem, e0, e1, e2]) rfl ⟨rfl, by (repeat (first | exact hB1 | refine Below.setCell ?_ (by first | (simp; done) | (simp; omega)) _ | refine Below.alloc ?_ (by first | (simp; done) | (simp [World.setCell]; omega)) _))⟩
set_option maxRecDepth 100000 in
set_option maxHeartbeats 1000000 in
theorem find_70 (W : World) (op : Int) (h0 : 70 ≤ op) (h1 : op ≤ 79) : Calls Try.prog 148 #[.int .i64 op] W (FindPost W (2, op - 69, 32)) := by
  have q0 := Lib.hid (fun X => first_any X op 69 11 2 (2, op - 69, 32, true) (by rw [firstM, if_pos (by omega)]) (by omega) (by omega) (by omega) (by omega))
  go_enter Try.func148, Try.ntmps148
  have hB0 := (Below.refl W.heap.size W).alloc (Nat.le_refl _) (.cells #[.int .i64 0, .int .i64 0, .int .i64 0] 290)
  have hb0 := Blk.new W #[.int .i64 0, .int .i64 0, .int .i64 0] 290
  have hz0 : W.heap.size < (W.alloc (.cells #[.int .i64 0, .int .i64 0, .int .i64 0] 290)).heap.size := by simp
  go_wp2_with fail
  refine (q0.out _).mono ?_
  rintro E0 V1 ⟨rfl, hq0⟩
  obtain ⟨hB1, hb1, hz1⟩ := find_step hB0 hb0 hz0 hq0
  clear hq0 hB0 hb0 hz0 q0
  obtain ⟨f0, f1, f2, i0, i1, i2⟩ := find_cells hb1
  have hbf := Lib.hid hb1
  clear hb1
  go_wp2_with fail
  all_goals
    obtain ⟨e0, e1, e2⟩ := fin_cells hbf.out hz1 (.int .i64 2) (.int .i64 (op - 69)) (.int .i64 32)
    exact bodyPost_ret (v := .agg #[.int .i64 2, .int .i64 (op - 69), .int .i64 32]) (by simp [results, Try.results148, go_sem, e0, e1, e2]) rfl ⟨rfl, by (repeat (first | exact hB1 | refine Below.setCell ?_ (by first | (simp; done) | (simp; omega)) _ | refine Below.alloc ?_ (by first | (simp; done) | (simp [World.setCell]; omega)) _))⟩
set_option maxRecDepth 100000 in
set_option maxHeartbeats 1000000 in
theorem find_80 (W : World) : Calls Try.prog 148 #[.int .i64 80] W (FindPost W (1, 0, 64)) := by
  have q0 := Lib.hid (fun X => first_any X 80 69 11 2 (2, 0, 64, true) (by decide) (by omega) (by omega) (by omega) (by omega))
  go_enter Try.func148, Try.ntmps148
  have hB0 := (Below.refl W.heap.size W).alloc (Nat.le_refl _) (.cells #[.int .i64 0, .int .i64 0, .int .i64 0] 290)
  have hb0 := Blk.new W #[.int .i64 0, .int .i64 0, .int .i64 0] 290
  have hz0 : W.heap.size < (W.alloc (.cells #[.int .i64 0, .int .i64 0, .int .i64 0] 290)).heap.size := by simp
  go_wp2_with fail
  refine (q0.out _).mono ?_
  rintro E0 V1 ⟨rfl, hq0⟩
  obtain ⟨hB1, hb1, hz1⟩ := find_step hB0 hb0 hz0 hq0
  clear hq0 hB0 hb0 hz0 q0
  obtain ⟨f0, f1, f2, i0, i1, i2⟩ := find_cells hb1
  have hbf := Lib.hid hb1
  clear hb1
  go_wp2_with fail
  all_goals
    obtain ⟨e0, e1, e2⟩ := fin_cells hbf.out hz1 (.int .i64 1) (.int .i64 0) (.int .i64 64)
    exact bodyPost_ret (v := .agg #[.int .i64 1, .int .i64 0, .int .i64 64]) (by simp [results, Try.results148, go_sem, e0, e1, e2]) rfl ⟨rfl, by (repeat (first | exact hB1 | refine Below.setCell ?_ (by first | (simp; done) | (simp; omega)) _ | refine Below.alloc ?_ (by first | (simp; done) | (simp [World.setCell]; omega)) _))⟩
set_option maxRecDepth 100000 in
set_option maxHeartbeats 1000000 in
theorem find_81 (W : World) (op : Int) (h0 : 81 ≤ op) (h1 : op ≤ 90) : Calls Try.prog 148 #[.int .i64 op] W (FindPost W (2, op - 69 - 11, 64)) := by
  have q0 := Lib.hid (fun X => first_any X op 69 11 2 (2, op - 69 - 11, 64, true) (by rw [firstM, if_neg (by omega), if_pos (by omega)]) (by omega) (by omega) (by omega) (by omega))
  go_enter Try.func148, Try.ntmps148
  have hB0 := (Below.refl W.heap.size W).alloc (Nat.le_refl _) (.cells #[.int .i64 0, .int .i64 0, .int .i64 0] 290)
  have hb0 := Blk.new W #[.int .i64 0, .int .i64 0, .int .i64 0] 290
  have hz0 : W.heap.size < (W.alloc (.cells #[.int .i64 0, .int .i64 0, .int .i64 0] 290)).heap.size := by simp
  go_wp2_with fail
  refine (q0.out _).mono ?_
  rintro E0 V1 ⟨rfl, hq0⟩
  obtain ⟨hB1, hb1, hz1⟩ := find_step hB0 hb0 hz0 hq0
  clear hq0 hB0 hb0 hz0 q0
  obtain ⟨f0, f1, f2, i0, i1, i2⟩ := find_cells hb1
  have hbf := Lib.hid hb1
  clear hb1
  go_wp2_with fail
  all_goals
    obtain ⟨e0, e1, e2⟩ := fin_cells hbf.out hz1 (.int .i64 2) (.int .i64 (op - 69 - 11)) (.int .i64 64)
    exact bodyPost_ret (v := .agg #[.int .i64 2, .int .i64 (op - 69 - 11), .int .i64 64]) (by simp [results, Try.results148, go_sem, e0, e1, e2]) rfl ⟨rfl, by (repeat (first | exact hB1 | refine Below.setCell ?_ (by first | (simp; done) | (simp; omega)) _ | refine Below.alloc ?_ (by first | (simp; done) | (simp [World.setCell]; omega)) _))⟩
set_option maxRecDepth 100000 in
set_option maxHeartbeats 1000000 in
theorem find_91 (W : World) (op : Int) (h0 : 91 ≤ op) (h1 : op ≤ 96) : Calls Try.prog 148 #[.int .i64 op] W (FindPost W (3, op - 91, 32)) := by
  have q0 := Lib.hid (fun X => first_any X op 69 11 2 (0, 0, 0, false) (by rw [firstM, if_neg (by omega), if_neg (by omega)]) (by omega) (by omega) (by omega) (by omega))
  have q1 := Lib.hid (fun X => first_any X op 91 6 3 (3, op - 91, 32, true) (by rw [firstM, if_pos (by omega)]) (by omega) (by omega) (by omega) (by omega))
  go_enter Try.func148, Try.ntmps148
  have hB0 := (Below.refl W.heap.size W).alloc (Nat.le_refl _) (.cells #[.int .i64 0, .int .i64 0, .int .i64 0] 290)
  have hb0 := Blk.new W #[.int .i64 0, .int .i64 0, .int .i64 0] 290
  have hz0 : W.heap.size < (W.alloc (.cells #[.int .i64 0, .int .i64 0, .int .i64 0] 290)).heap.size := by simp
  go_wp2_with fail
  refine (q0.out _).mono ?_
  rintro E0 V1 ⟨rfl, hq0⟩
  obtain ⟨hB1, hb1, hz1⟩ := find_step hB0 hb0 hz0 hq0
  clear hq0 hB0 hb0 hz0 q0
  go_wp2_with fail
  refine (q1.out _).mono ?_
  rintro E1 V2 ⟨rfl, hq1⟩
  obtain ⟨hB2, hb2, hz2⟩ := find_step hB1 hb1 hz1 hq1
  clear hq1 hB1 hb1 hz1 q1
  obtain ⟨f0, f1, f2, i0, i1, i2⟩ := find_cells hb2
  have hbf := Lib.hid hb2
  clear hb2
  go_wp2_with fail
  all_goals
    obtain ⟨e0, e1, e2⟩ := fin_cells hbf.out hz2 (.int .i64 3) (.int .i64 (op - 91)) (.int .i64 32)
    exact bodyPost_ret (v := .agg #[.int .i64 3, .int .i64 (op - 91), .int .i64 32]) (by simp [results, Try.results148, go_sem, e0, e1, e2]) rfl ⟨rfl, by (repeat (first | exact hB2 | refine Below.setCell ?_ (by first | (simp; done) | (simp; omega)) _ | refine Below.alloc ?_ (by first | (simp; done) | (simp [World.setCell]; omega)) _))⟩
set_option maxRecDepth 100000 in
set_option maxHeartbeats 1000000 in
theorem find_97 (W : World) (op : Int) (h0 : 97 ≤ op) (h1 : op ≤ 102) : Calls Try.prog 148 #[.int .i64 op] W (FindPost W (3, op - 91 - 6, 64)) := by
  have q0 := Lib.hid (fun X => first_any X op 69 11 2 (0, 0, 0, false) (by rw [firstM, if_neg (by omega), if_neg (by omega)]) (by omega) (by omega) (by omega) (by omega))
  have q1 := Lib.hid (fun X => first_any X op 91 6 3 (3, op - 91 - 6, 64, true) (by rw [firstM, if_neg (by omega), if_pos (by omega)]) (by omega) (by omega) (by omega) (by omega))
  go_enter Try.func148, Try.ntmps148
  have hB0 := (Below.refl W.heap.size W).alloc (Nat.le_refl _) (.cells #[.int .i64 0, .int .i64 0, .int .i64 0] 290)
  have hb0 := Blk.new W #[.int .i64 0, .int .i64 0, .int .i64 0] 290
  have hz0 : W.heap.size < (W.alloc (.cells #[.int .i64 0, .int .i64 0, .int .i64 0] 290)).heap.size := by simp
  go_wp2_with fail
  refine (q0.out _).mono ?_
  rintro E0 V1 ⟨rfl, hq0⟩
  obtain ⟨hB1, hb1, hz1⟩ := find_step hB0 hb0 hz0 hq0
  clear hq0 hB0 hb0 hz0 q0
  go_wp2_with fail
  refine (q1.out _).mono ?_
  rintro E1 V2 ⟨rfl, hq1⟩
  obtain ⟨hB2, hb2, hz2⟩ := find_step hB1 hb1 hz1 hq1
  clear hq1 hB1 hb1 hz1 q1
  obtain ⟨f0, f1, f2, i0, i1, i2⟩ := find_cells hb2
  have hbf := Lib.hid hb2
  clear hb2
  go_wp2_with fail
  all_goals
    obtain ⟨e0, e1, e2⟩ := fin_cells hbf.out hz2 (.int .i64 3) (.int .i64 (op - 91 - 6)) (.int .i64 64)
    exact bodyPost_ret (v := .agg #[.int .i64 3, .int .i64 (op - 91 - 6), .int .i64 64]) (by simp [results, Try.results148, go_sem, e0, e1, e2]) rfl ⟨rfl, by (repeat (first | exact hB2 | refine Below.setCell ?_ (by first | (simp; done) | (simp; omega)) _ | refine Below.alloc ?_ (by first | (simp; done) | (simp [World.setCell]; omega)) _))⟩
set_option maxRecDepth 100000 in
set_option maxHeartbeats 1000000 in
theorem find_103 (W : World) (op : Int) (h0 : 103 ≤ op) (h1 : op ≤ 105) : Calls Try.prog 148 #[.int .i64 op] W (FindPost W (4, op - 103, 32)) := by
  have q0 := Lib.hid (fun X => first_any X op 69 11 2 (0, 0, 0, false) (by rw [firstM, if_neg (by omega), if_neg (by omega)]) (by omega) (by omega) (by omega) (by omega))
  have q1 := Lib.hid (fun X => first_any X op 91 6 3 (0, 0, 0, false) (by rw [firstM, if_neg (by omega), if_neg (by omega)]) (by omega) (by omega) (by omega) (by omega))
  have q2 := Lib.hid (fun X => first_any X op 103 18 5 (5, op - 103, 32, true) (by rw [firstM, if_pos (by omega)]) (by omega) (by omega) (by omega) (by omega))
  go_enter Try.func148, Try.ntmps148
  have hB0 := (Below.refl W.heap.size W).alloc (Nat.le_refl _) (.cells #[.int .i64 0, .int .i64 0, .int .i64 0] 290)
  have hb0 := Blk.new W #[.int .i64 0, .int .i64 0, .int .i64 0] 290
  have hz0 : W.heap.size < (W.alloc (.cells #[.int .i64 0, .int .i64 0, .int .i64 0] 290)).heap.size := by simp
  go_wp2_with fail
  refine (q0.out _).mono ?_
  rintro E0 V1 ⟨rfl, hq0⟩
  obtain ⟨hB1, hb1, hz1⟩ := find_step hB0 hb0 hz0 hq0
  clear hq0 hB0 hb0 hz0 q0
  go_wp2_with fail
  refine (q1.out _).mono ?_
  rintro E1 V2 ⟨rfl, hq1⟩
  obtain ⟨hB2, hb2, hz2⟩ := find_step hB1 hb1 hz1 hq1
  clear hq1 hB1 hb1 hz1 q1
  go_wp2_with fail
  refine (q2.out _).mono ?_
  rintro E2 V3 ⟨rfl, hq2⟩
  obtain ⟨hB3, hb3, hz3⟩ := find_step hB2 hb2 hz2 hq2
  clear hq2 hB2 hb2 hz2 q2
  obtain ⟨f0, f1, f2, i0, i1, i2⟩ := find_cells hb3
  have hbf := Lib.hid hb3
  clear hb3
  go_wp2_with fail
  all_goals
    obtain ⟨e0, e1, e2⟩ := fin_cells hbf.out hz3 (.int .i64 4) (.int .i64 (op - 103)) (.int .i64 32)
    exact bodyPost_ret (v := .agg #[.int .i64 4, .int .i64 (op - 103), .int .i64 32]) (by simp [results, Try.results148, go_sem, e0, e1, e2]) rfl ⟨rfl, by (repeat (first | exact hB3 | refine Below.setCell ?_ (by first | (simp; done) | (simp; omega)) _ | refine Below.alloc ?_ (by first | (simp; done) | (simp [World.setCell]; omega)) _))⟩
set_option maxRecDepth 100000 in
set_option maxHeartbeats 1000000 in
theorem find_106 (W : World) (op : Int) (h0 : 106 ≤ op) (h1 : op ≤ 120) : Calls Try.prog 148 #[.int .i64 op] W (FindPost W (5, op - 103, 32)) := by
  have q0 := Lib.hid (fun X => first_any X op 69 11 2 (0, 0, 0, false) (by rw [firstM, if_neg (by omega), if_neg (by omega)]) (by omega) (by omega) (by omega) (by omega))
  have q1 := Lib.hid (fun X => first_any X op 91 6 3 (0, 0, 0, false) (by rw [firstM, if_neg (by omega), if_neg (by omega)]) (by omega) (by omega) (by omega) (by omega))
  have q2 := Lib.hid (fun X => first_any X op 103 18 5 (5, op - 103, 32, true) (by rw [firstM, if_pos (by omega)]) (by omega) (by omega) (by omega) (by omega))
  go_enter Try.func148, Try.ntmps148
  have hB0 := (Below.refl W.heap.size W).alloc (Nat.le_refl _) (.cells #[.int .i64 0, .int .i64 0, .int .i64 0] 290)
  have hb0 := Blk.new W #[.int .i64 0, .int .i64 0, .int .i64 0] 290
  have hz0 : W.heap.size < (W.alloc (.cells #[.int .i64 0, .int .i64 0, .int .i64 0] 290)).heap.size := by simp
  go_wp2_with fail
  refine (q0.out _).mono ?_
  rintro E0 V1 ⟨rfl, hq0⟩
  obtain ⟨hB1, hb1, hz1⟩ := find_step hB0 hb0 hz0 hq0
  clear hq0 hB0 hb0 hz0 q0
  go_wp2_with fail
  refine (q1.out _).mono ?_
  rintro E1 V2 ⟨rfl, hq1⟩
  obtain ⟨hB2, hb2, hz2⟩ := find_step hB1 hb1 hz1 hq1
  clear hq1 hB1 hb1 hz1 q1
  go_wp2_with fail
  refine (q2.out _).mono ?_
  rintro E2 V3 ⟨rfl, hq2⟩
  obtain ⟨hB3, hb3, hz3⟩ := find_step hB2 hb2 hz2 hq2
  clear hq2 hB2 hb2 hz2 q2
  obtain ⟨f0, f1, f2, i0, i1, i2⟩ := find_cells hb3
  have hbf := Lib.hid hb3
  clear hb3
  go_wp2_with fail
  all_goals
    obtain ⟨e0, e1, e2⟩ := fin_cells hbf.out hz3 (.int .i64 5) (.int .i64 (op - 103)) (.int .i64 32)
    exact bodyPost_ret (v := .agg #[.int .i64 5, .int .i64 (op - 103), .int .i64 32]) (by simp [results, Try.results148, go_sem, e0, e1, e2]) rfl ⟨rfl, by (repeat (first | exact hB3 | refine Below.setCell ?_ (by first | (simp; done) | (simp; omega)) _ | refine Below.alloc ?_ (by first | (simp; done) | (simp [World.setCell]; omega)) _))⟩
set_option maxRecDepth 100000 in
set_option maxHeartbeats 1000000 in
theorem find_121 (W : World) (op : Int) (h0 : 121 ≤ op) (h1 : op ≤ 123) : Calls Try.prog 148 #[.int .i64 op] W (FindPost W (4, op - 103 - 18, 64)) := by
  have q0 := Lib.hid (fun X => first_any X op 69 11 2 (0, 0, 0, false) (by rw [firstM, if_neg (by omega), if_neg (by omega)]) (by omega) (by omega) (by omega) (by omega))
  have q1 := Lib.hid (fun X => first_any X op 91 6 3 (0, 0, 0, false) (by rw [firstM, if_neg (by omega), if_neg (by omega)]) (by omega) (by omega) (by omega) (by omega))
  have q2 := Lib.hid (fun X => first_any X op 103 18 5 (5, op - 103 - 18, 64, true) (by rw [firstM, if_neg (by omega), if_pos (by omega)]) (by omega) (by omega) (by omega) (by omega))
  go_enter Try.func148, Try.ntmps148
  have hB0 := (Below.refl W.heap.size W).alloc (Nat.le_refl _) (.cells #[.int .i64 0, .int .i64 0, .int .i64 0] 290)
  have hb0 := Blk.new W #[.int .i64 0, .int .i64 0, .int .i64 0] 290
  have hz0 : W.heap.size < (W.alloc (.cells #[.int .i64 0, .int .i64 0, .int .i64 0] 290)).heap.size := by simp
  go_wp2_with fail
  refine (q0.out _).mono ?_
  rintro E0 V1 ⟨rfl, hq0⟩
  obtain ⟨hB1, hb1, hz1⟩ := find_step hB0 hb0 hz0 hq0
  clear hq0 hB0 hb0 hz0 q0
  go_wp2_with fail
  refine (q1.out _).mono ?_
  rintro E1 V2 ⟨rfl, hq1⟩
  obtain ⟨hB2, hb2, hz2⟩ := find_step hB1 hb1 hz1 hq1
  clear hq1 hB1 hb1 hz1 q1
  go_wp2_with fail
  refine (q2.out _).mono ?_
  rintro E2 V3 ⟨rfl, hq2⟩
  obtain ⟨hB3, hb3, hz3⟩ := find_step hB2 hb2 hz2 hq2
  clear hq2 hB2 hb2 hz2 q2
  obtain ⟨f0, f1, f2, i0, i1, i2⟩ := find_cells hb3
  have hbf := Lib.hid hb3
  clear hb3
  go_wp2_with fail
  all_goals
    obtain ⟨e0, e1, e2⟩ := fin_cells hbf.out hz3 (.int .i64 4) (.int .i64 (op - 103 - 18)) (.int .i64 64)
    exact bodyPost_ret (v := .agg #[.int .i64 4, .int .i64 (op - 103 - 18), .int .i64 64]) (by simp [results, Try.results148, go_sem, e0, e1, e2]) rfl ⟨rfl, by (repeat (first | exact hB3 | refine Below.setCell ?_ (by first | (simp; done) | (simp; omega)) _ | refine Below.alloc ?_ (by first | (simp; done) | (simp [World.setCell]; omega)) _))⟩
set_option maxRecDepth 100000 in
set_option maxHeartbeats 1000000 in
theorem find_124 (W : World) (op : Int) (h0 : 124 ≤ op) (h1 : op ≤ 138) : Calls Try.prog 148 #[.int .i64 op] W (FindPost W (5, op - 103 - 18, 64)) := by
  have q0 := Lib.hid (fun X => first_any X op 69 11 2 (0, 0, 0, false) (by rw [firstM, if_neg (by omega), if_neg (by omega)]) (by omega) (by omega) (by omega) (by omega))
  have q1 := Lib.hid (fun X => first_any X op 91 6 3 (0, 0, 0, false) (by rw [firstM, if_neg (by omega), if_neg (by omega)]) (by omega) (by omega) (by omega) (by omega))
  have q2 := Lib.hid (fun X => first_any X op 103 18 5 (5, op - 103 - 18, 64, true) (by rw [firstM, if_neg (by omega), if_pos (by omega)]) (by omega) (by omega) (by omega) (by omega))
  go_enter Try.func148, Try.ntmps148
  have hB0 := (Below.refl W.heap.size W).alloc (Nat.le_refl _) (.cells #[.int .i64 0, .int .i64 0, .int .i64 0] 290)
  have hb0 := Blk.new W #[.int .i64 0, .int .i64 0, .int .i64 0] 290
  have hz0 : W.heap.size < (W.alloc (.cells #[.int .i64 0, .int .i64 0, .int .i64 0] 290)).heap.size := by simp
  go_wp2_with fail
  refine (q0.out _).mono ?_
  rintro E0 V1 ⟨rfl, hq0⟩
  obtain ⟨hB1, hb1, hz1⟩ := find_step hB0 hb0 hz0 hq0
  clear hq0 hB0 hb0 hz0 q0
  go_wp2_with fail
  refine (q1.out _).mono ?_
  rintro E1 V2 ⟨rfl, hq1⟩
  obtain ⟨hB2, hb2, hz2⟩ := find_step hB1 hb1 hz1 hq1
  clear hq1 hB1 hb1 hz1 q1
  go_wp2_with fail
  refine (q2.out _).mono ?_
  rintro E2 V3 ⟨rfl, hq2⟩
  obtain ⟨hB3, hb3, hz3⟩ := find_step hB2 hb2 hz2 hq2
  clear hq2 hB2 hb2 hz2 q2
  obtain ⟨f0, f1, f2, i0, i1, i2⟩ := find_cells hb3
  have hbf := Lib.hid hb3
  clear hb3
  go_wp2_with fail
  all_goals
    obtain ⟨e0, e1, e2⟩ := fin_cells hbf.out hz3 (.int .i64 5) (.int .i64 (op - 103 - 18)) (.int .i64 64)
    exact bodyPost_ret (v := .agg #[.int .i64 5, .int .i64 (op - 103 - 18), .int .i64 64]) (by simp [results, Try.results148, go_sem, e0, e1, e2]) rfl ⟨rfl, by (repeat (first | exact hB3 | refine Below.setCell ?_ (by first | (simp; done) | (simp; omega)) _ | refine Below.alloc ?_ (by first | (simp; done) | (simp [World.setCell]; omega)) _))⟩
set_option maxRecDepth 100000 in
set_option maxHeartbeats 1000000 in
theorem find_139 (W : World) (op : Int) (h0 : 139 ≤ op) (h1 : op ≤ 145) : Calls Try.prog 148 #[.int .i64 op] W (FindPost W (6, op - 139, 32)) := by
  have q0 := Lib.hid (fun X => first_any X op 69 11 2 (0, 0, 0, false) (by rw [firstM, if_neg (by omega), if_neg (by omega)]) (by omega) (by omega) (by omega) (by omega))
  have q1 := Lib.hid (fun X => first_any X op 91 6 3 (0, 0, 0, false) (by rw [firstM, if_neg (by omega), if_neg (by omega)]) (by omega) (by omega) (by omega) (by omega))
  have q2 := Lib.hid (fun X => first_any X op 103 18 5 (0, 0, 0, false) (by rw [firstM, if_neg (by omega), if_neg (by omega)]) (by omega) (by omega) (by omega) (by omega))
  have q3 := Lib.hid (fun X => first_any X op 139 14 7 (7, op - 139, 32, true) (by rw [firstM, if_pos (by omega)]) (by omega) (by omega) (by omega) (by omega))
  go_enter Try.func148, Try.ntmps148
  have hB0 := (Below.refl W.heap.size W).alloc (Nat.le_refl _) (.cells #[.int .i64 0, .int .i64 0, .int .i64 0] 290)
  have hb0 := Blk.new W #[.int .i64 0, .int .i64 0, .int .i64 0] 290
  have hz0 : W.heap.size < (W.alloc (.cells #[.int .i64 0, .int .i64 0, .int .i64 0] 290)).heap.size := by simp
  go_wp2_with fail
  refine (q0.out _).mono ?_
  rintro E0 V1 ⟨rfl, hq0⟩
  obtain ⟨hB1, hb1, hz1⟩ := find_step hB0 hb0 hz0 hq0
  clear hq0 hB0 hb0 hz0 q0
  go_wp2_with fail
  refine (q1.out _).mono ?_
  rintro E1 V2 ⟨rfl, hq1⟩
  obtain ⟨hB2, hb2, hz2⟩ := find_step hB1 hb1 hz1 hq1
  clear hq1 hB1 hb1 hz1 q1
  go_wp2_with fail
  refine (q2.out _).mono ?_
  rintro E2 V3 ⟨rfl, hq2⟩
  obtain ⟨hB3, hb3, hz3⟩ := find_step hB2 hb2 hz2 hq2
  clear hq2 hB2 hb2 hz2 q2
  go_wp2_with fail
  refine (q3.out _).mono ?_
  rintro E3 V4 ⟨rfl, hq3⟩
  obtain ⟨hB4, hb4, hz4⟩ := find_step hB3 hb3 hz3 hq3
  clear hq3 hB3 hb3 hz3 q3
  obtain ⟨f0, f1, f2, i0, i1, i2⟩ := find_cells hb4
  have hbf := Lib.hid hb4
  clear hb4
  go_wp2_with fail
  all_goals
    obtain ⟨e0, e1, e2⟩ := fin_cells hbf.out hz4 (.int .i64 6) (.int .i64 (op - 139)) (.int .i64 32)
    exact bodyPost_ret (v := .agg #[.int .i64 6, .int .i64 (op - 139), .int .i64 32]) (by simp [results, Try.results148, go_sem, e0, e1, e2]) rfl ⟨rfl, by (repeat (first | exact hB4 | refine Below.setCell ?_ (by first | (simp; done) | (simp; omega)) _ | refine Below.alloc ?_ (by first | (simp; done) | (simp [World.setCell]; omega)) _))⟩
set_option maxRecDepth 100000 in
set_option maxHeartbeats 1000000 in
theorem find_146 (W : World) (op : Int) (h0 : 146 ≤ op) (h1 : op ≤ 152) : Calls Try.prog 148 #[.int .i64 op] W (FindPost W (7, op - 139, 32)) := by
  have q0 := Lib.hid (fun X => first_any X op 69 11 2 (0, 0, 0, false) (by rw [firstM, if_neg (by omega), if_neg (by omega)]) (by omega) (by omega) (by omega) (by omega))
  have q1 := Lib.hid (fun X => first_any X op 91 6 3 (0, 0, 0, false) (by rw [firstM, if_neg (by omega), if_neg (by omega)]) (by omega) (by omega) (by omega) (by omega))
  have q2 := Lib.hid (fun X => first_any X op 103 18 5 (0, 0, 0, false) (by rw [firstM, if_neg (by omega), if_neg (by omega)]) (by omega) (by omega) (by omega) (by omega))
  have q3 := Lib.hid (fun X => first_any X op 139 14 7 (7, op - 139, 32, true) (by rw [firstM, if_pos (by omega)]) (by omega) (by omega) (by omega) (by omega))
  go_enter Try.func148, Try.ntmps148
  have hB0 := (Below.refl W.heap.size W).alloc (Nat.le_refl _) (.cells #[.int .i64 0, .int .i64 0, .int .i64 0] 290)
  have hb0 := Blk.new W #[.int .i64 0, .int .i64 0, .int .i64 0] 290
  have hz0 : W.heap.size < (W.alloc (.cells #[.int .i64 0, .int .i64 0, .int .i64 0] 290)).heap.size := by simp
  go_wp2_with fail
  refine (q0.out _).mono ?_
  rintro E0 V1 ⟨rfl, hq0⟩
  obtain ⟨hB1, hb1, hz1⟩ := find_step hB0 hb0 hz0 hq0
  clear hq0 hB0 hb0 hz0 q0
  go_wp2_with fail
  refine (q1.out _).mono ?_
  rintro E1 V2 ⟨rfl, hq1⟩
  obtain ⟨hB2, hb2, hz2⟩ := find_step hB1 hb1 hz1 hq1
  clear hq1 hB1 hb1 hz1 q1
  go_wp2_with fail
  refine (q2.out _).mono ?_
  rintro E2 V3 ⟨rfl, hq2⟩
  obtain ⟨hB3, hb3, hz3⟩ := find_step hB2 hb2 hz2 hq2
  clear hq2 hB2 hb2 hz2 q2
  go_wp2_with fail
  refine (q3.out _).mono ?_
  rintro E3 V4 ⟨rfl, hq3⟩
  obtain ⟨hB4, hb4, hz4⟩ := find_step hB3 hb3 hz3 hq3
  clear hq3 hB3 hb3 hz3 q3
  obtain ⟨f0, f1, f2, i0, i1, i2⟩ := find_cells hb4
  have hbf := Lib.hid hb4
  clear hb4
  go_wp2_with fail
  all_goals
    obtain ⟨e0, e1, e2⟩ := fin_cells hbf.out hz4 (.int .i64 7) (.int .i64 (op - 139)) (.int .i64 32)
    exact bodyPost_ret (v := .agg #[.int .i64 7, .int .i64 (op - 139), .int .i64 32]) (by simp [results, Try.results148, go_sem, e0, e1, e2]) rfl ⟨rfl, by (repeat (first | exact hB4 | refine Below.setCell ?_ (by first | (simp; done) | (simp; omega)) _ | refine Below.alloc ?_ (by first | (simp; done) | (simp [World.setCell]; omega)) _))⟩
set_option maxRecDepth 100000 in
set_option maxHeartbeats 1000000 in
theorem find_153 (W : World) (op : Int) (h0 : 153 ≤ op) (h1 : op ≤ 159) : Calls Try.prog 148 #[.int .i64 op] W (FindPost W (6, op - 139 - 14, 64)) := by
  have q0 := Lib.hid (fun X => first_any X op 69 11 2 (0, 0, 0, false) (by rw [firstM, if_neg (by omega), if_neg (by omega)]) (by omega) (by omega) (by omega) (by omega))
  have q1 := Lib.hid (fun X => first_any X op 91 6 3 (0, 0, 0, false) (by rw [firstM, if_neg (by omega), if_neg (by omega)]) (by omega) (by omega) (by omega) (by omega))
  have q2 := Lib.hid (fun X => first_any X op 103 18 5 (0, 0, 0, false) (by rw [firstM, if_neg (by omega), if_neg (by omega)]) (by omega) (by omega) (by omega) (by omega))
  have q3 := Lib.hid (fun X => first_any X op 139 14 7 (7, op - 139 - 14, 64, true) (by rw [firstM, if_neg (by omega), if_pos (by omega)]) (by omega) (by omega) (by omega) (by omega))
  go_enter Try.func148, Try.ntmps148
  have hB0 := (Below.refl W.heap.size W).alloc (Nat.le_refl _) (.cells #[.int .i64 0, .int .i64 0, .int .i64 0] 290)
  have hb0 := Blk.new W #[.int .i64 0, .int .i64 0, .int .i64 0] 290
  have hz0 : W.heap.size < (W.alloc (.cells #[.int .i64 0, .int .i64 0, .int .i64 0] 290)).heap.size := by simp
  go_wp2_with fail
  refine (q0.out _).mono ?_
  rintro E0 V1 ⟨rfl, hq0⟩
  obtain ⟨hB1, hb1, hz1⟩ := find_step hB0 hb0 hz0 hq0
  clear hq0 hB0 hb0 hz0 q0
  go_wp2_with fail
  refine (q1.out _).mono ?_
  rintro E1 V2 ⟨rfl, hq1⟩
  obtain ⟨hB2, hb2, hz2⟩ := find_step hB1 hb1 hz1 hq1
  clear hq1 hB1 hb1 hz1 q1
  go_wp2_with fail
  refine (q2.out _).mono ?_
  rintro E2 V3 ⟨rfl, hq2⟩
  obtain ⟨hB3, hb3, hz3⟩ := find_step hB2 hb2 hz2 hq2
  clear hq2 hB2 hb2 hz2 q2
  go_wp2_with fail
  refine (q3.out _).mono ?_
  rintro E3 V4 ⟨rfl, hq3⟩
  obtain ⟨hB4, hb4, hz4⟩ := find_step hB3 hb3 hz3 hq3
  clear hq3 hB3 hb3 hz3 q3
  obtain ⟨f0, f1, f2, i0, i1, i2⟩ := find_cells hb4
  have hbf := Lib.hid hb4
  clear hb4
  go_wp2_with fail
  all_goals
    obtain ⟨e0, e1, e2⟩ := fin_cells hbf.out hz4 (.int .i64 6) (.int .i64 (op - 139 - 14)) (.int .i64 64)
    exact bodyPost_ret (v := .agg #[.int .i64 6, .int .i64 (op - 139 - 14), .int .i64 64]) (by simp [results, Try.results148, go_sem, e0, e1, e2]) rfl ⟨rfl, by (repeat (first | exact hB4 | refine Below.setCell ?_ (by first | (simp; done) | (simp; omega)) _ | refine Below.alloc ?_ (by first | (simp; done) | (simp [World.setCell]; omega)) _))⟩
set_option maxRecDepth 100000 in
set_option maxHeartbeats 1000000 in
theorem find_160 (W : World) (op : Int) (h0 : 160 ≤ op) (h1 : op ≤ 166) : Calls Try.prog 148 #[.int .i64 op] W (FindPost W (7, op - 139 - 14, 64)) := by
  have q0 := Lib.hid (fun X => first_any X op 69 11 2 (0, 0, 0, false) (by rw [firstM, if_neg (by omega), if_neg (by omega)]) (by omega) (by omega) (by omega) (by omega))
  have q1 := Lib.hid (fun X => first_any X op 91 6 3 (0, 0, 0, false) (by rw [firstM, if_neg (by omega), if_neg (by omega)]) (by omega) (by omega) (by omega) (by omega))
  have q2 := Lib.hid (fun X => first_any X op 103 18 5 (0, 0, 0, false) (by rw [firstM, if_neg (by omega), if_neg (by omega)]) (by omega) (by omega) (by omega) (by omega))
  have q3 := Lib.hid (fun X => first_any X op 139 14 7 (7, op - 139 - 14, 64, true) (by rw [firstM, if_neg (by omega), if_pos (by omega)]) (by omega) (by omega) (by omega) (by omega))
  go_enter Try.func148, Try.ntmps148
  have hB0 := (Below.refl W.heap.size W).alloc (Nat.le_refl _) (.cells #[.int .i64 0, .int .i64 0, .int .i64 0] 290)
  have hb0 := Blk.new W #[.int .i64 0, .int .i64 0, .int .i64 0] 290
  have hz0 : W.heap.size < (W.alloc (.cells #[.int .i64 0, .int .i64 0, .int .i64 0] 290)).heap.size := by simp
  go_wp2_with fail
  refine (q0.out _).mono ?_
  rintro E0 V1 ⟨rfl, hq0⟩
  obtain ⟨hB1, hb1, hz1⟩ := find_step hB0 hb0 hz0 hq0
  clear hq0 hB0 hb0 hz0 q0
  go_wp2_with fail
  refine (q1.out _).mono ?_
  rintro E1 V2 ⟨rfl, hq1⟩
  obtain ⟨hB2, hb2, hz2⟩ := find_step hB1 hb1 hz1 hq1
  clear hq1 hB1 hb1 hz1 q1
  go_wp2_with fail
  refine (q2.out _).mono ?_
  rintro E2 V3 ⟨rfl, hq2⟩
  obtain ⟨hB3, hb3, hz3⟩ := find_step hB2 hb2 hz2 hq2
  clear hq2 hB2 hb2 hz2 q2
  go_wp2_with fail
  refine (q3.out _).mono ?_
  rintro E3 V4 ⟨rfl, hq3⟩
  obtain ⟨hB4, hb4, hz4⟩ := find_step hB3 hb3 hz3 hq3
  clear hq3 hB3 hb3 hz3 q3
  obtain ⟨f0, f1, f2, i0, i1, i2⟩ := find_cells hb4
  have hbf := Lib.hid hb4
  clear hb4
  go_wp2_with fail
  all_goals
    obtain ⟨e0, e1, e2⟩ := fin_cells hbf.out hz4 (.int .i64 7) (.int .i64 (op - 139 - 14)) (.int .i64 64)
    exact bodyPost_ret (v := .agg #[.int .i64 7, .int .i64 (op - 139 - 14), .int .i64 64]) (by simp [results, Try.results148, go_sem, e0, e1, e2]) rfl ⟨rfl, by (repeat (first | exact hB4 | refine Below.setCell ?_ (by first | (simp; done) | (simp; omega)) _ | refine Below.alloc ?_ (by first | (simp; done) | (simp [World.setCell]; omega)) _))⟩
set_option maxRecDepth 100000 in
set_option maxHeartbeats 1000000 in
theorem find_167 (W : World) (op : Int) (h0 : 167 ≤ op) (h1 : op ≤ 191) : Calls Try.prog 148 #[.int .i64 op] W (FindPost W (8, op - 167, 0)) := by
  have q0 := Lib.hid (fun X => first_any X op 69 11 2 (0, 0, 0, false) (by rw [firstM, if_neg (by omega), if_neg (by omega)]) (by omega) (by omega) (by omega) (by omega))
  have q1 := Lib.hid (fun X => first_any X op 91 6 3 (0, 0, 0, false) (by rw [firstM, if_neg (by omega), if_neg (by omega)]) (by omega) (by omega) (by omega) (by omega))
  have q2 := Lib.hid (fun X => first_any X op 103 18 5 (0, 0, 0, false) (by rw [firstM, if_neg (by omega), if_neg (by omega)]) (by omega) (by omega) (by omega) (by omega))
  have q3 := Lib.hid (fun X => first_any X op 139 14 7 (0, 0, 0, false) (by rw [firstM, if_neg (by omega), if_neg (by omega)]) (by omega) (by omega) (by omega) (by omega))
  go_enter Try.func148, Try.ntmps148
  have hB0 := (Below.refl W.heap.size W).alloc (Nat.le_refl _) (.cells #[.int .i64 0, .int .i64 0, .int .i64 0] 290)
  have hb0 := Blk.new W #[.int .i64 0, .int .i64 0, .int .i64 0] 290
  have hz0 : W.heap.size < (W.alloc (.cells #[.int .i64 0, .int .i64 0, .int .i64 0] 290)).heap.size := by simp
  go_wp2_with fail
  refine (q0.out _).mono ?_
  rintro E0 V1 ⟨rfl, hq0⟩
  obtain ⟨hB1, hb1, hz1⟩ := find_step hB0 hb0 hz0 hq0
  clear hq0 hB0 hb0 hz0 q0
  go_wp2_with fail
  refine (q1.out _).mono ?_
  rintro E1 V2 ⟨rfl, hq1⟩
  obtain ⟨hB2, hb2, hz2⟩ := find_step hB1 hb1 hz1 hq1
  clear hq1 hB1 hb1 hz1 q1
  go_wp2_with fail
  refine (q2.out _).mono ?_
  rintro E2 V3 ⟨rfl, hq2⟩
  obtain ⟨hB3, hb3, hz3⟩ := find_step hB2 hb2 hz2 hq2
  clear hq2 hB2 hb2 hz2 q2
  go_wp2_with fail
  refine (q3.out _).mono ?_
  rintro E3 V4 ⟨rfl, hq3⟩
  obtain ⟨hB4, hb4, hz4⟩ := find_step hB3 hb3 hz3 hq3
  clear hq3 hB3 hb3 hz3 q3
  obtain ⟨f0, f1, f2, i0, i1, i2⟩ := find_cells hb4
  have hbf := Lib.hid hb4
  clear hb4
  go_wp2_with fail
  all_goals
    obtain ⟨e0, e1, e2⟩ := fin_cells hbf.out hz4 (.int .i64 8) (.int .i64 (op - 167)) (.int .i64 0)
    exact bodyPost_ret (v := .agg #[.int .i64 8, .int .i64 (op - 167), .int .i64 0]) (by simp [results, Try.results148, go_sem, e0, e1, e2]) rfl ⟨rfl, by (repeat (first | exact hB4 | refine Below.setCell ?_ (by first | (simp; done) | (simp; omega)) _ | refine Below.alloc ?_ (by first | (simp; done) | (simp [World.setCell]; omega)) _))⟩
set_option maxRecDepth 100000 in
set_option maxHeartbeats 1000000 in
theorem find_64512 (W : World) (op : Int) (h0 : 64512 ≤ op) (h1 : op ≤ 64519) : Calls Try.prog 148 #[.int .i64 op] W (FindPost W (9, op - 64512, 0)) := by
  have q0 := Lib.hid (fun X => first_any X op 69 11 2 (0, 0, 0, false) (by rw [firstM, if_neg (by omega), if_neg (by omega)]) (by omega) (by omega) (by omega) (by omega))
  have q1 := Lib.hid (fun X => first_any X op 91 6 3 (0, 0, 0, false) (by rw [firstM, if_neg (by omega), if_neg (by omega)]) (by omega) (by omega) (by omega) (by omega))
  have q2 := Lib.hid (fun X => first_any X op 103 18 5 (0, 0, 0, false) (by rw [firstM, if_neg (by omega), if_neg (by omega)]) (by omega) (by omega) (by omega) (by omega))
  have q3 := Lib.hid (fun X => first_any X op 139 14 7 (0, 0, 0, false) (by rw [firstM, if_neg (by omega), if_neg (by omega)]) (by omega) (by omega) (by omega) (by omega))
  go_enter Try.func148, Try.ntmps148
  have hB0 := (Below.refl W.heap.size W).alloc (Nat.le_refl _) (.cells #[.int .i64 0, .int .i64 0, .int .i64 0] 290)
  have hb0 := Blk.new W #[.int .i64 0, .int .i64 0, .int .i64 0] 290
  have hz0 : W.heap.size < (W.alloc (.cells #[.int .i64 0, .int .i64 0, .int .i64 0] 290)).heap.size := by simp
  go_wp2_with fail
  refine (q0.out _).mono ?_
  rintro E0 V1 ⟨rfl, hq0⟩
  obtain ⟨hB1, hb1, hz1⟩ := find_step hB0 hb0 hz0 hq0
  clear hq0 hB0 hb0 hz0 q0
  go_wp2_with fail
  refine (q1.out _).mono ?_
  rintro E1 V2 ⟨rfl, hq1⟩
  obtain ⟨hB2, hb2, hz2⟩ := find_step hB1 hb1 hz1 hq1
  clear hq1 hB1 hb1 hz1 q1
  go_wp2_with fail
  refine (q2.out _).mono ?_
  rintro E2 V3 ⟨rfl, hq2⟩
  obtain ⟨hB3, hb3, hz3⟩ := find_step hB2 hb2 hz2 hq2
  clear hq2 hB2 hb2 hz2 q2
  go_wp2_with fail
  refine (q3.out _).mono ?_
  rintro E3 V4 ⟨rfl, hq3⟩
  obtain ⟨hB4, hb4, hz4⟩ := find_step hB3 hb3 hz3 hq3
  clear hq3 hB3 hb3 hz3 q3
  obtain ⟨f0, f1, f2, i0, i1, i2⟩ := find_cells hb4
  have hbf := Lib.hid hb4
  clear hb4
  go_wp2_with fail
  all_goals
    obtain ⟨e0, e1, e2⟩ := fin_cells hbf.out hz4 (.int .i64 9) (.int .i64 (op - 64512)) (.int .i64 0)
    exact bodyPost_ret (v := .agg #[.int .i64 9, .int .i64 (op - 64512), .int .i64 0]) (by simp [results, Try.results148, go_sem, e0, e1, e2]) rfl ⟨rfl, by (repeat (first | exact hB4 | refine Below.setCell ?_ (by first | (simp; done) | (simp; omega)) _ | refine Below.alloc ?_ (by first | (simp; done) | (simp [World.setCell]; omega)) _))⟩
set_option maxRecDepth 100000 in
set_option maxHeartbeats 1000000 in
theorem find_none (W : World) (op : Int) (h0 : -9223372036854775808 ≤ op) (h1 : op ≤ 9223372036854775807) (h2 : op < 69 ∨ 191 < op) (h3 : op < 64512 ∨ 64519 < op) : Calls Try.prog 148 #[.int .i64 op] W (FindPost W (0, 0, 0)) := by
  have q0 := Lib.hid (fun X => first_any X op 69 11 2 (0, 0, 0, false) (by rw [firstM, if_neg (by omega), if_neg (by omega)]) (by omega) (by omega) (by omega) (by omega))
  have q1 := Lib.hid (fun X => first_any X op 91 6 3 (0, 0, 0, false) (by rw [firstM, if_neg (by omega), if_neg (by omega)]) (by omega) (by omega) (by omega) (by omega))
  have q2 := Lib.hid (fun X => first_any X op 103 18 5 (0, 0, 0, false) (by rw [firstM, if_neg (by omega), if_neg (by omega)]) (by omega) (by omega) (by omega) (by omega))
  have q3 := Lib.hid (fun X => first_any X op 139 14 7 (0, 0, 0, false) (by rw [firstM, if_neg (by omega), if_neg (by omega)]) (by omega) (by omega) (by omega) (by omega))
  go_enter Try.func148, Try.ntmps148
  have hB0 := (Below.refl W.heap.size W).alloc (Nat.le_refl _) (.cells #[.int .i64 0, .int .i64 0, .int .i64 0] 290)
  have hb0 := Blk.new W #[.int .i64 0, .int .i64 0, .int .i64 0] 290
  have hz0 : W.heap.size < (W.alloc (.cells #[.int .i64 0, .int .i64 0, .int .i64 0] 290)).heap.size := by simp
  go_wp2_with fail
  refine (q0.out _).mono ?_
  rintro E0 V1 ⟨rfl, hq0⟩
  obtain ⟨hB1, hb1, hz1⟩ := find_step hB0 hb0 hz0 hq0
  clear hq0 hB0 hb0 hz0 q0
  go_wp2_with fail
  refine (q1.out _).mono ?_
  rintro E1 V2 ⟨rfl, hq1⟩
  obtain ⟨hB2, hb2, hz2⟩ := find_step hB1 hb1 hz1 hq1
  clear hq1 hB1 hb1 hz1 q1
  go_wp2_with fail
  refine (q2.out _).mono ?_
  rintro E2 V3 ⟨rfl, hq2⟩
  obtain ⟨hB3, hb3, hz3⟩ := find_step hB2 hb2 hz2 hq2
  clear hq2 hB2 hb2 hz2 q2
  go_wp2_with fail
  refine (q3.out _).mono ?_
  rintro E3 V4 ⟨rfl, hq3⟩
  obtain ⟨hB4, hb4, hz4⟩ := find_step hB3 hb3 hz3 hq3
  clear hq3 hB3 hb3 hz3 q3
  obtain ⟨f0, f1, f2, i0, i1, i2⟩ := find_cells hb4
  have hbf := Lib.hid hb4
  clear hb4
  go_wp2_with fail
  all_goals
    obtain ⟨e0, e1, e2⟩ := fin_cells hbf.out hz4 (.int .i64 0) (.int .i64 0) (.int .i64 0)
    exact bodyPost_ret (v := .agg #[.int .i64 0, .int .i64 0, .int .i64 0]) (by simp [results, Try.results148, go_sem, e0, e1, e2]) rfl ⟨rfl, by (repeat (first | exact hB4 | refine Below.setCell ?_ (by first | (simp; done) | (simp; omega)) _ | refine Below.alloc ?_ (by first | (simp; done) | (simp [World.setCell]; omega)) _))⟩
end Go.Proofs.Ytfndlpfceokloaa
end
